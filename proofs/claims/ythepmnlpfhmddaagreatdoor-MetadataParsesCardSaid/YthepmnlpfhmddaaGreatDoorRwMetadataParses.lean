import Derived.Test.YthepmnlpfhmddaaGreatDoorG10
import Derived.Test.YthepmnlpfhmddaaGreatDoorG11
import Derived.Test.YthepmnlpfhmddaaGreatDoorG04
import Derived.ChangeMaps5
set_option linter.unusedVariables false
set_option linter.unusedSimpArgs false
set_option maxRecDepth 10000
namespace Go.Proofs
open Go Go.Id
set_option maxHeartbeats 16000000
set_option maxRecDepth 100000
theorem c_l_parses (s : List UInt8) : CallP Pr 5 [.str s] (.bool true) := by
 have hsm := sameP_refl (pP s).1
 have hpo := pP_ok s
 refine CallP.of_wp Tryz.func5 rfl (by kernel_rfl) Tryz.ntmps5 (by simp) ?_
 simp only [frameOf, Nat.reduceAdd, Nat.zero_add]
 refine WP.sr [0] (by kernel_rfl) fun K hK => ?_
 simp (decide := true) only [TF, EV, hsm, pPD, Par.cs, ↓reduceIte, Int.reduceToNat]
 refine hK _ _ ?_; clear hK K
 refine WP.seq ?_
 refine WP.sr [0, 13] (by kernel_rfl) fun K hK => ?_
 simp (decide := true) only [TF, EV, hsm, pPD, Par.cs, ↓reduceIte, Int.reduceToNat]
 refine hK _ _ ?_; clear hK K
 refine WP.cond (b := _) rfl (fun q1 => ?_) (fun q1 => ?_)
 ·
  refine WP.sr [2] (by kernel_rfl) fun K hK => ?_
  simp (decide := true) only [TF, EV, hsm, q1, pPD, Par.cs, ↓reduceIte, Int.reduceToNat]
  refine CallK.pure (c_live) rfl rfl (by simp [-List.map_take]) ?_
  simp (decide := true) only [TF, EV, hsm, q1, pPD, Par.cs, ↓reduceIte, Int.reduceToNat]
  refine hK _ _ ?_; clear hK K
  refine WP.ret ?_
  exact Ends.pure (.inr rfl) rfl (Le.of_eq (by simp (decide := true) only [St.get, lk, W, hsm, q1, ↓reduceIte])) (by simp)
 ·
  have hs : s.length ≤ 800 := by have := of_decide_eq_false q1; omega
  refine WP.skip ?_
  show WP _ _ _ _ _ _
  refine WP.sr [0, 3, 4, 5] (by kernel_rfl) fun K hK => ?_
  simp (decide := true) only [TF, EV, hsm, q1, pPD, Par.cs, ↓reduceIte, Int.reduceToNat]
  refine CallK.pure (c_m_parse s (by omega)) rfl rfl (by simp [-List.map_take]) ?_
  simp (decide := true) only [TF, EV, hsm, q1, pPD, Par.cs, ↓reduceIte, Int.reduceToNat]
  refine hK _ _ ?_; clear hK K
  refine WP.sr [0, 3, 4, 5, 6, 7, 8] (by kernel_rfl) fun K hK => ?_
  simp (decide := true) only [TF, EV, hsm, q1, pPD, Par.cs, ↓reduceIte, Int.reduceToNat]
  refine CallK.pure (c_r_parse43 s (by omega)) rfl rfl (by simp [-List.map_take]) ?_
  simp (decide := true) only [TF, EV, hsm, q1, pPD, Par.cs, ↓reduceIte, Int.reduceToNat]
  refine hK _ _ ?_; clear hK K
  refine WP.seq ?_
  refine WP.sr [0, 3, 5, 44] (by kernel_rfl) fun K hK => ?_
  simp (decide := true) only [TF, EV, hsm, q1, pPD, Par.cs, ↓reduceIte, Int.reduceToNat]
  refine CallK.pure (c_r_same43 (pP s).1 (pP s).1 hpo hpo) rfl rfl (by simp [-List.map_take]) ?_
  simp (decide := true) only [TF, EV, hsm, q1, pPD, Par.cs, ↓reduceIte, Int.reduceToNat]
  refine CallK.pure (c_live) rfl rfl (by simp [-List.map_take]) ?_
  simp (decide := true) only [TF, EV, hsm, q1, pPD, Par.cs, ↓reduceIte, Int.reduceToNat]
  refine hK _ _ ?_; clear hK K
  refine WP.cond (b := false) (by rfl) nofun (fun _ => ?_)
  refine WP.skip ?_
  show WP _ _ _ _ _ _
  refine WP.seq ?_
  refine WP.sr [0, 3, 46] (by kernel_rfl) fun K hK => ?_
  simp (decide := true) only [TF, EV, hsm, q1, pPD, Par.cs, ↓reduceIte, Int.reduceToNat]
  refine hK _ _ ?_; clear hK K
  refine WP.cond (b := _) rfl (fun q2 => ?_) (fun q2 => ?_)
  ·
   refine WP.sr [2] (by kernel_rfl) fun K hK => ?_
   simp (decide := true) only [TF, EV, hsm, q1, q2, pPD, Par.cs, ↓reduceIte, Int.reduceToNat]
   refine hK _ _ ?_; clear hK K
   refine WP.ret ?_
   exact Ends.pure (.inr rfl) rfl (Le.of_eq (by simp (decide := true) only [St.get, lk, W, hsm, q1, q2, ↓reduceIte])) (by simp)
  ·
   obtain ⟨htx, hck⟩ := parse_textP q2
   refine WP.skip ?_
   show WP _ _ _ _ _ _
   refine WP.sr [0, 3, 9, 10] (by kernel_rfl) fun K hK => ?_
   simp (decide := true) only [TF, EV, hsm, q1, q2, htx, hck, pPD, Par.cs, ↓reduceIte, Int.reduceToNat]
   refine CallK.pure (c_m_text (pP s).1 hpo) rfl rfl (by simp [-List.map_take]) ?_
   simp (decide := true) only [TF, EV, hsm, q1, q2, htx, hck, pPD, Par.cs, ↓reduceIte, Int.reduceToNat]
   refine hK _ _ ?_; clear hK K
   refine WP.sr [2] (by kernel_rfl) fun K hK => ?_
   simp (decide := true) only [TF, EV, hsm, q1, q2, htx, hck, pPD, Par.cs, ↓reduceIte, Int.reduceToNat]
   refine CallK.pure (c_m_check (pP s).1 hpo) rfl rfl (by simp [-List.map_take]) ?_
   simp (decide := true) only [TF, EV, hsm, q1, q2, htx, hck, pPD, Par.cs, ↓reduceIte, Int.reduceToNat]
   refine hK _ _ ?_; clear hK K
   refine WP.ret ?_
   exact Ends.pure (.inr rfl) rfl (Le.of_eq (by simp (decide := true) only [St.get, lk, W, hsm, q1, q2, htx, hck, ↓reduceIte])) (by simp)
end Go.Proofs
set_option maxRecDepth 100000
namespace Go.Proofs.YthepmnlpfhmddaaGreatDoor.RwParses
open Go Go.Id Go.Proofs Go.ChangeShapes Go.ChangeMaps Go.WideShapes Go.ChangeAt Go.RowKit Go.Proofs.YthepmnlpfhmddaaGreatDoor.Rw
theorem contract (H : Type) (enc : TypeId × Value → H) (W : World) (base : Nat) (args : Array Value) (ds gs : List (DataW H)) (before : List MemPlace)
    (hval : ∀ (j : Nat) t v, Tryz.f5.params[j]? = some t → args[j]? = some v → Value.okWide Tryz.prog W .any base t v)
    (hW : DataW.Whole enc Tryz.prog Tryz.f5.params.toList Rows.metadataParsesSpec.vars false W args.toList ds gs before) (hL : laidMetH Tryz.prog laidL W) (hS : W.ShapedOpen Tryz.prog) :
    Calls Tryz.prog 5 args W fun e W' => ∃ v, e = .returned v ∧ Rows.metadataParsesSpec.post enc Tryz.prog Tryz.f5 false true false false W args v W' := by
  have hW' := hW
  obtain ⟨p, q, hA0, hV, rfl, hfz, hnd⟩ := hW
  have hA : DataW.TrodAll enc Tryz.prog W 0 (fun _ => true) true Tryz.f5.params.toList args.toList ds p := hA0
  rw [Tryz.params5] at hA hval
  obtain ⟨al⟩ := args
  dsimp only at hA
  obtain ⟨v0, _, d0, _, p_0, _, rfl, rfl, rfl, h0, hA⟩ := trodAll_cons hA
  obtain ⟨rfl, rfl, rfl⟩ := trodAll_nil hA
  obtain ⟨rfl, rfl⟩ := trodVars_none hV
  obtain ⟨s0, r0⟩ := arg_str (hval 0 9 v0 rfl rfl) h0
  refine (CallP.run (c_l_parses s0) W (polI_of hL hS) (heap_of hS) [v0] rfl (Rw.one r0)).mono ?_
  rintro e W' ⟨v, rfl, hr, hb⟩
  cases hr
  exact ⟨_, rfl, post_all hW' rfl hb (of_decide_eq_true (by kernel_rfl)) (by kernel_rfl) rfl rfl rfl⟩
abbrev wit : Array Value := #[.string ⟨#[]⟩]
theorem reads (os : Os) {H : Type} (enc : TypeId × Value → H) : (DataW.whole enc Tryz.prog (memW os wit) Tryz.f5.params.toList Rows.metadataParsesSpec.vars false wit.toList 8).map (fun x => (x.1, x.2.1)) = some ([.lit (.string [])], []) := by kernel_rfl
theorem lifted (os : Os) (started : os.Started) (H : Type) (enc : TypeId × Value → H) (F : Stop.Interp) :
    ReturnsInHanded {} Tryz.checked os 5 .any ((OpenSpec.ofChange Rows.metadataParsesSpec).preRow enc Tryz.prog Tryz.f5 Rows.metadataParsesRow.domain false Rows.metadataParsesRow.laid) (((OpenSpec.ofChange Rows.metadataParsesSpec).at F).post enc Tryz.prog Tryz.f5 false true false false) := by
  obtain ⟨⟨x1, x2, x3⟩, hx, hx1⟩ := Option.map_eq_some_iff.1 (reads os enc)
  simp only [Prod.mk.injEq] at hx1
  obtain ⟨rfl, rfl⟩ := hx1
  refine returnsInHanded_of_row (C := Tryz.checked) (s := OpenSpec.ofChange Rows.metadataParsesSpec) own started (by kernel_rfl) Tryz.func5
    (witness_row_atRef (enc := enc) (C := Tryz.checked) false (laidWorld os) wit rfl (by kernel_rfl) (by kernel_rfl) (by kernel_rfl)
      (OpenSpec.preRow_of_cond 8 hx (by kernel_rfl) (fun k hk => by cases hk) (by kernel_rfl) (laid_met os _))) ?_
  intro W base args ds gs before hval hW _ _ _ hL hS _
  exact contract H enc W base args ds gs before hval hW hL hS
theorem said : Rows.MetadataParsesSaid :=
  OpenClaim.holds_of_cond 5 Tryz.f5 rfl rfl rfl rfl rfl rfl rfl ⟨rfl, rfl, rfl, rfl, rfl⟩ rfl rfl rfl rfl rfl (by kernel_rfl) Tryz.func5 (by kernel_rfl)
    (of_decide_eq_true (by kernel_rfl)) (by unfold Func.isWrapper; first | (rw [if_pos (by decide +kernel)]; kernel_rfl) | (rw [if_neg (by decide +kernel)]; exact ⟨rfl, rfl⟩))
    (fun os started H enc _ F => by rw [OpenClaim.pre_eq_preRow]; exact lifted os started H enc F)
theorem plain (f : FuncId) (fn : Func) (hf : Tryz.pinned.checked.prog.funcNamed Rows.metadataParsesRow.func = some f) (hfn : Tryz.pinned.checked.prog.funcs[f]? = some fn) :
    true = Tryz.pinned.checked.prog.looks [] ∧ ∀ (j : Nat) t, fn.params[j]? = some t → Tryz.pinned.checked.prog.wantsStandIn t = false := by
  obtain rfl : f = 5 := Option.some.inj ((show Tryz.prog.funcNamed Rows.metadataParsesRow.func = some 5 by kernel_rfl).symm.trans hf) |>.symm
  obtain rfl : fn = Tryz.f5 := (Option.some.inj (Tryz.func5.symm.trans hfn)).symm
  refine ⟨by kernel_rfl, fun j t ht => ?_⟩
  have hall : (Tryz.f5.params.toList.all fun t => Tryz.prog.wantsStandIn t == false) = true := by kernel_rfl
  exact eq_of_beq (List.all_eq_true.1 hall t (by simpa using Array.mem_of_getElem? ht))
theorem card : Rows.MetadataParsesCardSaid :=
  Claim7.holds_tied_plain_at .later [] _ _ _ _ said (fun _ h => by cases h) (by kernel_rfl) (fun _ h => by cases h) metadataParses_row_tie rfl ⟨rfl, rfl⟩ (by kernel_rfl) rfl plain (by kernel_rfl)
end Go.Proofs.YthepmnlpfhmddaaGreatDoor.RwParses
#print axioms Go.Proofs.YthepmnlpfhmddaaGreatDoor.RwParses.card
