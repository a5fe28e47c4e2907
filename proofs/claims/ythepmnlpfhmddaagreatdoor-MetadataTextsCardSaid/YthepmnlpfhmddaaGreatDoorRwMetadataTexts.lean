import Derived.Test.YthepmnlpfhmddaaGreatDoorG10
import Derived.Test.YthepmnlpfhmddaaGreatDoorG11
import Derived.Test.YthepmnlpfhmddaaGreatDoorG04
import Derived.ChangeMaps5
set_option linter.unusedVariables false
set_option linter.unusedSimpArgs false
set_option maxRecDepth 10000
namespace Go.Proofs
open Go Go.Id
set_option maxHeartbeats 16000000
set_option maxRecDepth 100000
theorem c_l_texts (p : Par) (hn : p.keys.length ≤ 9223372036854775807) (hnl : p.nk = true → p.keys = []) : CallP Pr 4 [.agg [.str p.id, .str p.addr, .slice 6 p.nk (p.keys.map Key.cs) none, .int .i64 p.f, .int .i64 p.u]] (.bool true) := by
 have hsm := same_nk p
 refine CallP.of_wp Tryz.func4 rfl (by kernel_rfl) Tryz.ntmps4 (by simp) ?_
 simp only [frameOf, Nat.reduceAdd, Nat.zero_add]
 refine WP.sr [1] (by kernel_rfl) fun K hK => ?_
 simp (decide := true) only [TF, EV, pPD, Par.cs, ↓reduceIte, Int.reduceToNat]
 refine hK _ _ ?_; clear hK K
 refine WP.seq ?_
 refine WP.sr [1, 11] (by kernel_rfl) fun K hK => ?_
 simp (decide := true) only [TF, EV, pPD, Par.cs, ↓reduceIte, Int.reduceToNat]
 refine CallK.pure (c_r_great43 p hn hnl) rfl rfl (by simp [-List.map_take]) ?_
 simp (decide := true) only [TF, EV, pPD, Par.cs, ↓reduceIte, Int.reduceToNat]
 refine hK _ _ ?_; clear hK K
 refine WP.cond (b := _) rfl (fun q1 => ?_) (fun q1 => ?_)
 ·
  refine WP.sr [2] (by kernel_rfl) fun K hK => ?_
  simp (decide := true) only [TF, EV, q1, pPD, Par.cs, ↓reduceIte, Int.reduceToNat]
  refine CallK.pure (c_live) rfl rfl (by simp [-List.map_take]) ?_
  simp (decide := true) only [TF, EV, q1, pPD, Par.cs, ↓reduceIte, Int.reduceToNat]
  refine hK _ _ ?_; clear hK K
  refine WP.ret ?_
  exact Ends.pure (.inr rfl) rfl (Le.of_eq (by simp (decide := true) only [St.get, lk, W, q1, ↓reduceIte])) (by simp)
 ·
  have hgr : greatP p = false := by simpa using q1
  obtain ⟨hp, hid, had, hkl⟩ := great_p hnl hgr
  refine WP.skip ?_
  show WP _ _ _ _ _ _
  refine WP.sr [1, 3, 4] (by kernel_rfl) fun K hK => ?_
  simp (decide := true) only [TF, EV, q1, pPD, Par.cs, ↓reduceIte, Int.reduceToNat]
  refine CallK.pure (c_m_text p hp) rfl rfl (by simp [-List.map_take]) ?_
  simp (decide := true) only [TF, EV, q1, pPD, Par.cs, ↓reduceIte, Int.reduceToNat]
  refine hK _ _ ?_; clear hK K
  refine WP.sr [1, 3, 4, 5, 6] (by kernel_rfl) fun K hK => ?_
  simp (decide := true) only [TF, EV, q1, pPD, Par.cs, ↓reduceIte, Int.reduceToNat]
  refine CallK.pure (c_r_text43 p hp) rfl rfl (by simp [-List.map_take]) ?_
  simp (decide := true) only [TF, EV, q1, pPD, Par.cs, ↓reduceIte, Int.reduceToNat]
  refine hK _ _ ?_; clear hK K
  refine WP.seq ?_
  refine WP.sr [1, 3, 4, 34] (by kernel_rfl) fun K hK => ?_
  simp (decide := true) only [TF, EV, q1, pPD, Par.cs, ↓reduceIte, Int.reduceToNat]
  refine CallK.pure (c_live) rfl rfl (by simp [-List.map_take]) ?_
  simp (decide := true) only [TF, EV, q1, pPD, Par.cs, ↓reduceIte, Int.reduceToNat]
  refine hK _ _ ?_; clear hK K
  refine WP.cond (b := false) (by rfl) nofun (fun _ => ?_)
  refine WP.skip ?_
  show WP _ _ _ _ _ _
  refine WP.seq ?_
  refine WP.sr [1, 3, 36] (by kernel_rfl) fun K hK => ?_
  simp (decide := true) only [TF, EV, q1, pPD, Par.cs, ↓reduceIte, Int.reduceToNat]
  refine hK _ _ ?_; clear hK K
  refine WP.cond (b := _) rfl (fun q2 => ?_) (fun q2 => ?_)
  ·
   refine WP.sr [2] (by kernel_rfl) fun K hK => ?_
   simp (decide := true) only [TF, EV, q1, q2, pPD, Par.cs, ↓reduceIte, Int.reduceToNat]
   refine hK _ _ ?_; clear hK K
   refine WP.ret ?_
   exact Ends.pure (.inr rfl) rfl (Le.of_eq (by simp (decide := true) only [St.get, lk, W, q1, q2, ↓reduceIte])) (by simp)
  ·
   have htp := text_parseP q2
   refine WP.skip ?_
   show WP _ _ _ _ _ _
   refine WP.sr [1, 7, 8, 9] (by kernel_rfl) fun K hK => ?_
   simp (decide := true) only [TF, EV, q1, q2, htp, hsm, pPD, Par.cs, ↓reduceIte, Int.reduceToNat]
   refine CallK.pure (c_m_parse (textP p).1 (Nat.le_trans (text_len p) (by decide))) rfl rfl (by simp [-List.map_take]) ?_
   simp (decide := true) only [TF, EV, q1, q2, htp, hsm, pPD, Par.cs, ↓reduceIte, Int.reduceToNat]
   refine hK _ _ ?_; clear hK K
   refine WP.sr [2] (by kernel_rfl) fun K hK => ?_
   simp (decide := true) only [TF, EV, q1, q2, htp, hsm, pPD, Par.cs, ↓reduceIte, Int.reduceToNat]
   refine CallK.pure (c_r_same43 { p with nk := false } p (nk_ok hp) hp) rfl rfl (by simp [-List.map_take]) ?_
   simp (decide := true) only [TF, EV, q1, q2, htp, hsm, pPD, Par.cs, ↓reduceIte, Int.reduceToNat]
   refine hK _ _ ?_; clear hK K
   refine WP.ret ?_
   exact Ends.pure (.inr rfl) rfl (Le.of_eq (by simp (decide := true) only [St.get, lk, W, q1, q2, htp, hsm, ↓reduceIte])) (by simp)
end Go.Proofs
set_option maxRecDepth 100000
namespace Go.Proofs.YthepmnlpfhmddaaGreatDoor.RwTexts
open Go Go.Id Go.Proofs Go.ChangeShapes Go.ChangeMaps Go.WideShapes Go.ChangeAt Go.RowKit Go.Proofs.YthepmnlpfhmddaaGreatDoor.Rw
theorem contract (H : Type) (enc : TypeId × Value → H) (W : World) (base : Nat) (args : Array Value) (ds gs : List (DataW H)) (before : List MemPlace)
    (hval : ∀ (j : Nat) t v, Tryz.f4.params[j]? = some t → args[j]? = some v → Value.okWide Tryz.prog W .any base t v)
    (hW : DataW.Whole enc Tryz.prog Tryz.f4.params.toList Rows.metadataTextsSpec.vars false W args.toList ds gs before) (hL : laidMetH Tryz.prog laidL W) (hS : W.ShapedOpen Tryz.prog) :
    Calls Tryz.prog 4 args W fun e W' => ∃ v, e = .returned v ∧ Rows.metadataTextsSpec.post enc Tryz.prog Tryz.f4 false true false false W args v W' := by
  have hW' := hW
  obtain ⟨p, q, hA0, hV, rfl, hfz, hnd⟩ := hW
  have hA : DataW.TrodAll enc Tryz.prog W 0 (fun _ => true) true Tryz.f4.params.toList args.toList ds p := hA0
  rw [Tryz.params4] at hA hval
  obtain ⟨al⟩ := args
  dsimp only at hA
  obtain ⟨v0, _, d0, _, p_0, _, rfl, rfl, rfl, h0, hA⟩ := trodAll_cons hA
  obtain ⟨rfl, rfl, rfl⟩ := trodAll_nil hA
  obtain ⟨rfl, rfl⟩ := trodVars_none hV
  obtain ⟨p0, hn0, hnl0, r0⟩ := arg_par (hval 0 26 v0 rfl rfl) h0
  refine (CallP.run (c_l_texts p0 hn0 hnl0) W (polI_of hL hS) (heap_of hS) [v0] rfl (Rw.one r0)).mono ?_
  rintro e W' ⟨v, rfl, hr, hb⟩
  cases hr
  exact ⟨_, rfl, post_all hW' rfl hb (of_decide_eq_true (by kernel_rfl)) (by kernel_rfl) rfl rfl rfl⟩
abbrev wit : Array Value := #[.agg #[.string ⟨#[]⟩, .string ⟨#[]⟩, .slice none 0 0, .int .i64 0, .int .i64 0]]
theorem reads (os : Os) {H : Type} (enc : TypeId × Value → H) : (DataW.whole enc Tryz.prog (memW os wit) Tryz.f4.params.toList Rows.metadataTextsSpec.vars false wit.toList 8).map (fun x => (x.1, x.2.1)) = some ([.agg [.lit (.string []), .lit (.string []), .nil, .agg [.lit (.int .i64 0), .lit (.int .i64 0)]]], []) := by kernel_rfl
theorem lifted (os : Os) (started : os.Started) (H : Type) (enc : TypeId × Value → H) (F : Stop.Interp) :
    ReturnsInHanded {} Tryz.checked os 4 .any ((OpenSpec.ofChange Rows.metadataTextsSpec).preRow enc Tryz.prog Tryz.f4 Rows.metadataTextsRow.domain false Rows.metadataTextsRow.laid) (((OpenSpec.ofChange Rows.metadataTextsSpec).at F).post enc Tryz.prog Tryz.f4 false true false false) := by
  obtain ⟨⟨x1, x2, x3⟩, hx, hx1⟩ := Option.map_eq_some_iff.1 (reads os enc)
  simp only [Prod.mk.injEq] at hx1
  obtain ⟨rfl, rfl⟩ := hx1
  refine returnsInHanded_of_row (C := Tryz.checked) (s := OpenSpec.ofChange Rows.metadataTextsSpec) own started (by kernel_rfl) Tryz.func4
    (witness_row_atRef (enc := enc) (C := Tryz.checked) false (laidWorld os) wit rfl (by kernel_rfl) (by kernel_rfl) (by kernel_rfl)
      (OpenSpec.preRow_of_cond 8 hx (by kernel_rfl) (fun k hk => by cases hk) (by kernel_rfl) (laid_met os _))) ?_
  intro W base args ds gs before hval hW _ _ _ hL hS _
  exact contract H enc W base args ds gs before hval hW hL hS
theorem said : Rows.MetadataTextsSaid :=
  OpenClaim.holds_of_cond 4 Tryz.f4 rfl rfl rfl rfl rfl rfl rfl ⟨rfl, rfl, rfl, rfl, rfl⟩ rfl rfl rfl rfl rfl (by kernel_rfl) Tryz.func4 (by kernel_rfl)
    (of_decide_eq_true (by kernel_rfl)) (by unfold Func.isWrapper; first | (rw [if_pos (by decide +kernel)]; kernel_rfl) | (rw [if_neg (by decide +kernel)]; exact ⟨rfl, rfl⟩))
    (fun os started H enc _ F => by rw [OpenClaim.pre_eq_preRow]; exact lifted os started H enc F)
theorem plain (f : FuncId) (fn : Func) (hf : Tryz.pinned.checked.prog.funcNamed Rows.metadataTextsRow.func = some f) (hfn : Tryz.pinned.checked.prog.funcs[f]? = some fn) :
    true = Tryz.pinned.checked.prog.looks [] ∧ ∀ (j : Nat) t, fn.params[j]? = some t → Tryz.pinned.checked.prog.wantsStandIn t = false := by
  obtain rfl : f = 4 := Option.some.inj ((show Tryz.prog.funcNamed Rows.metadataTextsRow.func = some 4 by kernel_rfl).symm.trans hf) |>.symm
  obtain rfl : fn = Tryz.f4 := (Option.some.inj (Tryz.func4.symm.trans hfn)).symm
  refine ⟨by kernel_rfl, fun j t ht => ?_⟩
  have hall : (Tryz.f4.params.toList.all fun t => Tryz.prog.wantsStandIn t == false) = true := by kernel_rfl
  exact eq_of_beq (List.all_eq_true.1 hall t (by simpa using Array.mem_of_getElem? ht))
theorem card : Rows.MetadataTextsCardSaid :=
  Claim7.holds_tied_plain_at .later [] _ _ _ _ said (fun _ h => by cases h) (by kernel_rfl) (fun _ h => by cases h) metadataTexts_row_tie rfl ⟨rfl, rfl⟩ (by kernel_rfl) rfl plain (by kernel_rfl)
end Go.Proofs.YthepmnlpfhmddaaGreatDoor.RwTexts
#print axioms Go.Proofs.YthepmnlpfhmddaaGreatDoor.RwTexts.card
