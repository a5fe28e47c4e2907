/- Text and Parse are as specified, and inverse to each other. Conditions: none, the given statement. -/
import Derived.Test.YtabkoicelflhcaaGreatDoorG11
import Derived.Test.YtabkoicelflhcaaGreatDoorG09
import Derived.Test.YtabkoicelflhcaaGreatDoorG10
import Derived.ChangeMaps5
set_option linter.unusedSimpArgs false
set_option linter.unusedVariables false
set_option maxRecDepth 10000
namespace Go.Proofs
open Go Go.Id
set_option maxHeartbeats 4000000
theorem c_prune2 (l : List Key) (nl : Bool) (now : Int) (hn : l.length ≤ 1099511627776) (hnl : nl = true → l = []) : CallP Pr 24 [.slice 6 nl (l.map Key.cs) none, .int .i64 now] (.slice 6 (if l.isEmpty then nl else false) ((pruneK now l).map Key.cs) none) := c_prune l nl now hn hnl
theorem pnil {l : List Key} {nl : Bool} (now : Int) (hnl : nl = true → l = []) : (if l.isEmpty then nl else false) = true → pruneK now l = [] := by
 intro h
 split at h
 · rename_i h1; rw [List.isEmpty_iff.1 h1]; rfl
 · cases h

theorem c_l_texts (l : List Key) (nl : Bool) (hn : l.length ≤ 9223372036854775807) (hnl : nl = true → l = []) (s : List UInt8) : CallP Pr 8 [.slice 6 nl (l.map Key.cs) none, .str s] (.bool true) := by
 have hsp := sameK_refl (pK s).1
 have hsl := sameK_refl l
 refine CallP.of_wp Tryz.func8 rfl (by kernel_rfl) Tryz.ntmps8 (by simp) ?_
 simp only [frameOf, Nat.reduceAdd, Nat.zero_add]
 refine WP.sr [0, 1] (by kernel_rfl) fun K hK => ?_
 simp (decide := true) only [TF, EV, hsp, hsl, pKD, Bool.true_and, Bool.and_true, ↓reduceIte, Int.reduceToNat]
 refine hK _ _ ?_; clear hK K
 refine WP.seq ?_
 refine WP.sr [0, 1, 26] (by kernel_rfl) fun K hK => ?_
 simp (decide := true) only [TF, EV, hsp, hsl, pKD, Bool.true_and, Bool.and_true, ↓reduceIte, Int.reduceToNat]
 refine CallK.pure (c_great l nl 20 hn hnl) rfl rfl (by simp [-List.map_take]) ?_
 refine runOps.take 1 fun J hJ => ?_
 simp (decide := true) only [TF, EV, hsp, hsl, pKD, Bool.true_and, Bool.and_true, ↓reduceIte, Int.reduceToNat]
 refine hJ _ _ ?_; clear hJ J
 refine runOps.part 22 rfl (fun q1 => ?_) (fun q1 => ?_)
 ·
  simp (decide := true) only [TF, EV, hsp, hsl, q1, pKD, Bool.true_and, Bool.and_true, ↓reduceIte, Int.reduceToNat]
  refine hK _ _ ?_; clear hK K
  refine WP.cond (b := true) (by rfl) (fun _ => ?_) nofun
  refine WP.sr [4] (by kernel_rfl) fun K hK => ?_
  simp (decide := true) only [TF, EV, hsp, hsl, q1, pKD, Bool.true_and, Bool.and_true, ↓reduceIte, Int.reduceToNat]
  refine CallK.pure (c_live) rfl rfl (by simp [-List.map_take]) ?_
  simp (decide := true) only [TF, EV, hsp, hsl, q1, pKD, Bool.true_and, Bool.and_true, ↓reduceIte, Int.reduceToNat]
  refine hK _ _ ?_; clear hK K
  refine WP.ret ?_
  exact Ends.pure (.inr rfl) rfl (Le.of_eq (by simp (decide := true) only [St.get, lk, W, hsp, hsl, q1, ↓reduceIte])) (by simp)
 ·
  have hgr : greatB l ((20 : Nat) : Int) = false := by simpa using q1
  obtain ⟨hlen, hok⟩ := great_no hgr
  simp (decide := true) only [TF, EV, hsp, hsl, q1, pKD, Bool.true_and, Bool.and_true, ↓reduceIte, Int.reduceToNat]
  refine hK _ _ ?_; clear hK K
  refine WP.cond (b := _) rfl (fun q2 => ?_) (fun q2 => ?_)
  ·
   refine WP.sr [4] (by kernel_rfl) fun K hK => ?_
   simp (decide := true) only [TF, EV, hsp, hsl, q1, q2, pKD, Bool.true_and, Bool.and_true, ↓reduceIte, Int.reduceToNat]
   refine CallK.pure (c_live) rfl rfl (by simp [-List.map_take]) ?_
   simp (decide := true) only [TF, EV, hsp, hsl, q1, q2, pKD, Bool.true_and, Bool.and_true, ↓reduceIte, Int.reduceToNat]
   refine hK _ _ ?_; clear hK K
   refine WP.ret ?_
   exact Ends.pure (.inr rfl) rfl (Le.of_eq (by simp (decide := true) only [St.get, lk, W, hsp, hsl, q1, q2, ↓reduceIte])) (by simp)
  ·
   have hs6 : s.length ≤ 600 := by have := of_decide_eq_false q2; omega
   obtain ⟨hpl, hpo⟩ := parsed_ok hs6
   refine WP.skip ?_
   show WP _ _ _ _ _ _
   refine WP.sr [0, 1, 5, 6] (by kernel_rfl) fun K hK => ?_
   simp (decide := true) only [TF, EV, hsp, hsl, q1, q2, pKD, Bool.true_and, Bool.and_true, ↓reduceIte, Int.reduceToNat]
   refine CallK.pure (c_text l nl (by omega) hnl hok) rfl rfl (by simp [-List.map_take]) ?_
   simp (decide := true) only [TF, EV, hsp, hsl, q1, q2, pKD, Bool.true_and, Bool.and_true, ↓reduceIte, Int.reduceToNat]
   refine hK _ _ ?_; clear hK K
   refine WP.sr [0, 1, 5, 6, 7, 8] (by kernel_rfl) fun K hK => ?_
   simp (decide := true) only [TF, EV, hsp, hsl, q1, q2, pKD, Bool.true_and, Bool.and_true, ↓reduceIte, Int.reduceToNat]
   refine CallK.pure (c_r_text l nl (by omega) hnl hok) rfl rfl (by simp [-List.map_take]) ?_
   simp (decide := true) only [TF, EV, hsp, hsl, q1, q2, pKD, Bool.true_and, Bool.and_true, ↓reduceIte, Int.reduceToNat]
   refine hK _ _ ?_; clear hK K
   refine WP.sr [0, 1, 5, 6, 7, 8, 9, 10, 11] (by kernel_rfl) fun K hK => ?_
   simp (decide := true) only [TF, EV, hsp, hsl, q1, q2, pKD, Bool.true_and, Bool.and_true, ↓reduceIte, Int.reduceToNat]
   refine CallK.pure (c_parse s (by omega)) rfl rfl (by simp [-List.map_take]) ?_
   simp (decide := true) only [TF, EV, hsp, hsl, q1, q2, pKD, Bool.true_and, Bool.and_true, ↓reduceIte, Int.reduceToNat]
   refine hK _ _ ?_; clear hK K
   refine WP.sr [0, 1, 5, 6, 7, 8, 9, 10, 11, 12, 13, 14] (by kernel_rfl) fun K hK => ?_
   simp (decide := true) only [TF, EV, hsp, hsl, q1, q2, pKD, Bool.true_and, Bool.and_true, ↓reduceIte, Int.reduceToNat]
   refine CallK.pure (c_r_parse s (by omega)) rfl rfl (by simp [-List.map_take]) ?_
   simp (decide := true) only [TF, EV, hsp, hsl, q1, q2, pKD, Bool.true_and, Bool.and_true, ↓reduceIte, Int.reduceToNat]
   refine hK _ _ ?_; clear hK K
   refine WP.seq ?_
   refine WP.sr [0, 1, 5, 6, 9, 11, 77] (by kernel_rfl) fun K hK => ?_
   simp (decide := true) only [TF, EV, hsp, hsl, q1, q2, pKD, Bool.true_and, Bool.and_true, ↓reduceIte, Int.reduceToNat]
   refine CallK.pure (c_r_same (pK s).1 (pK s).1.isEmpty (pK s).1 (pK s).1.isEmpty hpl List.isEmpty_iff.1 hpl List.isEmpty_iff.1) rfl rfl (by simp [-List.map_take]) ?_
   simp (decide := true) only [TF, EV, hsp, hsl, q1, q2, pKD, Bool.true_and, Bool.and_true, ↓reduceIte, Int.reduceToNat]
   refine CallK.pure (c_live) rfl rfl (by simp [-List.map_take]) ?_
   simp (decide := true) only [TF, EV, hsp, hsl, q1, q2, pKD, Bool.true_and, Bool.and_true, ↓reduceIte, Int.reduceToNat]
   refine hK _ _ ?_; clear hK K
   refine WP.cond (b := false) (by rfl) nofun (fun _ => ?_)
   refine WP.skip ?_
   show WP _ _ _ _ _ _
   refine WP.seq ?_
   refine WP.sr [0, 1, 5, 6, 9, 79] (by kernel_rfl) fun K hK => ?_
   simp (decide := true) only [TF, EV, hsp, hsl, q1, q2, pKD, Bool.true_and, Bool.and_true, ↓reduceIte, Int.reduceToNat]
   refine hK _ _ ?_; clear hK K
   refine WP.cond (b := _) rfl (fun q3 => ?_) (fun q3 => ?_)
   ·
    have hz : (pK s).2.2 = 0 := by simpa using q3
    have htx := textK_parse hz
    refine WP.sr [0, 1, 5, 6, 15, 16] (by kernel_rfl) fun K hK => ?_
    simp (decide := true) only [TF, EV, hsp, hsl, q1, q2, q3, hz, htx, pKD, Bool.true_and, Bool.and_true, ↓reduceIte, Int.reduceToNat]
    refine CallK.pure (c_text (pK s).1 (pK s).1.isEmpty hpl List.isEmpty_iff.1 hpo) rfl rfl (by simp [-List.map_take]) ?_
    simp (decide := true) only [TF, EV, hsp, hsl, q1, q2, q3, hz, htx, pKD, Bool.true_and, Bool.and_true, ↓reduceIte, Int.reduceToNat]
    refine hK _ _ ?_; clear hK K
    refine WP.sr [0, 5, 6, 91] (by kernel_rfl) fun K hK => ?_
    simp (decide := true) only [TF, EV, hsp, hsl, q1, q2, q3, hz, htx, pKD, Bool.true_and, Bool.and_true, ↓reduceIte, Int.reduceToNat]
    refine hK _ _ ?_; clear hK K
    refine WP.cond (b := false) (by rfl) nofun (fun _ => ?_)
    refine WP.skip ?_
    show WP _ _ _ _ _ _
    refine WP.seq ?_
    refine WP.sr [0, 5, 93] (by kernel_rfl) fun K hK => ?_
    simp (decide := true) only [TF, EV, hsp, hsl, q1, q2, q3, hz, htx, pKD, Bool.true_and, Bool.and_true, ↓reduceIte, Int.reduceToNat]
    refine hK _ _ ?_; clear hK K
    refine WP.cond (b := _) rfl (fun q4 => ?_) (fun q4 => ?_)
    ·
     refine WP.sr [4] (by kernel_rfl) fun K hK => ?_
     simp (decide := true) only [TF, EV, hsp, hsl, q1, q2, q3, hz, htx, q4, pKD, Bool.true_and, Bool.and_true, ↓reduceIte, Int.reduceToNat]
     refine hK _ _ ?_; clear hK K
     refine WP.ret ?_
     exact Ends.pure (.inr rfl) rfl (Le.of_eq (by simp (decide := true) only [St.get, lk, W, hsp, hsl, q1, q2, q3, hz, htx, q4, ↓reduceIte])) (by simp)
    ·
     have hz2 : (textK l).2 = 0 := by simpa using q4
     have hpt := parse_textK hz2
     refine WP.skip ?_
     show WP _ _ _ _ _ _
     refine WP.sr [0, 17, 18, 19] (by kernel_rfl) fun K hK => ?_
     simp (decide := true) only [TF, EV, hsp, hsl, q1, q2, q3, hz, htx, q4, hz2, hpt, pKD, Bool.true_and, Bool.and_true, ↓reduceIte, Int.reduceToNat]
     refine CallK.pure (c_parse (textK l).1 (Nat.le_trans textK_len (by omega))) rfl rfl (by simp [-List.map_take]) ?_
     simp (decide := true) only [TF, EV, hsp, hsl, q1, q2, q3, hz, htx, q4, hz2, hpt, pKD, Bool.true_and, Bool.and_true, ↓reduceIte, Int.reduceToNat]
     refine hK _ _ ?_; clear hK K
     refine WP.sr [4] (by kernel_rfl) fun K hK => ?_
     simp (decide := true) only [TF, EV, hsp, hsl, q1, q2, q3, hz, htx, q4, hz2, hpt, pKD, Bool.true_and, Bool.and_true, ↓reduceIte, Int.reduceToNat]
     refine CallK.pure (c_r_same l l.isEmpty l nl (by omega) List.isEmpty_iff.1 (by omega) hnl) rfl rfl (by simp [-List.map_take]) ?_
     simp (decide := true) only [TF, EV, hsp, hsl, q1, q2, q3, hz, htx, q4, hz2, hpt, pKD, Bool.true_and, Bool.and_true, ↓reduceIte, Int.reduceToNat]
     refine hK _ _ ?_; clear hK K
     refine WP.ret ?_
     exact Ends.pure (.inr rfl) rfl (Le.of_eq (by simp (decide := true) only [St.get, lk, W, hsp, hsl, q1, q2, q3, hz, htx, q4, hz2, hpt, ↓reduceIte])) (by simp)
   ·
    refine WP.skip ?_
    show WP _ _ _ _ _ _
    refine WP.seq ?_
    refine WP.sr [0, 5, 93] (by kernel_rfl) fun K hK => ?_
    simp (decide := true) only [TF, EV, hsp, hsl, q1, q2, q3, pKD, Bool.true_and, Bool.and_true, ↓reduceIte, Int.reduceToNat]
    refine hK _ _ ?_; clear hK K
    refine WP.cond (b := _) rfl (fun q5 => ?_) (fun q5 => ?_)
    ·
     refine WP.sr [4] (by kernel_rfl) fun K hK => ?_
     simp (decide := true) only [TF, EV, hsp, hsl, q1, q2, q3, q5, pKD, Bool.true_and, Bool.and_true, ↓reduceIte, Int.reduceToNat]
     refine hK _ _ ?_; clear hK K
     refine WP.ret ?_
     exact Ends.pure (.inr rfl) rfl (Le.of_eq (by simp (decide := true) only [St.get, lk, W, hsp, hsl, q1, q2, q3, q5, ↓reduceIte])) (by simp)
    ·
     have hz2 : (textK l).2 = 0 := by simpa using q5
     have hpt := parse_textK hz2
     refine WP.skip ?_
     show WP _ _ _ _ _ _
     refine WP.sr [0, 17, 18, 19] (by kernel_rfl) fun K hK => ?_
     simp (decide := true) only [TF, EV, hsp, hsl, q1, q2, q3, q5, hz2, hpt, pKD, Bool.true_and, Bool.and_true, ↓reduceIte, Int.reduceToNat]
     refine CallK.pure (c_parse (textK l).1 (Nat.le_trans textK_len (by omega))) rfl rfl (by simp [-List.map_take]) ?_
     simp (decide := true) only [TF, EV, hsp, hsl, q1, q2, q3, q5, hz2, hpt, pKD, Bool.true_and, Bool.and_true, ↓reduceIte, Int.reduceToNat]
     refine hK _ _ ?_; clear hK K
     refine WP.sr [4] (by kernel_rfl) fun K hK => ?_
     simp (decide := true) only [TF, EV, hsp, hsl, q1, q2, q3, q5, hz2, hpt, pKD, Bool.true_and, Bool.and_true, ↓reduceIte, Int.reduceToNat]
     refine CallK.pure (c_r_same l l.isEmpty l nl (by omega) List.isEmpty_iff.1 (by omega) hnl) rfl rfl (by simp [-List.map_take]) ?_
     simp (decide := true) only [TF, EV, hsp, hsl, q1, q2, q3, q5, hz2, hpt, pKD, Bool.true_and, Bool.and_true, ↓reduceIte, Int.reduceToNat]
     refine hK _ _ ?_; clear hK K
     refine WP.ret ?_
     exact Ends.pure (.inr rfl) rfl (Le.of_eq (by simp (decide := true) only [St.get, lk, W, hsp, hsl, q1, q2, q3, q5, hz2, hpt, ↓reduceIte])) (by simp)
end Go.Proofs
set_option linter.unusedVariables false
set_option maxRecDepth 100000
namespace Go.Proofs.YtabkoicelflhcaaGreatDoor.RwTexts
open Go Go.Id Go.Proofs Go.ChangeShapes Go.ChangeMaps Go.WideShapes Go.ChangeAt Go.RowKit Go.Proofs.YtabkoicelflhcaaGreatDoor.Rw
theorem contract (H : Type) (enc : TypeId × Value → H) (W : World) (base : Nat) (args : Array Value) (ds gs : List (DataW H)) (before : List MemPlace)
    (hval : ∀ (j : Nat) t v, Tryz.f8.params[j]? = some t → args[j]? = some v → Value.okWide Tryz.prog W .any base t v)
    (hW : DataW.Whole enc Tryz.prog Tryz.f8.params.toList Rows.keysTextsSpec.vars false W args.toList ds gs before) (hL : laidMetH Tryz.prog laidL W) (hS : W.ShapedOpen Tryz.prog) :
    Calls Tryz.prog 8 args W fun e W' => ∃ v, e = .returned v ∧ Rows.keysTextsSpec.post enc Tryz.prog Tryz.f8 false true false false W args v W' := by
  have hW' := hW
  obtain ⟨p, q, hA0, hV, rfl, hfz, hnd⟩ := hW
  have hA : DataW.TrodAll enc Tryz.prog W 0 (fun _ => true) true Tryz.f8.params.toList args.toList ds p := hA0
  rw [Tryz.params8] at hA hval
  obtain ⟨al⟩ := args
  dsimp only at hA
  obtain ⟨v0, _, d0, _, p_0, _, rfl, rfl, rfl, h0, hA⟩ := trodAll_cons hA
  obtain ⟨v1, _, d1, _, p_1, _, rfl, rfl, rfl, h1, hA⟩ := trodAll_cons hA
  obtain ⟨rfl, rfl, rfl⟩ := trodAll_nil hA
  obtain ⟨rfl, rfl⟩ := trodVars_none hV
  obtain ⟨l0, nl0, hn0, hnl0, r0⟩ := arg_keys (hval 0 22 v0 rfl rfl) h0
  obtain ⟨s1, r1⟩ := arg_str (hval 1 9 v1 rfl rfl) h1
  refine (CallP.run (c_l_texts l0 nl0 hn0 hnl0 s1) W (polI_of hL hS) (heap_of hS) [v0, v1] rfl (Rw.consR r0 (Rw.one r1))).mono ?_
  rintro e W' ⟨v, rfl, hr, hb⟩
  cases hr
  exact ⟨_, rfl, post_all hW' rfl hb (of_decide_eq_true (by kernel_rfl)) (by kernel_rfl) rfl rfl rfl⟩
abbrev wit : Array Value := #[.slice none 0 0, .string ⟨#[]⟩]
theorem reads (os : Os) {H : Type} (enc : TypeId × Value → H) : (DataW.whole enc Tryz.prog (memW os wit) Tryz.f8.params.toList Rows.keysTextsSpec.vars false wit.toList 8).map (fun x => (x.1, x.2.1)) = some ([.nil, .lit (.string [])], []) := by kernel_rfl
theorem lifted (os : Os) (started : os.Started) (H : Type) (enc : TypeId × Value → H) (F : Stop.Interp) :
    ReturnsInHanded {} Tryz.checked os 8 .any ((OpenSpec.ofChange Rows.keysTextsSpec).preRow enc Tryz.prog Tryz.f8 Rows.keysTextsRow.domain false Rows.keysTextsRow.laid) (((OpenSpec.ofChange Rows.keysTextsSpec).at F).post enc Tryz.prog Tryz.f8 false true false false) := by
  obtain ⟨⟨x1, x2, x3⟩, hx, hx1⟩ := Option.map_eq_some_iff.1 (reads os enc)
  simp only [Prod.mk.injEq] at hx1
  obtain ⟨rfl, rfl⟩ := hx1
  refine returnsInHanded_of_row (C := Tryz.checked) (s := OpenSpec.ofChange Rows.keysTextsSpec) own started (by kernel_rfl) Tryz.func8
    (witness_row_atRef (enc := enc) (C := Tryz.checked) false (laidWorld os) wit rfl (by kernel_rfl) (by kernel_rfl) (by kernel_rfl)
      (OpenSpec.preRow_of_cond 8 hx (by kernel_rfl) (fun k hk => by cases hk) (by kernel_rfl) (laid_met os _))) ?_
  intro W base args ds gs before hval hW _ _ _ hL hS _
  exact contract H enc W base args ds gs before hval hW hL hS
theorem said : Rows.KeysTextsSaid :=
  OpenClaim.holds_of_cond 8 Tryz.f8 rfl rfl rfl rfl rfl rfl rfl ⟨rfl, rfl, rfl, rfl, rfl⟩ rfl rfl rfl rfl rfl (by kernel_rfl) Tryz.func8 (by kernel_rfl)
    (of_decide_eq_true (by kernel_rfl)) (by unfold Func.isWrapper; first | (rw [if_pos (by decide +kernel)]; kernel_rfl) | (rw [if_neg (by decide +kernel)]; exact ⟨rfl, rfl⟩))
    (fun os started H enc _ F => by rw [OpenClaim.pre_eq_preRow]; exact lifted os started H enc F)
theorem plain (f : FuncId) (fn : Func) (hf : Tryz.pinned.checked.prog.funcNamed Rows.keysTextsRow.func = some f) (hfn : Tryz.pinned.checked.prog.funcs[f]? = some fn) :
    true = Tryz.pinned.checked.prog.looks [] ∧ ∀ (j : Nat) t, fn.params[j]? = some t → Tryz.pinned.checked.prog.wantsStandIn t = false := by
  obtain rfl : f = 8 := Option.some.inj ((show Tryz.prog.funcNamed Rows.keysTextsRow.func = some 8 by kernel_rfl).symm.trans hf) |>.symm
  obtain rfl : fn = Tryz.f8 := (Option.some.inj (Tryz.func8.symm.trans hfn)).symm
  refine ⟨by kernel_rfl, fun j t ht => ?_⟩
  have hall : (Tryz.f8.params.toList.all fun t => Tryz.prog.wantsStandIn t == false) = true := by kernel_rfl
  exact eq_of_beq (List.all_eq_true.1 hall t (by simpa using Array.mem_of_getElem? ht))
theorem card : Rows.KeysTextsCardSaid :=
  Claim7.holds_tied_plain_at .later [] _ _ _ _ said (fun _ h => by cases h) (by kernel_rfl) (fun _ h => by cases h) keysTexts_row_tie rfl ⟨rfl, rfl⟩ (by kernel_rfl) rfl plain (by kernel_rfl)
end Go.Proofs.YtabkoicelflhcaaGreatDoor.RwTexts
#print axioms Go.Proofs.YtabkoicelflhcaaGreatDoor.RwTexts.card
