import Derived.Test.YtnmalfongaognaaGreatDoorG04
set_option linter.unusedSimpArgs false
set_option linter.unusedVariables false
set_option maxRecDepth 10000
namespace Go.Proofs
open Go Go.Id

theorem atoiD_ok {s : List UInt8} {v : Int} (h : Lib.atoiAll s = .ok v) : atoiD s = .tup [.int .i64 v, .niliface] := by unfold atoiD; rw [h]
theorem atoiD_syn {s : List UInt8} (h : Lib.atoiAll s = Lib.atoiAll []) : atoiD s = .tup [.int .i64 0, .iface 121 .junk] := by unfold atoiD; rw [h]; rfl
theorem rdV_syn {s : List UInt8} (h : Lib.atoiAll s = Lib.atoiAll []) : rdV s = (0, 27) := by unfold rdV; rw [h]; rfl
theorem atoiD_rng {s : List UInt8} (h : Lib.atoiAll s = .range) : atoiD s = .tup [.int .i64 (Lib.atoiSat s), .iface 121 .junk] := by unfold atoiD; rw [h]

theorem c_readint0 (s : List UInt8) (hs : s.length ≤ 1099511627776) : CallP Pr 31 [.str s] (.tup [.int .i64 (rdP s).1, .int .i64 (rdP s).2]) := by
 have hdl := digs_len s
 refine CallP.of_wp Tryz.func31 rfl (by kernel_rfl) Tryz.ntmps31 (by simp) ?_
 simp only [frameOf, Nat.reduceAdd, Nat.zero_add]
 refine WP.sr [0] (by kernel_rfl) fun K hK => ?_
 simp (decide := true) only [W, Pr_prog, digs_fold, ↓reduceIte, Int.reduceToNat]
 refine hK _ _ ?_
 clear hK K
 refine WP.sr [0, 4] (by kernel_rfl) fun K hK => ?_
 simp (decide := true) only [W, Pr_prog, digs_fold, ↓reduceIte, Int.reduceToNat]
 refine CallK.pure (lib_trimPrefix _ _) rfl rfl (by simp [-List.map_take]) ?_
 simp (decide := true) only [W, Pr_prog, digs_fold, ↓reduceIte, Int.reduceToNat]
 refine hK _ _ ?_
 clear hK K
 refine WP.seq ?_
 refine WP.sr [0, 4, 21] (by kernel_rfl) fun K hK => ?_
 refine runOps.take 3 fun J hJ => ?_
 simp (decide := true) only [W, Pr_prog, digs_fold, ↓reduceIte, Int.reduceToNat]
 refine hJ _ _ ?_
 clear hJ J
 refine runOps.part 13 rfl (fun q1 => ?_) (fun q1 => ?_)
 ·
  refine runOps.take 3 fun J hJ => ?_
  simp (decide := true) only [W, Pr_prog, q1, digs_fold, ↓reduceIte, Int.reduceToNat]
  refine hJ _ _ ?_
  clear hJ J
  refine runOps.part 16 rfl (fun q2 => ?_) (fun q2 => ?_)
  ·
   simp (decide := true) only [W, Pr_prog, t_isStr_9, q1, q2, digs_fold, ↓reduceIte, Int.reduceToNat]
   refine hK _ _ ?_
   clear hK K
   refine WP.cond (b := true) (by first | rfl | simp [W, q1, q2]) (fun _ => ?_) nofun
   refine WP.sr [2, 3] (by kernel_rfl) fun K hK => ?_
   simp (decide := true) only [W, Pr_prog, q1, q2, digs_fold, ↓reduceIte, Int.reduceToNat]
   refine hK _ _ ?_
   clear hK K
   refine WP.ret ?_
   exact Ends.pure (d := .tup [_, _]) (.inr rfl) rfl (Le.of_eq (by first | (simp [St.get, lk, W, bne, rdP, rdV, q1, q2, hv]; done) | (simp [St.get, lk, W, bne, rdP, rdV, q1, q2]; done) | (simp [St.get, lk, W, bne, rdP, rdV, q1, q2, formOk]; done) | (simp_all [St.get, lk, W, bne, rdP, rdV, formOk]; done))) (by simp)
  ·
   have hne : 0 < (digs s).length := by cases hd0 : digs s with | nil => simp [hd0] at q2 | cons => simp
   have e0 := getE hne
   have e0c := chAt_of hne
   simp (decide := true) only [W, Pr_prog, t_isStr_9, q1, q2, e0, e0c, digs_fold, ↓reduceIte, Int.reduceToNat]
   refine hK _ _ ?_
   clear hK K
   refine WP.cond (b := _) rfl (fun q3 => ?_) (fun q3 => ?_)
   ·
    refine WP.sr [2, 3] (by kernel_rfl) fun K hK => ?_
    simp (decide := true) only [W, Pr_prog, q1, q2, e0, e0c, q3, digs_fold, ↓reduceIte, Int.reduceToNat]
    refine hK _ _ ?_
    clear hK K
    refine WP.ret ?_
    exact Ends.pure (d := .tup [_, _]) (.inr rfl) rfl (Le.of_eq (by first | (simp [St.get, lk, W, bne, rdP, rdV, q1, q2, e0, e0c, q3, hv]; done) | (simp [St.get, lk, W, bne, rdP, rdV, q1, q2, e0, e0c, q3]; done) | (simp [St.get, lk, W, bne, rdP, rdV, q1, q2, e0, e0c, q3, formOk]; done) | (simp_all [St.get, lk, W, bne, rdP, rdV, formOk]; done))) (by simp)
   ·
    refine WP.skip ?_
    show WP _ _ _ _ _ _
    refine WP.seq ?_
    refine WP.sr [0, 23] (by kernel_rfl) fun K hK => ?_
    simp (decide := true) only [W, Pr_prog, t_isStr_9, q1, q2, e0, e0c, q3, digs_fold, ↓reduceIte, Int.reduceToNat]
    refine hK _ _ ?_
    clear hK K
    refine WP.block ?_
    refine WP.lp [0, 23] (X := {k : Nat // k ≤ (digs s).length ∧ formOk s = ((digs s).drop k).all (fun c => dgB c.toNat)}) (fun x => match x with | ⟨(k), _⟩ => []) (fun x => match x with | ⟨(k), _⟩ => [(0, .iter (digs s) k)]) (fun x => match x with | ⟨(k), _⟩ => (digs s).length - k) (by simp (decide := true) only [W, ↓reduceIte, Int.reduceToNat]; rfl) ?_ ⟨(0), ⟨Nat.zero_le _, by simp_all [formOk]⟩⟩ ?_
    rotate_left
    · exact Weak.frame (by simp [St.get, lk, W, Le.refl])
    rintro ⟨k, hk, hI⟩
    dsimp only
    simp only [List.cons_append, List.nil_append]
    rcases decp_cases dgB dg_hi (digs s) k hk with hge | ⟨hlt, hb, hd⟩ | ⟨hlt, hd1, hd2, hd⟩
    ·
     have hnl : ¬ k < (digs s).length := by omega
     rw [dropN hge] at hI
     simp only [List.all_nil] at hI
     refine WP.sr [0, 23, 24, 25] (by kernel_rfl) fun K hK => ?_
     simp (decide := true) only [W, Pr_prog, q1, q2, e0, e0c, q3, hnl, digs_fold, ↓reduceIte, Int.reduceToNat]
     refine hK _ _ ?_
     clear hK K
     refine WP.seq ?_
     refine WP.cond (b := false) (by first | rfl | simp [W, q1, q2, e0, e0c, q3, hnl]) nofun (fun _ => ?_)
     refine WP.exit ?_
     show WP _ _ _ _ _ _
     rcases atoi_end s with ⟨v, hv⟩ | hv | hv
     ·
      have hA := atoiD_ok hv
      refine WP.sr [7, 8] (by kernel_rfl) fun K hK => ?_
      simp (decide := true) only [W, Pr_prog, q1, q2, e0, e0c, q3, hnl, hA, digs_fold, ↓reduceIte, Int.reduceToNat]
      refine CallK.pure (lib_atoi _ (by omega)) rfl rfl (by simp [-List.map_take]) ?_
      simp (decide := true) only [W, Pr_prog, q1, q2, e0, e0c, q3, hnl, hA, digs_fold, ↓reduceIte, Int.reduceToNat]
      refine hK _ _ ?_
      clear hK K
      refine WP.seq ?_
      refine WP.sr [7, 39] (by kernel_rfl) fun K hK => ?_
      simp (decide := true) only [W, Pr_prog, t_tkD_60, q1, q2, e0, e0c, q3, hnl, hA, digs_fold, ↓reduceIte, Int.reduceToNat]
      refine hK _ _ ?_
      clear hK K
      refine WP.cond (b := false) (by first | rfl | simp [W, q1, q2, e0, e0c, q3, hnl, hA]) nofun (fun _ => ?_)
      refine WP.skip ?_
      show WP _ _ _ _ _ _
      refine WP.sr [2, 3] (by kernel_rfl) fun K hK => ?_
      simp (decide := true) only [W, Pr_prog, q1, q2, e0, e0c, q3, hnl, hA, digs_fold, ↓reduceIte, Int.reduceToNat]
      refine hK _ _ ?_
      clear hK K
      refine WP.ret ?_
      exact Ends.pure (d := .tup [_, _]) (.inr rfl) rfl (Le.of_eq (by first | (simp [St.get, lk, W, bne, rdP, rdV, q1, q2, e0, e0c, q3, hnl, hA, hI, hv]; done) | (simp [St.get, lk, W, bne, rdP, rdV, q1, q2, e0, e0c, q3, hnl, hA, hI]; done) | (simp [St.get, lk, W, bne, rdP, rdV, q1, q2, e0, e0c, q3, hnl, hA, hI, formOk]; done) | (simp_all [St.get, lk, W, bne, rdP, rdV, formOk]; done))) (by simp)
     ·
      have hA := atoiD_syn hv
      have hV := rdV_syn hv
      refine WP.sr [7, 8] (by kernel_rfl) fun K hK => ?_
      simp (decide := true) only [W, Pr_prog, q1, q2, e0, e0c, q3, hnl, hA, hV, digs_fold, ↓reduceIte, Int.reduceToNat]
      refine CallK.pure (lib_atoi _ (by omega)) rfl rfl (by simp [-List.map_take]) ?_
      simp (decide := true) only [W, Pr_prog, q1, q2, e0, e0c, q3, hnl, hA, hV, digs_fold, ↓reduceIte, Int.reduceToNat]
      refine hK _ _ ?_
      clear hK K
      refine WP.seq ?_
      refine WP.sr [7, 39] (by kernel_rfl) fun K hK => ?_
      simp (decide := true) only [W, Pr_prog, t_tkD_60, q1, q2, e0, e0c, q3, hnl, hA, hV, digs_fold, ↓reduceIte, Int.reduceToNat]
      refine hK _ _ ?_
      clear hK K
      refine WP.cond (b := true) (by first | rfl | simp [W, q1, q2, e0, e0c, q3, hnl, hA, hV]) (fun _ => ?_) nofun
      refine WP.sr [2, 3] (by kernel_rfl) fun K hK => ?_
      simp (decide := true) only [W, Pr_prog, q1, q2, e0, e0c, q3, hnl, hA, hV, digs_fold, ↓reduceIte, Int.reduceToNat]
      refine hK _ _ ?_
      clear hK K
      refine WP.ret ?_
      exact Ends.pure (d := .tup [_, _]) (.inr rfl) rfl (Le.of_eq (by first | (simp [St.get, lk, W, bne, rdP, rdV, q1, q2, e0, e0c, q3, hnl, hA, hV, hI, hv]; done) | (simp [St.get, lk, W, bne, rdP, rdV, q1, q2, e0, e0c, q3, hnl, hA, hV, hI]; done) | (simp [St.get, lk, W, bne, rdP, rdV, q1, q2, e0, e0c, q3, hnl, hA, hV, hI, formOk]; done) | (simp_all [St.get, lk, W, bne, rdP, rdV, formOk]; done))) (by simp)
     ·
      have hA := atoiD_rng hv
      refine WP.sr [7, 8] (by kernel_rfl) fun K hK => ?_
      simp (decide := true) only [W, Pr_prog, q1, q2, e0, e0c, q3, hnl, hA, digs_fold, ↓reduceIte, Int.reduceToNat]
      refine CallK.pure (lib_atoi _ (by omega)) rfl rfl (by simp [-List.map_take]) ?_
      simp (decide := true) only [W, Pr_prog, q1, q2, e0, e0c, q3, hnl, hA, digs_fold, ↓reduceIte, Int.reduceToNat]
      refine hK _ _ ?_
      clear hK K
      refine WP.seq ?_
      refine WP.sr [7, 39] (by kernel_rfl) fun K hK => ?_
      simp (decide := true) only [W, Pr_prog, t_tkD_60, q1, q2, e0, e0c, q3, hnl, hA, digs_fold, ↓reduceIte, Int.reduceToNat]
      refine hK _ _ ?_
      clear hK K
      refine WP.cond (b := true) (by first | rfl | simp [W, q1, q2, e0, e0c, q3, hnl, hA]) (fun _ => ?_) nofun
      refine WP.sr [2, 3] (by kernel_rfl) fun K hK => ?_
      simp (decide := true) only [W, Pr_prog, q1, q2, e0, e0c, q3, hnl, hA, digs_fold, ↓reduceIte, Int.reduceToNat]
      refine hK _ _ ?_
      clear hK K
      refine WP.ret ?_
      exact Ends.pure (d := .tup [_, _]) (.inr rfl) rfl (Le.of_eq (by first | (simp [St.get, lk, W, bne, rdP, rdV, q1, q2, e0, e0c, q3, hnl, hA, hI, hv]; done) | (simp [St.get, lk, W, bne, rdP, rdV, q1, q2, e0, e0c, q3, hnl, hA, hI]; done) | (simp [St.get, lk, W, bne, rdP, rdV, q1, q2, e0, e0c, q3, hnl, hA, hI, formOk]; done) | (simp_all [St.get, lk, W, bne, rdP, rdV, formOk]; done))) (by simp)
    ·
     rw [hd] at hI
     have hb1 : decide ((((decD (digs s) k).1 : Nat) : Int) < 48) = false := decide_eq_false (by omega)
     have hb2 : decide ((((decD (digs s) k).1 : Nat) : Int) > 57) = true := decide_eq_true (by omega)
     refine WP.sr [0, 23, 24, 25] (by kernel_rfl) fun K hK => ?_
     simp (decide := true) only [W, Pr_prog, q1, q2, e0, e0c, q3, hlt, hb1, hb2, digs_fold, ↓reduceIte, Int.reduceToNat]
     refine hK _ _ ?_
     clear hK K
     refine WP.seq ?_
     refine WP.cond (b := true) (by first | rfl | simp [W, q1, q2, e0, e0c, q3, hlt, hb1, hb2]) (fun _ => ?_) nofun
     refine WP.skip ?_
     show WP _ _ _ _ _ _
     refine WP.block ?_
     refine WP.sr [0, 6, 23] (by kernel_rfl) fun K hK => ?_
     simp (decide := true) only [W, Pr_prog, q1, q2, e0, e0c, q3, hlt, hb1, hb2, digs_fold, ↓reduceIte, Int.reduceToNat]
     refine hK _ _ ?_
     clear hK K
     refine WP.sr [0, 23, 32] (by kernel_rfl) fun K hK => ?_
     simp (decide := true) only [W, Pr_prog, q1, q2, e0, e0c, q3, hlt, hb1, hb2, digs_fold, ↓reduceIte, Int.reduceToNat]
     refine hK _ _ ?_
     clear hK K
     refine WP.cond (b := true) (by first | rfl | simp [W, q1, q2, e0, e0c, q3, hlt, hb1, hb2]) (fun _ => ?_) nofun
     refine WP.sr [2, 3] (by kernel_rfl) fun K hK => ?_
     simp (decide := true) only [W, Pr_prog, q1, q2, e0, e0c, q3, hlt, hb1, hb2, digs_fold, ↓reduceIte, Int.reduceToNat]
     refine hK _ _ ?_
     clear hK K
     refine WP.ret ?_
     exact Ends.pure (d := .tup [_, _]) (.inr rfl) rfl (Le.of_eq (by first | (simp [St.get, lk, W, bne, rdP, rdV, q1, q2, e0, e0c, q3, hlt, hb1, hb2, hI, hv]; done) | (simp [St.get, lk, W, bne, rdP, rdV, q1, q2, e0, e0c, q3, hlt, hb1, hb2, hI]; done) | (simp [St.get, lk, W, bne, rdP, rdV, q1, q2, e0, e0c, q3, hlt, hb1, hb2, hI, formOk]; done) | (simp_all [St.get, lk, W, bne, rdP, rdV, formOk]; done))) (by simp)
    ·
     rw [hd] at hI
     refine WP.sr [0, 23, 24, 25] (by kernel_rfl) fun K hK => ?_
     simp (decide := true) only [W, Pr_prog, q1, q2, e0, e0c, q3, hlt, hd1, hd2, digs_fold, ↓reduceIte, Int.reduceToNat]
     refine hK _ _ ?_
     clear hK K
     refine WP.seq ?_
     refine WP.cond (b := true) (by first | rfl | simp [W, q1, q2, e0, e0c, q3, hlt, hd1, hd2]) (fun _ => ?_) nofun
     refine WP.skip ?_
     show WP _ _ _ _ _ _
     refine WP.block ?_
     refine WP.sr [0, 6, 23] (by kernel_rfl) fun K hK => ?_
     simp (decide := true) only [W, Pr_prog, q1, q2, e0, e0c, q3, hlt, hd1, hd2, digs_fold, ↓reduceIte, Int.reduceToNat]
     refine hK _ _ ?_
     clear hK K
     refine WP.sr [0, 23, 32] (by kernel_rfl) fun K hK => ?_
     refine runOps.take 3 fun J hJ => ?_
     simp (decide := true) only [W, Pr_prog, q1, q2, e0, e0c, q3, hlt, hd1, hd2, digs_fold, ↓reduceIte, Int.reduceToNat]
     refine hJ _ _ ?_
     clear hJ J
     refine runOps.part 29 rfl (fun q4 => ?_) (fun q4 => ?_)
     ·
      have hz : dgB ((digs s)[k].toNat : Int) = false := by have := of_decide_eq_true q4; simp [dgB]; omega
      simp (decide := true) only [W, Pr_prog, q1, q2, e0, e0c, q3, hlt, hd1, hd2, q4, hz, digs_fold, ↓reduceIte, Int.reduceToNat]
      refine hK _ _ ?_
      clear hK K
      refine WP.cond (b := true) (by first | rfl | simp [W, q1, q2, e0, e0c, q3, hlt, hd1, hd2, q4, hz]) (fun _ => ?_) nofun
      refine WP.sr [2, 3] (by kernel_rfl) fun K hK => ?_
      simp (decide := true) only [W, Pr_prog, q1, q2, e0, e0c, q3, hlt, hd1, hd2, q4, hz, digs_fold, ↓reduceIte, Int.reduceToNat]
      refine hK _ _ ?_
      clear hK K
      refine WP.ret ?_
      exact Ends.pure (d := .tup [_, _]) (.inr rfl) rfl (Le.of_eq (by first | (simp [St.get, lk, W, bne, rdP, rdV, q1, q2, e0, e0c, q3, hlt, hd1, hd2, q4, hz, hI, hv]; done) | (simp [St.get, lk, W, bne, rdP, rdV, q1, q2, e0, e0c, q3, hlt, hd1, hd2, q4, hz, hI]; done) | (simp [St.get, lk, W, bne, rdP, rdV, q1, q2, e0, e0c, q3, hlt, hd1, hd2, q4, hz, hI, formOk]; done) | (simp_all [St.get, lk, W, bne, rdP, rdV, formOk]; done))) (by simp)
     ·
      simp (decide := true) only [W, Pr_prog, q1, q2, e0, e0c, q3, hlt, hd1, hd2, q4, digs_fold, ↓reduceIte, Int.reduceToNat]
      refine hK _ _ ?_
      clear hK K
      refine WP.cond (b := _) rfl (fun q5 => ?_) (fun q5 => ?_)
      ·
       have hz : dgB ((digs s)[k].toNat : Int) = false := by have := of_decide_eq_true q5; simp [dgB]; omega
       refine WP.sr [2, 3] (by kernel_rfl) fun K hK => ?_
       simp (decide := true) only [W, Pr_prog, q1, q2, e0, e0c, q3, hlt, hd1, hd2, q4, q5, hz, digs_fold, ↓reduceIte, Int.reduceToNat]
       refine hK _ _ ?_
       clear hK K
       refine WP.ret ?_
       exact Ends.pure (d := .tup [_, _]) (.inr rfl) rfl (Le.of_eq (by first | (simp [St.get, lk, W, bne, rdP, rdV, q1, q2, e0, e0c, q3, hlt, hd1, hd2, q4, q5, hz, hI, hv]; done) | (simp [St.get, lk, W, bne, rdP, rdV, q1, q2, e0, e0c, q3, hlt, hd1, hd2, q4, q5, hz, hI]; done) | (simp [St.get, lk, W, bne, rdP, rdV, q1, q2, e0, e0c, q3, hlt, hd1, hd2, q4, q5, hz, hI, formOk]; done) | (simp_all [St.get, lk, W, bne, rdP, rdV, formOk]; done))) (by simp)
      ·
       refine WP.skip ?_
       show ∃ y, _ ∧ Weak _ _ _
       refine ⟨⟨k + 1, ?_⟩, ?_, ?_⟩
       · exact ⟨by omega, by simp_all [dgB]⟩
       · dsimp only; omega
       · exact Weak.store (by simp [St.get, lk, W, Le.refl]) (by simp [lk, W, q1, q2, e0, e0c, q3, hlt, hd1, hd2, q4, q5]) (by simp [lk]) (by simp [BClo]) (by simp)
 ·
  simp (decide := true) only [W, Pr_prog, t_isStr_9, q1, digs_fold, ↓reduceIte, Int.reduceToNat]
  refine hK _ _ ?_
  clear hK K
  refine WP.cond (b := false) (by first | rfl | simp [W, q1]) nofun (fun _ => ?_)
  refine WP.skip ?_
  show WP _ _ _ _ _ _
  refine WP.seq ?_
  refine WP.sr [0, 23] (by kernel_rfl) fun K hK => ?_
  simp (decide := true) only [W, Pr_prog, t_isStr_9, q1, digs_fold, ↓reduceIte, Int.reduceToNat]
  refine hK _ _ ?_
  clear hK K
  refine WP.block ?_
  refine WP.lp [0, 23] (X := {k : Nat // k ≤ (digs s).length ∧ formOk s = ((digs s).drop k).all (fun c => dgB c.toNat)}) (fun x => match x with | ⟨(k), _⟩ => []) (fun x => match x with | ⟨(k), _⟩ => [(0, .iter (digs s) k)]) (fun x => match x with | ⟨(k), _⟩ => (digs s).length - k) (by simp (decide := true) only [W, ↓reduceIte, Int.reduceToNat]; rfl) ?_ ⟨(0), ⟨Nat.zero_le _, by simp_all [formOk]⟩⟩ ?_
  rotate_left
  · exact Weak.frame (by simp [St.get, lk, W, Le.refl])
  rintro ⟨k, hk, hI⟩
  dsimp only
  simp only [List.cons_append, List.nil_append]
  rcases decp_cases dgB dg_hi (digs s) k hk with hge | ⟨hlt, hb, hd⟩ | ⟨hlt, hd1, hd2, hd⟩
  ·
   have hnl : ¬ k < (digs s).length := by omega
   rw [dropN hge] at hI
   simp only [List.all_nil] at hI
   refine WP.sr [0, 23, 24, 25] (by kernel_rfl) fun K hK => ?_
   simp (decide := true) only [W, Pr_prog, q1, hnl, digs_fold, ↓reduceIte, Int.reduceToNat]
   refine hK _ _ ?_
   clear hK K
   refine WP.seq ?_
   refine WP.cond (b := false) (by first | rfl | simp [W, q1, hnl]) nofun (fun _ => ?_)
   refine WP.exit ?_
   show WP _ _ _ _ _ _
   rcases atoi_end s with ⟨v, hv⟩ | hv | hv
   ·
    have hA := atoiD_ok hv
    refine WP.sr [7, 8] (by kernel_rfl) fun K hK => ?_
    simp (decide := true) only [W, Pr_prog, q1, hnl, hA, digs_fold, ↓reduceIte, Int.reduceToNat]
    refine CallK.pure (lib_atoi _ (by omega)) rfl rfl (by simp [-List.map_take]) ?_
    simp (decide := true) only [W, Pr_prog, q1, hnl, hA, digs_fold, ↓reduceIte, Int.reduceToNat]
    refine hK _ _ ?_
    clear hK K
    refine WP.seq ?_
    refine WP.sr [7, 39] (by kernel_rfl) fun K hK => ?_
    simp (decide := true) only [W, Pr_prog, t_tkD_60, q1, hnl, hA, digs_fold, ↓reduceIte, Int.reduceToNat]
    refine hK _ _ ?_
    clear hK K
    refine WP.cond (b := false) (by first | rfl | simp [W, q1, hnl, hA]) nofun (fun _ => ?_)
    refine WP.skip ?_
    show WP _ _ _ _ _ _
    refine WP.sr [2, 3] (by kernel_rfl) fun K hK => ?_
    simp (decide := true) only [W, Pr_prog, q1, hnl, hA, digs_fold, ↓reduceIte, Int.reduceToNat]
    refine hK _ _ ?_
    clear hK K
    refine WP.ret ?_
    exact Ends.pure (d := .tup [_, _]) (.inr rfl) rfl (Le.of_eq (by first | (simp [St.get, lk, W, bne, rdP, rdV, q1, hnl, hA, hI, hv]; done) | (simp [St.get, lk, W, bne, rdP, rdV, q1, hnl, hA, hI]; done) | (simp [St.get, lk, W, bne, rdP, rdV, q1, hnl, hA, hI, formOk]; done) | (simp_all [St.get, lk, W, bne, rdP, rdV, formOk]; done))) (by simp)
   ·
    have hA := atoiD_syn hv
    have hV := rdV_syn hv
    refine WP.sr [7, 8] (by kernel_rfl) fun K hK => ?_
    simp (decide := true) only [W, Pr_prog, q1, hnl, hA, hV, digs_fold, ↓reduceIte, Int.reduceToNat]
    refine CallK.pure (lib_atoi _ (by omega)) rfl rfl (by simp [-List.map_take]) ?_
    simp (decide := true) only [W, Pr_prog, q1, hnl, hA, hV, digs_fold, ↓reduceIte, Int.reduceToNat]
    refine hK _ _ ?_
    clear hK K
    refine WP.seq ?_
    refine WP.sr [7, 39] (by kernel_rfl) fun K hK => ?_
    simp (decide := true) only [W, Pr_prog, t_tkD_60, q1, hnl, hA, hV, digs_fold, ↓reduceIte, Int.reduceToNat]
    refine hK _ _ ?_
    clear hK K
    refine WP.cond (b := true) (by first | rfl | simp [W, q1, hnl, hA, hV]) (fun _ => ?_) nofun
    refine WP.sr [2, 3] (by kernel_rfl) fun K hK => ?_
    simp (decide := true) only [W, Pr_prog, q1, hnl, hA, hV, digs_fold, ↓reduceIte, Int.reduceToNat]
    refine hK _ _ ?_
    clear hK K
    refine WP.ret ?_
    exact Ends.pure (d := .tup [_, _]) (.inr rfl) rfl (Le.of_eq (by first | (simp [St.get, lk, W, bne, rdP, rdV, q1, hnl, hA, hV, hI, hv]; done) | (simp [St.get, lk, W, bne, rdP, rdV, q1, hnl, hA, hV, hI]; done) | (simp [St.get, lk, W, bne, rdP, rdV, q1, hnl, hA, hV, hI, formOk]; done) | (simp_all [St.get, lk, W, bne, rdP, rdV, formOk]; done))) (by simp)
   ·
    have hA := atoiD_rng hv
    refine WP.sr [7, 8] (by kernel_rfl) fun K hK => ?_
    simp (decide := true) only [W, Pr_prog, q1, hnl, hA, digs_fold, ↓reduceIte, Int.reduceToNat]
    refine CallK.pure (lib_atoi _ (by omega)) rfl rfl (by simp [-List.map_take]) ?_
    simp (decide := true) only [W, Pr_prog, q1, hnl, hA, digs_fold, ↓reduceIte, Int.reduceToNat]
    refine hK _ _ ?_
    clear hK K
    refine WP.seq ?_
    refine WP.sr [7, 39] (by kernel_rfl) fun K hK => ?_
    simp (decide := true) only [W, Pr_prog, t_tkD_60, q1, hnl, hA, digs_fold, ↓reduceIte, Int.reduceToNat]
    refine hK _ _ ?_
    clear hK K
    refine WP.cond (b := true) (by first | rfl | simp [W, q1, hnl, hA]) (fun _ => ?_) nofun
    refine WP.sr [2, 3] (by kernel_rfl) fun K hK => ?_
    simp (decide := true) only [W, Pr_prog, q1, hnl, hA, digs_fold, ↓reduceIte, Int.reduceToNat]
    refine hK _ _ ?_
    clear hK K
    refine WP.ret ?_
    exact Ends.pure (d := .tup [_, _]) (.inr rfl) rfl (Le.of_eq (by first | (simp [St.get, lk, W, bne, rdP, rdV, q1, hnl, hA, hI, hv]; done) | (simp [St.get, lk, W, bne, rdP, rdV, q1, hnl, hA, hI]; done) | (simp [St.get, lk, W, bne, rdP, rdV, q1, hnl, hA, hI, formOk]; done) | (simp_all [St.get, lk, W, bne, rdP, rdV, formOk]; done))) (by simp)
  ·
   rw [hd] at hI
   have hb1 : decide ((((decD (digs s) k).1 : Nat) : Int) < 48) = false := decide_eq_false (by omega)
   have hb2 : decide ((((decD (digs s) k).1 : Nat) : Int) > 57) = true := decide_eq_true (by omega)
   refine WP.sr [0, 23, 24, 25] (by kernel_rfl) fun K hK => ?_
   simp (decide := true) only [W, Pr_prog, q1, hlt, hb1, hb2, digs_fold, ↓reduceIte, Int.reduceToNat]
   refine hK _ _ ?_
   clear hK K
   refine WP.seq ?_
   refine WP.cond (b := true) (by first | rfl | simp [W, q1, hlt, hb1, hb2]) (fun _ => ?_) nofun
   refine WP.skip ?_
   show WP _ _ _ _ _ _
   refine WP.block ?_
   refine WP.sr [0, 6, 23] (by kernel_rfl) fun K hK => ?_
   simp (decide := true) only [W, Pr_prog, q1, hlt, hb1, hb2, digs_fold, ↓reduceIte, Int.reduceToNat]
   refine hK _ _ ?_
   clear hK K
   refine WP.sr [0, 23, 32] (by kernel_rfl) fun K hK => ?_
   simp (decide := true) only [W, Pr_prog, q1, hlt, hb1, hb2, digs_fold, ↓reduceIte, Int.reduceToNat]
   refine hK _ _ ?_
   clear hK K
   refine WP.cond (b := true) (by first | rfl | simp [W, q1, hlt, hb1, hb2]) (fun _ => ?_) nofun
   refine WP.sr [2, 3] (by kernel_rfl) fun K hK => ?_
   simp (decide := true) only [W, Pr_prog, q1, hlt, hb1, hb2, digs_fold, ↓reduceIte, Int.reduceToNat]
   refine hK _ _ ?_
   clear hK K
   refine WP.ret ?_
   exact Ends.pure (d := .tup [_, _]) (.inr rfl) rfl (Le.of_eq (by first | (simp [St.get, lk, W, bne, rdP, rdV, q1, hlt, hb1, hb2, hI, hv]; done) | (simp [St.get, lk, W, bne, rdP, rdV, q1, hlt, hb1, hb2, hI]; done) | (simp [St.get, lk, W, bne, rdP, rdV, q1, hlt, hb1, hb2, hI, formOk]; done) | (simp_all [St.get, lk, W, bne, rdP, rdV, formOk]; done))) (by simp)
  ·
   rw [hd] at hI
   refine WP.sr [0, 23, 24, 25] (by kernel_rfl) fun K hK => ?_
   simp (decide := true) only [W, Pr_prog, q1, hlt, hd1, hd2, digs_fold, ↓reduceIte, Int.reduceToNat]
   refine hK _ _ ?_
   clear hK K
   refine WP.seq ?_
   refine WP.cond (b := true) (by first | rfl | simp [W, q1, hlt, hd1, hd2]) (fun _ => ?_) nofun
   refine WP.skip ?_
   show WP _ _ _ _ _ _
   refine WP.block ?_
   refine WP.sr [0, 6, 23] (by kernel_rfl) fun K hK => ?_
   simp (decide := true) only [W, Pr_prog, q1, hlt, hd1, hd2, digs_fold, ↓reduceIte, Int.reduceToNat]
   refine hK _ _ ?_
   clear hK K
   refine WP.sr [0, 23, 32] (by kernel_rfl) fun K hK => ?_
   refine runOps.take 3 fun J hJ => ?_
   simp (decide := true) only [W, Pr_prog, q1, hlt, hd1, hd2, digs_fold, ↓reduceIte, Int.reduceToNat]
   refine hJ _ _ ?_
   clear hJ J
   refine runOps.part 29 rfl (fun q6 => ?_) (fun q6 => ?_)
   ·
    have hz : dgB ((digs s)[k].toNat : Int) = false := by have := of_decide_eq_true q6; simp [dgB]; omega
    simp (decide := true) only [W, Pr_prog, q1, hlt, hd1, hd2, q6, hz, digs_fold, ↓reduceIte, Int.reduceToNat]
    refine hK _ _ ?_
    clear hK K
    refine WP.cond (b := true) (by first | rfl | simp [W, q1, hlt, hd1, hd2, q6, hz]) (fun _ => ?_) nofun
    refine WP.sr [2, 3] (by kernel_rfl) fun K hK => ?_
    simp (decide := true) only [W, Pr_prog, q1, hlt, hd1, hd2, q6, hz, digs_fold, ↓reduceIte, Int.reduceToNat]
    refine hK _ _ ?_
    clear hK K
    refine WP.ret ?_
    exact Ends.pure (d := .tup [_, _]) (.inr rfl) rfl (Le.of_eq (by first | (simp [St.get, lk, W, bne, rdP, rdV, q1, hlt, hd1, hd2, q6, hz, hI, hv]; done) | (simp [St.get, lk, W, bne, rdP, rdV, q1, hlt, hd1, hd2, q6, hz, hI]; done) | (simp [St.get, lk, W, bne, rdP, rdV, q1, hlt, hd1, hd2, q6, hz, hI, formOk]; done) | (simp_all [St.get, lk, W, bne, rdP, rdV, formOk]; done))) (by simp)
   ·
    simp (decide := true) only [W, Pr_prog, q1, hlt, hd1, hd2, q6, digs_fold, ↓reduceIte, Int.reduceToNat]
    refine hK _ _ ?_
    clear hK K
    refine WP.cond (b := _) rfl (fun q7 => ?_) (fun q7 => ?_)
    ·
     have hz : dgB ((digs s)[k].toNat : Int) = false := by have := of_decide_eq_true q7; simp [dgB]; omega
     refine WP.sr [2, 3] (by kernel_rfl) fun K hK => ?_
     simp (decide := true) only [W, Pr_prog, q1, hlt, hd1, hd2, q6, q7, hz, digs_fold, ↓reduceIte, Int.reduceToNat]
     refine hK _ _ ?_
     clear hK K
     refine WP.ret ?_
     exact Ends.pure (d := .tup [_, _]) (.inr rfl) rfl (Le.of_eq (by first | (simp [St.get, lk, W, bne, rdP, rdV, q1, hlt, hd1, hd2, q6, q7, hz, hI, hv]; done) | (simp [St.get, lk, W, bne, rdP, rdV, q1, hlt, hd1, hd2, q6, q7, hz, hI]; done) | (simp [St.get, lk, W, bne, rdP, rdV, q1, hlt, hd1, hd2, q6, q7, hz, hI, formOk]; done) | (simp_all [St.get, lk, W, bne, rdP, rdV, formOk]; done))) (by simp)
    ·
     refine WP.skip ?_
     show ∃ y, _ ∧ Weak _ _ _
     refine ⟨⟨k + 1, ?_⟩, ?_, ?_⟩
     · exact ⟨by omega, by simp_all [dgB]⟩
     · dsimp only; omega
     · exact Weak.store (by simp [St.get, lk, W, Le.refl]) (by simp [lk, W, q1, hlt, hd1, hd2, q6, q7]) (by simp [lk]) (by simp [BClo]) (by simp)
theorem c_readint (s : List UInt8) (hs : s.length ≤ 1099511627776) : CallP Pr 31 [.str s] (rdD s) := by
 have := c_readint0 s hs
 rw [rdP_eq] at this
 exact this
theorem c_r_decimal (t : List UInt8) (z : Bool) (hs : t.length ≤ 140737488355328) : CallP Pr 93 [.str t, .bool z] (.bool (decOk t z)) := by
 refine CallP.of_wp Tryz.func93 rfl (by kernel_rfl) Tryz.ntmps93 (by simp) ?_
 simp only [frameOf, Nat.reduceAdd, Nat.zero_add]
 refine WP.sr [0, 1] (by kernel_rfl) fun K hK => ?_
 simp (decide := true) only [W, Pr_prog, ↓reduceIte, Int.reduceToNat]
 refine hK _ _ ?_
 clear hK K
 refine WP.seq ?_
 refine WP.sr [0, 22] (by kernel_rfl) fun K hK => ?_
 refine runOps.take 4 fun J hJ => ?_
 simp (decide := true) only [W, Pr_prog, t_isStr_9, t_isSliceT_9, ↓reduceIte, Int.reduceToNat]
 refine hJ _ _ ?_
 clear hJ J
 refine runOps.part 9 rfl (fun q1 => ?_) (fun q1 => ?_)
 ·
  simp (decide := true) only [W, Pr_prog, t_isStr_9, t_isSliceT_9, q1, ↓reduceIte, Int.reduceToNat]
  refine hK _ _ ?_
  clear hK K
  refine WP.cond (b := true) (by first | rfl | simp [W, q1]) (fun _ => ?_) nofun
  refine WP.sr [4] (by kernel_rfl) fun K hK => ?_
  simp (decide := true) only [W, Pr_prog, q1, ↓reduceIte, Int.reduceToNat]
  refine hK _ _ ?_
  clear hK K
  refine WP.ret ?_
  exact Ends.pure (.inr rfl) rfl (Le.of_eq (by first | (simp (decide := true) only [St.get, lk, W, decOk, q1, ↓reduceIte]; done) | (simp [St.get, lk, W, bne, decOk, q1]; done) | (simp_all [St.get, lk, W, LN, bne, decOk]; done) | (simp_all [St.get, lk, W, LN, bne, decOk]; intros; first | omega | (rw [Bool.eq_iff_iff]; simp; try omega)))) (by simp)
 ·
  have hne : 0 < t.length := by cases t with | nil => simp at q1 | cons => simp
  have e0 := getE hne
  have e0c := chAt_of hne
  have hnn : (t == []) = false := by cases t <;> simp at hne ⊢
  refine runOps.take 4 fun J hJ => ?_
  simp (decide := true) only [W, Pr_prog, t_isStr_9, q1, e0, e0c, hnn, ↓reduceIte, Int.reduceToNat]
  refine hJ _ _ ?_
  clear hJ J
  refine runOps.part 13 rfl (fun q2 => ?_) (fun q2 => ?_)
  ·
   refine runOps.take 4 fun J hJ => ?_
   simp (decide := true) only [W, Pr_prog, t_isStr_9, t_isSliceT_9, q1, e0, e0c, hnn, q2, ↓reduceIte, Int.reduceToNat]
   refine hJ _ _ ?_
   clear hJ J
   refine runOps.part 17 rfl (fun q3 => ?_) (fun q3 => ?_)
   ·
    simp (decide := true) only [W, Pr_prog, q1, e0, e0c, hnn, q2, q3, ↓reduceIte, Int.reduceToNat]
    refine hK _ _ ?_
    clear hK K
    refine WP.cond (b := true) (by first | rfl | simp [W, q1, e0, e0c, hnn, q2, q3]) (fun _ => ?_) nofun
    refine WP.sr [4] (by kernel_rfl) fun K hK => ?_
    simp (decide := true) only [W, Pr_prog, q1, e0, e0c, hnn, q2, q3, ↓reduceIte, Int.reduceToNat]
    refine hK _ _ ?_
    clear hK K
    refine WP.ret ?_
    exact Ends.pure (.inr rfl) rfl (Le.of_eq (by first | (simp (decide := true) only [St.get, lk, W, decOk, q1, e0, e0c, hnn, q2, q3, ↓reduceIte]; done) | (simp [St.get, lk, W, bne, decOk, q1, e0, e0c, hnn, q2, q3]; done) | (simp_all [St.get, lk, W, LN, bne, decOk]; done) | (simp_all [St.get, lk, W, LN, bne, decOk]; intros; first | omega | (rw [Bool.eq_iff_iff]; simp; try omega)))) (by simp)
   ·
    simp (decide := true) only [W, Pr_prog, q1, e0, e0c, hnn, q2, q3, ↓reduceIte, Int.reduceToNat]
    refine hK _ _ ?_
    clear hK K
    refine WP.cond (b := _) rfl (fun q4 => ?_) (fun q4 => ?_)
    ·
     refine WP.sr [4] (by kernel_rfl) fun K hK => ?_
     simp (decide := true) only [W, Pr_prog, q1, e0, e0c, hnn, q2, q3, q4, ↓reduceIte, Int.reduceToNat]
     refine hK _ _ ?_
     clear hK K
     refine WP.ret ?_
     exact Ends.pure (.inr rfl) rfl (Le.of_eq (by first | (simp (decide := true) only [St.get, lk, W, decOk, q1, e0, e0c, hnn, q2, q3, q4, ↓reduceIte]; done) | (simp [St.get, lk, W, bne, decOk, q1, e0, e0c, hnn, q2, q3, q4]; done) | (simp_all [St.get, lk, W, LN, bne, decOk]; done) | (simp_all [St.get, lk, W, LN, bne, decOk]; intros; first | omega | (rw [Bool.eq_iff_iff]; simp; try omega)))) (by simp)
    ·
     refine WP.skip ?_
     show WP _ _ _ _ _ _
     refine WP.seq ?_
     refine WP.sr [0, 5] (by kernel_rfl) fun K hK => ?_
     simp (decide := true) only [W, Pr_prog, q1, e0, e0c, hnn, q2, q3, q4, ↓reduceIte, Int.reduceToNat]
     refine hK _ _ ?_
     clear hK K
     refine WP.block ?_
     refine WP.lp [0] (X := {k : Nat // k ≤ t.length ∧ decOk t z = (t.drop k).all (fun c => dgB c.toNat)}) (fun x => match x with | ⟨(k), _⟩ => [(5, .int .i64 k)]) (fun x => match x with | ⟨(k), _⟩ => []) (fun x => match x with | ⟨(k), _⟩ => t.length - k) (by simp (decide := true) only [W, ↓reduceIte, Int.reduceToNat]; rfl) ?_ ⟨(0), ⟨Nat.zero_le _, by first | (simp [decOk, q1, e0, e0c, hnn, q2, q3, q4]; done) | (simp_all [decOk]; done)⟩⟩ ?_
     rotate_left
     · exact Weak.nil (by simp [St.get, lk, W, Le.refl, q1, e0, e0c, hnn, q2, q3, q4]) (by simp [W])
     rintro ⟨k, hk, hI⟩
     dsimp only
     simp only [List.cons_append, List.nil_append]
     refine WP.seq ?_
     refine WP.sr [0, 5, 26] (by kernel_rfl) fun K hK => ?_
     simp (decide := true) only [W, Pr_prog, t_isStr_9, t_isSliceT_9, q1, e0, e0c, hnn, q2, q3, q4, ↓reduceIte, Int.reduceToNat]
     refine hK _ _ ?_
     clear hK K
     refine WP.cond (b := _) rfl (fun q5 => ?_) (fun q5 => ?_)
     ·
      have hlt := lt_of_q q5
      have hg := getE hlt
      rw [dropE hlt] at hI
      simp only [List.all_cons] at hI
      refine WP.skip ?_
      show WP _ _ _ _ _ _
      refine WP.seq ?_
      refine WP.block ?_
      refine WP.sm [0, 5] 38 (.bool (!(dgB t[k].toNat))) (by kernel_rfl) (fun K hK => ?_) ?_
      ·
       refine runOps.take 5 fun J hJ => ?_
       simp (decide := true) only [W, Pr_prog, t_isStr_9, q1, e0, e0c, hnn, q2, q3, q4, q5, hg, ↓reduceIte, Int.reduceToNat]
       refine hJ _ _ ?_
       clear hJ J
       refine runOps.part 33 rfl (fun q6 => ?_) (fun q6 => ?_)
       ·
        simp (decide := true) only [W, Pr_prog, t_isStr_9, q1, e0, e0c, hnn, q2, q3, q4, q5, hg, q6, ↓reduceIte, Int.reduceToNat]
        exact hK _ _ (by simp [St.get, lk, W]) rfl (Le.of_eq (by first | (simp [St.get, lk, W, bne, dgB, q1, e0, e0c, hnn, q2, q3, q4, q5, hg, q6]; done) | (simp_all [St.get, lk, W, LN, bne, dgB]; done) | (simp_all [St.get, lk, W, LN, bne, dgB]; rw [Bool.eq_iff_iff]; simp; try omega)))
       ·
        simp (decide := true) only [W, Pr_prog, t_isStr_9, q1, e0, e0c, hnn, q2, q3, q4, q5, hg, q6, ↓reduceIte, Int.reduceToNat]
        exact hK _ _ (by simp [St.get, lk, W]) rfl (Le.of_eq (by first | (simp [St.get, lk, W, bne, dgB, q1, e0, e0c, hnn, q2, q3, q4, q5, hg, q6]; done) | (simp_all [St.get, lk, W, LN, bne, dgB]; done) | (simp_all [St.get, lk, W, LN, bne, dgB]; rw [Bool.eq_iff_iff]; simp; try omega)))
      ·
       refine WP.cond (b := _) rfl (fun q7 => ?_) (fun q7 => ?_)
       ·
        refine WP.sr [4] (by kernel_rfl) fun K hK => ?_
        simp (decide := true) only [W, Pr_prog, q1, e0, e0c, hnn, q2, q3, q4, q5, hg, q7, ↓reduceIte, Int.reduceToNat]
        refine hK _ _ ?_
        clear hK K
        refine WP.ret ?_
        exact Ends.pure (.inr rfl) rfl (Le.of_eq (by first | (simp (decide := true) only [St.get, lk, W, decOk, q1, e0, e0c, hnn, q2, q3, q4, q5, hg, q7, hI, ↓reduceIte]; done) | (simp [St.get, lk, W, bne, decOk, q1, e0, e0c, hnn, q2, q3, q4, q5, hg, q7, hI]; done) | (simp_all [St.get, lk, W, LN, bne, decOk]; done) | (simp_all [St.get, lk, W, LN, bne, decOk]; intros; first | omega | (rw [Bool.eq_iff_iff]; simp; try omega)))) (by simp)
       ·
        refine WP.skip ?_
        show WP _ _ _ _ _ _
        refine WP.region (by kernel_rfl) fun K hK => ?_
        simp (decide := true) only [W, Pr_prog, q1, e0, e0c, hnn, q2, q3, q4, q5, hg, q7, ↓reduceIte, Int.reduceToNat]
        refine hK _ _ ?_
        clear hK K
        show ∃ y, _ ∧ Weak _ _ _
        refine ⟨⟨k + 1, ?_⟩, ?_, Weak.nil ?_ ?_⟩
        · exact ⟨by omega, by first | (simpa [q1, e0, e0c, hnn, q2, q3, q4, q5, hg, q7] using hI) | (simp_all; done)⟩
        · dsimp only; omega
        · simp [St.get, lk, W, Le.refl, wrapS hlt hs]
        · simp [W]
     ·
      have hge := ge_of_q q5
      rw [dropN hge] at hI
      simp only [List.all_nil, Bool.true_and] at hI
      refine WP.exit ?_
      show WP _ _ _ _ _ _
      refine WP.sr [4] (by kernel_rfl) fun K hK => ?_
      simp (decide := true) only [W, Pr_prog, q1, e0, e0c, hnn, q2, q3, q4, q5, ↓reduceIte, Int.reduceToNat]
      refine hK _ _ ?_
      clear hK K
      refine WP.ret ?_
      exact Ends.pure (.inr rfl) rfl (Le.of_eq (by first | (simp (decide := true) only [St.get, lk, W, decOk, q1, e0, e0c, hnn, q2, q3, q4, q5, hI, ↓reduceIte]; done) | (simp [St.get, lk, W, bne, decOk, q1, e0, e0c, hnn, q2, q3, q4, q5, hI]; done) | (simp_all [St.get, lk, W, LN, bne, decOk]; done) | (simp_all [St.get, lk, W, LN, bne, decOk]; intros; first | omega | (rw [Bool.eq_iff_iff]; simp; try omega)))) (by simp)
  ·
   simp (decide := true) only [W, Pr_prog, t_isStr_9, t_isSliceT_9, q1, e0, e0c, hnn, q2, ↓reduceIte, Int.reduceToNat]
   refine hK _ _ ?_
   clear hK K
   refine WP.cond (b := false) (by first | rfl | simp [W, q1, e0, e0c, hnn, q2]) nofun (fun _ => ?_)
   refine WP.skip ?_
   show WP _ _ _ _ _ _
   refine WP.seq ?_
   refine WP.sr [0, 5] (by kernel_rfl) fun K hK => ?_
   simp (decide := true) only [W, Pr_prog, q1, e0, e0c, hnn, q2, ↓reduceIte, Int.reduceToNat]
   refine hK _ _ ?_
   clear hK K
   refine WP.block ?_
   refine WP.lp [0] (X := {k : Nat // k ≤ t.length ∧ decOk t z = (t.drop k).all (fun c => dgB c.toNat)}) (fun x => match x with | ⟨(k), _⟩ => [(5, .int .i64 k)]) (fun x => match x with | ⟨(k), _⟩ => []) (fun x => match x with | ⟨(k), _⟩ => t.length - k) (by simp (decide := true) only [W, ↓reduceIte, Int.reduceToNat]; rfl) ?_ ⟨(0), ⟨Nat.zero_le _, by first | (simp [decOk, q1, e0, e0c, hnn, q2]; done) | (simp_all [decOk]; done)⟩⟩ ?_
   rotate_left
   · exact Weak.nil (by simp [St.get, lk, W, Le.refl, q1, e0, e0c, hnn, q2]) (by simp [W])
   rintro ⟨k, hk, hI⟩
   dsimp only
   simp only [List.cons_append, List.nil_append]
   refine WP.seq ?_
   refine WP.sr [0, 5, 26] (by kernel_rfl) fun K hK => ?_
   simp (decide := true) only [W, Pr_prog, t_isStr_9, t_isSliceT_9, q1, e0, e0c, hnn, q2, ↓reduceIte, Int.reduceToNat]
   refine hK _ _ ?_
   clear hK K
   refine WP.cond (b := _) rfl (fun q8 => ?_) (fun q8 => ?_)
   ·
    have hlt := lt_of_q q8
    have hg := getE hlt
    rw [dropE hlt] at hI
    simp only [List.all_cons] at hI
    refine WP.skip ?_
    show WP _ _ _ _ _ _
    refine WP.seq ?_
    refine WP.block ?_
    refine WP.sm [0, 5] 38 (.bool (!(dgB t[k].toNat))) (by kernel_rfl) (fun K hK => ?_) ?_
    ·
     refine runOps.take 5 fun J hJ => ?_
     simp (decide := true) only [W, Pr_prog, t_isStr_9, q1, e0, e0c, hnn, q2, q8, hg, ↓reduceIte, Int.reduceToNat]
     refine hJ _ _ ?_
     clear hJ J
     refine runOps.part 33 rfl (fun q9 => ?_) (fun q9 => ?_)
     ·
      simp (decide := true) only [W, Pr_prog, t_isStr_9, q1, e0, e0c, hnn, q2, q8, hg, q9, ↓reduceIte, Int.reduceToNat]
      exact hK _ _ (by simp [St.get, lk, W]) rfl (Le.of_eq (by first | (simp [St.get, lk, W, bne, dgB, q1, e0, e0c, hnn, q2, q8, hg, q9]; done) | (simp_all [St.get, lk, W, LN, bne, dgB]; done) | (simp_all [St.get, lk, W, LN, bne, dgB]; rw [Bool.eq_iff_iff]; simp; try omega)))
     ·
      simp (decide := true) only [W, Pr_prog, t_isStr_9, q1, e0, e0c, hnn, q2, q8, hg, q9, ↓reduceIte, Int.reduceToNat]
      exact hK _ _ (by simp [St.get, lk, W]) rfl (Le.of_eq (by first | (simp [St.get, lk, W, bne, dgB, q1, e0, e0c, hnn, q2, q8, hg, q9]; done) | (simp_all [St.get, lk, W, LN, bne, dgB]; done) | (simp_all [St.get, lk, W, LN, bne, dgB]; rw [Bool.eq_iff_iff]; simp; try omega)))
    ·
     refine WP.cond (b := _) rfl (fun q10 => ?_) (fun q10 => ?_)
     ·
      refine WP.sr [4] (by kernel_rfl) fun K hK => ?_
      simp (decide := true) only [W, Pr_prog, q1, e0, e0c, hnn, q2, q8, hg, q10, ↓reduceIte, Int.reduceToNat]
      refine hK _ _ ?_
      clear hK K
      refine WP.ret ?_
      exact Ends.pure (.inr rfl) rfl (Le.of_eq (by first | (simp (decide := true) only [St.get, lk, W, decOk, q1, e0, e0c, hnn, q2, q8, hg, q10, hI, ↓reduceIte]; done) | (simp [St.get, lk, W, bne, decOk, q1, e0, e0c, hnn, q2, q8, hg, q10, hI]; done) | (simp_all [St.get, lk, W, LN, bne, decOk]; done) | (simp_all [St.get, lk, W, LN, bne, decOk]; intros; first | omega | (rw [Bool.eq_iff_iff]; simp; try omega)))) (by simp)
     ·
      refine WP.skip ?_
      show WP _ _ _ _ _ _
      refine WP.region (by kernel_rfl) fun K hK => ?_
      simp (decide := true) only [W, Pr_prog, q1, e0, e0c, hnn, q2, q8, hg, q10, ↓reduceIte, Int.reduceToNat]
      refine hK _ _ ?_
      clear hK K
      show ∃ y, _ ∧ Weak _ _ _
      refine ⟨⟨k + 1, ?_⟩, ?_, Weak.nil ?_ ?_⟩
      · exact ⟨by omega, by first | (simpa [q1, e0, e0c, hnn, q2, q8, hg, q10] using hI) | (simp_all; done)⟩
      · dsimp only; omega
      · simp [St.get, lk, W, Le.refl, wrapS hlt hs]
      · simp [W]
   ·
    have hge := ge_of_q q8
    rw [dropN hge] at hI
    simp only [List.all_nil, Bool.true_and] at hI
    refine WP.exit ?_
    show WP _ _ _ _ _ _
    refine WP.sr [4] (by kernel_rfl) fun K hK => ?_
    simp (decide := true) only [W, Pr_prog, q1, e0, e0c, hnn, q2, q8, ↓reduceIte, Int.reduceToNat]
    refine hK _ _ ?_
    clear hK K
    refine WP.ret ?_
    exact Ends.pure (.inr rfl) rfl (Le.of_eq (by first | (simp (decide := true) only [St.get, lk, W, decOk, q1, e0, e0c, hnn, q2, q8, hI, ↓reduceIte]; done) | (simp [St.get, lk, W, bne, decOk, q1, e0, e0c, hnn, q2, q8, hI]; done) | (simp_all [St.get, lk, W, LN, bne, decOk]; done) | (simp_all [St.get, lk, W, LN, bne, decOk]; intros; first | omega | (rw [Bool.eq_iff_iff]; simp; try omega)))) (by simp)
theorem c_int (n : Int) (h0 : -9223372036854775808 ≤ n) (h1 : n ≤ 9223372036854775807) : CallP Pr 71 [.int .i64 n] (.str (Lib.itoa n)) := by
 refine CallP.of_wp Tryz.func71 rfl (by kernel_rfl) Tryz.ntmps71 (by simp) ?_
 simp only [frameOf, Nat.reduceAdd, Nat.zero_add]
 refine WP.sr [0] (by kernel_rfl) fun K hK => ?_
 simp (decide := true) only [W, Pr_prog, ↓reduceIte, Int.reduceToNat]
 refine hK _ _ ?_
 clear hK K
 refine WP.sr [2] (by kernel_rfl) fun K hK => ?_
 simp (decide := true) only [W, Pr_prog, ↓reduceIte, Int.reduceToNat]
 refine CallK.pure (lib_itoa _ (by assumption) (by assumption)) rfl rfl (by simp [-List.map_take]) ?_
 simp (decide := true) only [W, Pr_prog, ↓reduceIte, Int.reduceToNat]
 refine hK _ _ ?_
 clear hK K
 refine WP.ret ?_
 exact Ends.pure (.inr rfl) rfl (Le.of_eq (by first | (simp (decide := true) only [St.get, lk, W, ↓reduceIte]; done) | (simp [St.get, lk, W, bne]; done) | (simp_all [St.get, lk, W, LN, bne]; done) | (simp_all [St.get, lk, W, LN, bne]; intros; first | omega | (rw [Bool.eq_iff_iff]; simp; try omega)))) (by simp)
theorem c_r_int (n : Int) (h0 : -9223372036854775808 ≤ n) (h1 : n ≤ 9223372036854775807) : CallP Pr 74 [.int .i64 n] (.str (Lib.itoa n)) := by
 refine CallP.of_wp Tryz.func74 rfl (by kernel_rfl) Tryz.ntmps74 (by simp) ?_
 simp only [frameOf, Nat.reduceAdd, Nat.zero_add]
 refine WP.sr [0] (by kernel_rfl) fun K hK => ?_
 simp (decide := true) only [W, Pr_prog, bytesOf?, byteOf?, ↓reduceIte, Int.reduceToNat]
 refine hK _ _ ?_
 clear hK K
 refine WP.seq ?_
 refine WP.sr [0, 7] (by kernel_rfl) fun K hK => ?_
 simp (decide := true) only [W, Pr_prog, bytesOf?, byteOf?, ↓reduceIte, Int.reduceToNat]
 refine hK _ _ ?_
 clear hK K
 refine WP.cond (b := _) rfl (fun q1 => ?_) (fun q1 => ?_)
 ·
  obtain rfl : n = 0 := by simpa using q1
  refine WP.sr [2] (by kernel_rfl) fun K hK => ?_
  simp (decide := true) only [W, Pr_prog, q1, bytesOf?, byteOf?, ↓reduceIte, Int.reduceToNat]
  refine hK _ _ ?_
  clear hK K
  refine WP.ret ?_
  exact Ends.pure (.inr rfl) rfl (Le.of_eq (by first | (simp [St.get, lk, W, itoa_0]; done) | (rw [hit, hE]; simp [St.get, lk, W]; done))) (by simp)
 ·
  have hn : n ≠ 0 := by simpa using q1
  refine WP.skip ?_
  show WP _ _ _ _ _ _
  refine WP.sr [0, 3] (by kernel_rfl) fun K hK => ?_
  simp (decide := true) only [W, Pr_prog, q1, bytesOf?, byteOf?, ↓reduceIte, Int.reduceToNat]
  refine hK _ _ ?_
  clear hK K
  refine WP.seq ?_
  refine WP.sr [0, 3, 4] (by kernel_rfl) fun K hK => ?_
  simp (decide := true) only [W, Pr_prog, q1, bytesOf?, byteOf?, ↓reduceIte, Int.reduceToNat]
  refine hK _ _ ?_
  clear hK K
  refine WP.block ?_
  refine WP.lp [0] (X := {x : (Int) × (List UInt8) // match x with | (m, out) => intInv n m out}) (fun x => match x with | ⟨(m, out), _⟩ => [(3, .str out), (4, .int .i64 m)]) (fun x => match x with | ⟨(m, out), _⟩ => []) (fun x => match x with | ⟨(m, out), _⟩ => m.natAbs) (by simp (decide := true) only [W, ↓reduceIte, Int.reduceToNat]; rfl) ?_ ⟨(n, []), intInv_start n h0 h1 hn⟩ ?_
  rotate_left
  · exact Weak.nil (by simp [St.get, lk, W, Le.refl, q1]) (by simp [W])
  rintro ⟨⟨m, out⟩, hI⟩
  dsimp only
  simp only [List.cons_append, List.nil_append]
  dsimp only at hI
  refine WP.seq ?_
  refine WP.sr [0, 3, 4, 10] (by kernel_rfl) fun K hK => ?_
  simp (decide := true) only [W, Pr_prog, q1, bytesOf?, byteOf?, ↓reduceIte, Int.reduceToNat]
  refine hK _ _ ?_
  clear hK K
  refine WP.cond (b := _) rfl (fun q2 => ?_) (fun q2 => ?_)
  ·
   have hm : m ≠ 0 := by simpa using q2
   obtain ⟨hl, hJ⟩ := intInv_step hI hm
   have hdb := dig_byte (m.natAbs % 10) (by omega)
   refine WP.skip ?_
   show WP _ _ _ _ _ _
   refine WP.seq ?_
   refine WP.block ?_
   refine WP.sr [0, 3, 4, 5] (by kernel_rfl) fun K hK => ?_
   simp (decide := true) only [W, Pr_prog, q1, q2, hdb, bytesOf?, byteOf?, ↓reduceIte, Int.reduceToNat]
   refine hK _ _ ?_
   clear hK K
   refine WP.seq ?_
   refine WP.sr [0, 3, 4, 5, 16] (by kernel_rfl) fun K hK => ?_
   simp (decide := true) only [W, Pr_prog, q1, q2, hdb, bytesOf?, byteOf?, ↓reduceIte, Int.reduceToNat]
   refine hK _ _ ?_
   clear hK K
   refine WP.cond (b := _) rfl (fun q3 => ?_) (fun q3 => ?_)
   ·
    have htm := tmod_neg m (of_decide_eq_true q3)
    refine WP.region (by kernel_rfl) fun K hK => ?_
    simp (decide := true) only [W, Pr_prog, q1, q2, hdb, q3, htm, bytesOf?, byteOf?, ↓reduceIte, Int.reduceToNat]
    refine hK _ _ ?_
    clear hK K
    show WP _ _ _ _ _ _
    refine WP.region (by kernel_rfl) fun K hK => ?_
    simp (decide := true) only [W, Pr_prog, t_kindD_3, t_kindD_5, t_isStr_3, t_isStr_5, t_elemD_56, t_okElem_5, t_kindD_56, t_kindD_9, t_isStr_56, t_isStr_9, q1, q2, hdb, q3, htm, bytesOf?, byteOf?, ↓reduceIte, Int.reduceToNat]
    refine ⟨by first | omega | (simp; omega), ?_⟩
    refine hK _ _ ?_
    clear hK K
    show WP _ _ _ _ _ _
    refine WP.region (by kernel_rfl) fun K hK => ?_
    simp (decide := true) only [W, Pr_prog, q1, q2, hdb, q3, htm, bytesOf?, byteOf?, ↓reduceIte, Int.reduceToNat]
    refine hK _ _ ?_
    clear hK K
    show ∃ y, _ ∧ Weak _ _ _
    refine ⟨⟨(m.tdiv 10, UInt8.ofNat (48 + m.natAbs % 10) :: out), hJ⟩, ?_, Weak.nil ?_ ?_⟩
    · have := tdiv_abs m; dsimp only; omega
    · simp [St.get, lk, W, Le.refl, wrap_tdiv m hI.1 hI.2.1]
    · simp [W]
   ·
    have htm := tmod_pos m (of_decide_eq_false q3)
    refine WP.skip ?_
    show WP _ _ _ _ _ _
    refine WP.region (by kernel_rfl) fun K hK => ?_
    simp (decide := true) only [W, Pr_prog, t_kindD_3, t_kindD_5, t_isStr_3, t_isStr_5, t_elemD_56, t_okElem_5, t_kindD_56, t_kindD_9, t_isStr_56, t_isStr_9, q1, q2, hdb, q3, htm, bytesOf?, byteOf?, ↓reduceIte, Int.reduceToNat]
    refine ⟨by first | omega | (simp; omega), ?_⟩
    refine hK _ _ ?_
    clear hK K
    show WP _ _ _ _ _ _
    refine WP.region (by kernel_rfl) fun K hK => ?_
    simp (decide := true) only [W, Pr_prog, q1, q2, hdb, q3, htm, bytesOf?, byteOf?, ↓reduceIte, Int.reduceToNat]
    refine hK _ _ ?_
    clear hK K
    show ∃ y, _ ∧ Weak _ _ _
    refine ⟨⟨(m.tdiv 10, UInt8.ofNat (48 + m.natAbs % 10) :: out), hJ⟩, ?_, Weak.nil ?_ ?_⟩
    · have := tdiv_abs m; dsimp only; omega
    · simp [St.get, lk, W, Le.refl, wrap_tdiv m hI.1 hI.2.1]
    · simp [W]
  ·
   obtain rfl : m = 0 := by simpa using q2
   have hE := intInv_end hI
   refine WP.exit ?_
   show WP _ _ _ _ _ _
   refine WP.seq ?_
   refine WP.sr [3, 27] (by kernel_rfl) fun K hK => ?_
   simp (decide := true) only [W, Pr_prog, q1, q2, bytesOf?, byteOf?, ↓reduceIte, Int.reduceToNat]
   refine hK _ _ ?_
   clear hK K
   refine WP.cond (b := _) rfl (fun q4 => ?_) (fun q4 => ?_)
   ·
    have hit := itoa_neg n (of_decide_eq_true q4)
    refine WP.sr [2] (by kernel_rfl) fun K hK => ?_
    simp (decide := true) only [W, Pr_prog, q1, q2, q4, bytesOf?, byteOf?, ↓reduceIte, Int.reduceToNat]
    refine ⟨by have := hI.2.2.1; first | omega | (simp; omega), ?_⟩
    refine hK _ _ ?_
    clear hK K
    refine WP.ret ?_
    exact Ends.pure (.inr rfl) rfl (Le.of_eq (by first | (simp [St.get, lk, W, itoa_0]; done) | (rw [hit, hE]; simp [St.get, lk, W]; done))) (by simp)
   ·
    have hit := itoa_pos n (of_decide_eq_false q4)
    refine WP.skip ?_
    show WP _ _ _ _ _ _
    refine WP.sr [2] (by kernel_rfl) fun K hK => ?_
    simp (decide := true) only [W, Pr_prog, q1, q2, q4, bytesOf?, byteOf?, ↓reduceIte, Int.reduceToNat]
    refine hK _ _ ?_
    clear hK K
    refine WP.ret ?_
    exact Ends.pure (.inr rfl) rfl (Le.of_eq (by first | (simp [St.get, lk, W, itoa_0]; done) | (rw [hit, hE]; simp [St.get, lk, W]; done))) (by simp)
end Go.Proofs

set_option linter.unusedSimpArgs false
set_option linter.unusedVariables false
set_option maxRecDepth 10000
namespace Go.Proofs
open Go Go.Id

theorem h45t : (((45 : UInt8).toNat : Int) == 45) = true := by decide
theorem gt0 (n : Nat) : decide (((n + 1 : Nat) : Int) > 0) = true := decide_eq_true (by omega)
theorem le1 (n : Nat) : (1 ≤ n + 1) = True := eq_true (by omega)
theorem gt0s {s : List UInt8} (h : 0 < s.length) : decide ((s.length : Int) > 0) = true := decide_eq_true (by omega)
theorem rdN_pos (s : List UInt8) (h : 0 < s.length) (hc : ¬ s[0] = 45) : rdN s = if decOk s true then (if decV s < 9223372036854775808 then ((decV s : Int), 0) else (0, 27)) else (0, 4) := by
 match s, h, hc with
 | c :: t, _, hc => simp only [rdN]; rw [if_neg (by simpa using hc)]
theorem dd_step (s : List UInt8) (k : Nat) (h0 : 1 ≤ k) (h : k < s.length) : ddB (s.drop (k - 1)) = ((((s[k].toNat : Int) == 46) && ((s[k - 1].toNat : Int) == 46)) || ddB (s.drop k)) := by
 have e : ∀ c : UInt8, ((c.toNat : Int) == 46) = (c == 46) := by
  intro c
  rw [Bool.eq_iff_iff]
  simp only [beq_iff_eq]
  exact ⟨fun e => UInt8.toNat_inj.1 (by show c.toNat = 46; omega), fun e => by rw [e]; rfl⟩
 rw [e, e]
 have h1 : s.drop (k - 1) = s[k - 1] :: s.drop k := by
  have := List.drop_eq_getElem_cons (l := s) (i := k - 1) (by omega)
  rw [this]; congr 2; omega
 rw [h1, ddB, List.drop_eq_getElem_cons h]
 simp only [List.head?_cons]
 have : (some s[k] == some (46 : UInt8)) = (s[k] == 46) := by
  rw [Bool.eq_iff_iff]; simp
 rw [this, Bool.and_comm]
theorem dd_end (s : List UInt8) (k : Nat) (h : s.length ≤ k) (h1 : 1 ≤ k) (h2 : k ≤ s.length) : ddB (s.drop (k - 1)) = false := by
 have hk : k = s.length := by omega
 subst hk
 have h3 : s.drop (s.length - 1) = [s[s.length - 1]] := by
  rw [List.drop_eq_getElem_cons (by omega)]
  congr 1
  exact List.drop_eq_nil_of_le (by omega)
 rw [h3]; simp [ddB]
theorem wrapM {k : Nat} (h : 1 ≤ k) (hn : k ≤ 140737488355328) : IntKind.wrap .i64 ((k : Int) - 1) = ((k - 1 : Nat) : Int) := by
 rw [wrap_i64 (by omega) (by omega)]; omega

theorem c_r_readint_nil : CallP Pr 56 [.str []] (rdD []) := by
 have h00 : decide (((0 : Nat) : Int) > 0) = false := by decide
 refine CallP.of_wp Tryz.func56 rfl (by kernel_rfl) Tryz.ntmps56 (by simp) ?_
 simp only [frameOf, Nat.reduceAdd, Nat.zero_add]
 refine WP.sr [0] (by kernel_rfl) fun K hK => ?_
 simp (decide := true) only [W, Pr_prog, h00, ↓reduceIte, Int.reduceToNat]
 refine hK _ _ ?_
 clear hK K
 refine WP.sr [0, 4] (by kernel_rfl) fun K hK => ?_
 simp (decide := true) only [W, Pr_prog, h00, ↓reduceIte, Int.reduceToNat]
 refine hK _ _ ?_
 clear hK K
 refine WP.sr [0, 4, 5] (by kernel_rfl) fun K hK => ?_
 simp (decide := true) only [W, Pr_prog, t_isStr_9, t_isSliceT_9, h00, ↓reduceIte, Int.reduceToNat]
 refine hK _ _ ?_
 clear hK K
 refine WP.sr [0, 4, 5, 6] (by kernel_rfl) fun K hK => ?_
 simp (decide := true) only [W, Pr_prog, h00, ↓reduceIte, Int.reduceToNat]
 refine hK _ _ ?_
 clear hK K
 refine WP.seq ?_
 refine WP.sr [0, 4, 5, 6, 19] (by kernel_rfl) fun K hK => ?_
 simp (decide := true) only [W, Pr_prog, h00, ↓reduceIte, Int.reduceToNat]
 refine hK _ _ ?_
 clear hK K
 refine WP.cond (b := false) (by first | rfl | simp [W, h00]) nofun (fun _ => ?_)
 refine WP.skip ?_
 show WP _ _ _ _ _ _
 refine WP.seq ?_
 refine WP.sr [4, 5, 6, 26] (by kernel_rfl) fun K hK => ?_
 simp (decide := true) only [W, Pr_prog, h00, ↓reduceIte, Int.reduceToNat]
 refine CallK.pure (c_r_decimal [] true (by simp)) rfl rfl (by simp [-List.map_take]) ?_
 simp (decide := true) only [W, Pr_prog, h00, ↓reduceIte, Int.reduceToNat]
 refine hK _ _ ?_
 clear hK K
 refine WP.cond (b := _) rfl (fun q1 => ?_) (fun q1 => ?_)
 ·
  simp only [Bool.not_eq_true', Bool.not_eq_false'] at q1
  refine WP.sr [2, 3] (by kernel_rfl) fun K hK => ?_
  simp (decide := true) only [W, Pr_prog, h00, q1, ↓reduceIte, Int.reduceToNat]
  refine hK _ _ ?_
  clear hK K
  refine WP.ret ?_
  exact Ends.pure (d := .tup [_, _]) (.inr rfl) rfl (Le.of_eq (by first | (simp (decide := true) only [St.get, lk, W, rdD, rdN, h00, q1, ↓reduceIte]; done) | (simp [St.get, lk, W, bne, rdD, rdN, h00, q1]; done) | (simp_all [St.get, lk, W, LN, bne, rdD, rdN]; done) | (simp_all [St.get, lk, W, LN, bne, rdD, rdN]; intros; first | omega | (rw [Bool.eq_iff_iff]; simp; try omega)))) (by simp)
 ·
  simp only [Bool.not_eq_true', Bool.not_eq_false'] at q1
  exact absurd q1 (by decide)
theorem c_r_readint_neg (t : List UInt8) (hs : t.length < 1099511627776) : CallP Pr 56 [.str (45 :: t)] (rdD (45 :: t)) := by
 have hL : t.length ≤ 140737488355328 := by omega
 refine CallP.of_wp Tryz.func56 rfl (by kernel_rfl) Tryz.ntmps56 (by simp) ?_
 simp only [frameOf, Nat.reduceAdd, Nat.zero_add]
 refine WP.sr [0] (by kernel_rfl) fun K hK => ?_
 simp (decide := true) only [W, Pr_prog, List.take_length, h45t, gt0, le1, ↓reduceIte, Int.reduceToNat]
 refine hK _ _ ?_
 clear hK K
 refine WP.sr [0, 4] (by kernel_rfl) fun K hK => ?_
 simp (decide := true) only [W, Pr_prog, List.take_length, h45t, gt0, le1, ↓reduceIte, Int.reduceToNat]
 refine hK _ _ ?_
 clear hK K
 refine WP.sr [0, 4, 5] (by kernel_rfl) fun K hK => ?_
 simp (decide := true) only [W, Pr_prog, t_isStr_9, t_isSliceT_9, List.take_length, h45t, gt0, le1, ↓reduceIte, Int.reduceToNat]
 refine hK _ _ ?_
 clear hK K
 refine WP.sr [0, 4, 5, 6] (by kernel_rfl) fun K hK => ?_
 simp (decide := true) only [W, Pr_prog, List.take_length, h45t, gt0, le1, ↓reduceIte, Int.reduceToNat]
 refine hK _ _ ?_
 clear hK K
 refine WP.seq ?_
 refine WP.sr [0, 4, 5, 6, 19] (by kernel_rfl) fun K hK => ?_
 simp (decide := true) only [W, Pr_prog, List.take_length, h45t, gt0, le1, ↓reduceIte, Int.reduceToNat]
 refine hK _ _ ?_
 clear hK K
 refine WP.cond (b := true) (by first | rfl | simp [W]) (fun _ => ?_) nofun
 refine WP.region (by kernel_rfl) fun K hK => ?_
 simp (decide := true) only [W, Pr_prog, t_isStr_9, List.take_length, h45t, gt0, le1, ↓reduceIte, Int.reduceToNat]
 refine hK _ _ ?_
 clear hK K
 show WP _ _ _ _ _ _
 refine WP.seq ?_
 refine WP.sr [4, 5, 6, 26] (by kernel_rfl) fun K hK => ?_
 simp (decide := true) only [W, Pr_prog, List.take_length, h45t, gt0, le1, ↓reduceIte, Int.reduceToNat]
 refine CallK.pure (c_r_decimal (t) false (by omega)) rfl rfl (by simp [-List.map_take]) ?_
 simp (decide := true) only [W, Pr_prog, List.take_length, h45t, gt0, le1, ↓reduceIte, Int.reduceToNat]
 refine hK _ _ ?_
 clear hK K
 refine WP.cond (b := _) rfl (fun q1 => ?_) (fun q1 => ?_)
 ·
  simp only [Bool.not_eq_true', Bool.not_eq_false'] at q1
  have hok : decOk t false = false := by simpa using q1
  refine WP.sr [2, 3] (by kernel_rfl) fun K hK => ?_
  simp (decide := true) only [W, Pr_prog, q1, List.take_length, h45t, gt0, le1, ↓reduceIte, Int.reduceToNat]
  refine hK _ _ ?_
  clear hK K
  refine WP.ret ?_
  exact Ends.pure (d := .tup [_, _]) (.inr rfl) rfl (Le.of_eq (by first | (simp [St.get, lk, W, bne, rdD, rdN, hok, hbig, q1]; done) | (simp [St.get, lk, W, bne, rdD, rdN, hok, hI]; done) | (simp [St.get, lk, W, bne, rdD, rdN, hok, he, hng]; done) | (simp [St.get, lk, W, bne, rdD, rdN, hok]; done) | (simp_all [rdD, rdN, St.get, lk, W]; try omega))) (by simp)
 ·
  simp only [Bool.not_eq_true', Bool.not_eq_false'] at q1
  have hok : decOk t false = true := by simpa using q1
  have hall := decOk_all hok
  refine WP.skip ?_
  show WP _ _ _ _ _ _
  refine WP.sr [4, 5, 6, 7] (by kernel_rfl) fun K hK => ?_
  simp (decide := true) only [W, Pr_prog, q1, List.take_length, h45t, gt0, le1, ↓reduceIte, Int.reduceToNat]
  refine hK _ _ ?_
  clear hK K
  refine WP.seq ?_
  refine WP.sr [4, 5, 6, 7, 8] (by kernel_rfl) fun K hK => ?_
  simp (decide := true) only [W, Pr_prog, q1, List.take_length, h45t, gt0, le1, ↓reduceIte, Int.reduceToNat]
  refine hK _ _ ?_
  clear hK K
  refine WP.block ?_
  refine WP.lp [4, 5, 6] (X := {k : Nat // k ≤ t.length ∧ decV (t.take k) ≤ 9223372036854775808}) (fun x => match x with | ⟨(k), _⟩ => [(7, .int .i64 (-(decV (t.take k) : Int))), (8, .int .i64 k)]) (fun x => match x with | ⟨(k), _⟩ => []) (fun x => match x with | ⟨(k), _⟩ => t.length - k) (by simp (decide := true) only [W, ↓reduceIte, Int.reduceToNat]; rfl) ?_ ⟨(0), ⟨Nat.zero_le _, by simp [decV]⟩⟩ ?_
  rotate_left
  · exact Weak.nil (by simp [St.get, lk, W, Le.refl, decV, q1]) (by simp)
  rintro ⟨k, hk, hI⟩
  dsimp only
  simp only [List.cons_append, List.nil_append]
  refine WP.seq ?_
  refine WP.sr [4, 5, 6, 7, 8, 30] (by kernel_rfl) fun K hK => ?_
  simp (decide := true) only [W, Pr_prog, t_isStr_9, t_isSliceT_9, q1, List.take_length, h45t, gt0, le1, ↓reduceIte, Int.reduceToNat]
  refine hK _ _ ?_
  clear hK K
  refine WP.cond (b := _) rfl (fun q2 => ?_) (fun q2 => ?_)
  ·
   have hlt := lt_of_q q2
   have hg := getE hlt
   have hdg := all_at hall hlt
   have hdc := dig_conv _ hdg
   have hd9 := dig_le _ hdg
   have hcm := rd_cmp (decV (t.take k)) _ hI hd9
   have htk := decV_take t k hlt
   have hle := decV_le t (k + 1)
   refine WP.skip ?_
   show WP _ _ _ _ _ _
   refine WP.seq ?_
   refine WP.block ?_
   refine WP.sr [4, 5, 6, 7, 8, 9] (by kernel_rfl) fun K hK => ?_
   simp (decide := true) only [W, Pr_prog, t_isStr_9, t_kindD_5, t_kindD_3, t_isStr_5, t_isStr_3, q1, q2, hg, hdc, hcm, List.take_length, h45t, gt0, le1, ↓reduceIte, Int.reduceToNat]
   refine hK _ _ ?_
   clear hK K
   refine WP.seq ?_
   refine WP.sr [4, 5, 6, 7, 8, 9, 43] (by kernel_rfl) fun K hK => ?_
   simp (decide := true) only [W, Pr_prog, q1, q2, hg, hdc, hcm, List.take_length, h45t, gt0, le1, ↓reduceIte, Int.reduceToNat]
   refine hK _ _ ?_
   clear hK K
   refine WP.cond (b := _) rfl (fun q3 => ?_) (fun q3 => ?_)
   ·
    have hov : 9223372036854775808 < decV (t.take k) * 10 + (t[k].toNat - 48) := of_decide_eq_true q3
    have hbig : ¬ decV (t) ≤ 9223372036854775808 := by omega
    refine WP.sr [2, 3] (by kernel_rfl) fun K hK => ?_
    simp (decide := true) only [W, Pr_prog, q1, q2, hg, hdc, hcm, q3, List.take_length, h45t, gt0, le1, ↓reduceIte, Int.reduceToNat]
    refine hK _ _ ?_
    clear hK K
    refine WP.ret ?_
    exact Ends.pure (d := .tup [_, _]) (.inr rfl) rfl (Le.of_eq (by first | (simp [St.get, lk, W, bne, rdD, rdN, hok, hbig, q1, q2, hg, hdc, hcm, q3]; done) | (simp [St.get, lk, W, bne, rdD, rdN, hok, hI]; done) | (simp [St.get, lk, W, bne, rdD, rdN, hok, he, hng]; done) | (simp [St.get, lk, W, bne, rdD, rdN, hok]; done) | (simp_all [rdD, rdN, St.get, lk, W]; try omega))) (by simp)
   ·
    have hov := of_decide_eq_false q3
    have hst := rd_step (decV (t.take k)) _ hd9 (by omega)
    refine WP.skip ?_
    show WP _ _ _ _ _ _
    refine WP.region (by kernel_rfl) fun K hK => ?_
    simp (decide := true) only [W, Pr_prog, q1, q2, hg, hdc, hcm, q3, hst, List.take_length, h45t, gt0, le1, ↓reduceIte, Int.reduceToNat]
    refine hK _ _ ?_
    clear hK K
    show WP _ _ _ _ _ _
    refine WP.region (by kernel_rfl) fun K hK => ?_
    simp (decide := true) only [W, Pr_prog, q1, q2, hg, hdc, hcm, q3, hst, List.take_length, h45t, gt0, le1, ↓reduceIte, Int.reduceToNat]
    refine hK _ _ ?_
    clear hK K
    show ∃ y, _ ∧ Weak _ _ _
    refine ⟨⟨k + 1, ?_⟩, ?_, Weak.nil ?_ ?_⟩
    · exact ⟨by omega, by omega⟩
    · dsimp only; omega
    · simp [St.get, lk, W, Le.refl, htk, hst, wrapS hlt hL]
    · simp [W]
  ·
   have hge := ge_of_q q2
   obtain rfl : k = t.length := by omega
   rw [List.take_length] at hI
   refine WP.exit ?_
   show WP _ _ _ _ _ _
   refine WP.seq ?_
   refine WP.sr [4, 7, 48] (by kernel_rfl) fun K hK => ?_
   simp (decide := true) only [W, Pr_prog, q1, q2, List.take_length, h45t, gt0, le1, ↓reduceIte, Int.reduceToNat]
   refine hK _ _ ?_
   clear hK K
   refine WP.cond (b := true) (by first | rfl | simp [W, q1, q2]) (fun _ => ?_) nofun
   refine WP.sr [2, 3] (by kernel_rfl) fun K hK => ?_
   simp (decide := true) only [W, Pr_prog, q1, q2, List.take_length, h45t, gt0, le1, ↓reduceIte, Int.reduceToNat]
   refine hK _ _ ?_
   clear hK K
   refine WP.ret ?_
   exact Ends.pure (d := .tup [_, _]) (.inr rfl) rfl (Le.of_eq (by first | (simp [St.get, lk, W, bne, rdD, rdN, hok, hbig, q1, q2]; done) | (simp [St.get, lk, W, bne, rdD, rdN, hok, hI]; done) | (simp [St.get, lk, W, bne, rdD, rdN, hok, he, hng]; done) | (simp [St.get, lk, W, bne, rdD, rdN, hok]; done) | (simp_all [rdD, rdN, St.get, lk, W]; try omega))) (by simp)
theorem c_r_readint_pos (s : List UInt8) (hs : s.length ≤ 1099511627776) (hne : 0 < s.length) (hc : ¬ s[0] = 45) : CallP Pr 56 [.str (s)] (rdD (s)) := by
 have hL : s.length ≤ 140737488355328 := by omega
 have hn45 := ne45 hc
 have e0 := getE hne
 have gt0 := gt0s hne
 have hrn := rdN_pos s hne hc
 refine CallP.of_wp Tryz.func56 rfl (by kernel_rfl) Tryz.ntmps56 (by simp) ?_
 simp only [frameOf, Nat.reduceAdd, Nat.zero_add]
 refine WP.sr [0] (by kernel_rfl) fun K hK => ?_
 simp (decide := true) only [W, Pr_prog, hn45, e0, gt0, List.take_length, h45t, gt0, le1, ↓reduceIte, Int.reduceToNat]
 refine hK _ _ ?_
 clear hK K
 refine WP.sr [0, 4] (by kernel_rfl) fun K hK => ?_
 simp (decide := true) only [W, Pr_prog, hn45, e0, gt0, List.take_length, h45t, gt0, le1, ↓reduceIte, Int.reduceToNat]
 refine hK _ _ ?_
 clear hK K
 refine WP.sr [0, 4, 5] (by kernel_rfl) fun K hK => ?_
 simp (decide := true) only [W, Pr_prog, t_isStr_9, t_isSliceT_9, hn45, e0, gt0, List.take_length, h45t, gt0, le1, ↓reduceIte, Int.reduceToNat]
 refine hK _ _ ?_
 clear hK K
 refine WP.sr [0, 4, 5, 6] (by kernel_rfl) fun K hK => ?_
 simp (decide := true) only [W, Pr_prog, hn45, e0, gt0, List.take_length, h45t, gt0, le1, ↓reduceIte, Int.reduceToNat]
 refine hK _ _ ?_
 clear hK K
 refine WP.seq ?_
 refine WP.sr [0, 4, 5, 6, 19] (by kernel_rfl) fun K hK => ?_
 simp (decide := true) only [W, Pr_prog, hn45, e0, gt0, List.take_length, h45t, gt0, le1, ↓reduceIte, Int.reduceToNat]
 refine hK _ _ ?_
 clear hK K
 refine WP.cond (b := false) (by first | rfl | simp [W, hn45, e0, gt0]) nofun (fun _ => ?_)
 refine WP.skip ?_
 show WP _ _ _ _ _ _
 refine WP.seq ?_
 refine WP.sr [4, 5, 6, 26] (by kernel_rfl) fun K hK => ?_
 simp (decide := true) only [W, Pr_prog, hn45, e0, gt0, List.take_length, h45t, gt0, le1, ↓reduceIte, Int.reduceToNat]
 refine CallK.pure (c_r_decimal (s) true (by omega)) rfl rfl (by simp [-List.map_take]) ?_
 simp (decide := true) only [W, Pr_prog, hn45, e0, gt0, List.take_length, h45t, gt0, le1, ↓reduceIte, Int.reduceToNat]
 refine hK _ _ ?_
 clear hK K
 refine WP.cond (b := _) rfl (fun q1 => ?_) (fun q1 => ?_)
 ·
  simp only [Bool.not_eq_true', Bool.not_eq_false'] at q1
  have hok : decOk s true = false := by simpa using q1
  refine WP.sr [2, 3] (by kernel_rfl) fun K hK => ?_
  simp (decide := true) only [W, Pr_prog, hn45, e0, gt0, q1, List.take_length, h45t, gt0, le1, ↓reduceIte, Int.reduceToNat]
  refine hK _ _ ?_
  clear hK K
  refine WP.ret ?_
  exact Ends.pure (d := .tup [_, _]) (.inr rfl) rfl (Le.of_eq (by first | (simp [St.get, lk, W, bne, rdD, hrn, hok, hbig, hn45, e0, gt0, q1]; done) | (simp [St.get, lk, W, bne, rdD, hrn, hok, hI]; done) | (simp [St.get, lk, W, bne, rdD, hrn, hok, he, hng]; done) | (simp [St.get, lk, W, bne, rdD, hrn, hok]; done) | (simp_all [rdD, rdN, St.get, lk, W]; try omega))) (by simp)
 ·
  simp only [Bool.not_eq_true', Bool.not_eq_false'] at q1
  have hok : decOk s true = true := by simpa using q1
  have hall := decOk_all hok
  refine WP.skip ?_
  show WP _ _ _ _ _ _
  refine WP.sr [4, 5, 6, 7] (by kernel_rfl) fun K hK => ?_
  simp (decide := true) only [W, Pr_prog, hn45, e0, gt0, q1, List.take_length, h45t, gt0, le1, ↓reduceIte, Int.reduceToNat]
  refine hK _ _ ?_
  clear hK K
  refine WP.seq ?_
  refine WP.sr [4, 5, 6, 7, 8] (by kernel_rfl) fun K hK => ?_
  simp (decide := true) only [W, Pr_prog, hn45, e0, gt0, q1, List.take_length, h45t, gt0, le1, ↓reduceIte, Int.reduceToNat]
  refine hK _ _ ?_
  clear hK K
  refine WP.block ?_
  refine WP.lp [4, 5, 6] (X := {k : Nat // k ≤ s.length ∧ decV (s.take k) ≤ 9223372036854775808}) (fun x => match x with | ⟨(k), _⟩ => [(7, .int .i64 (-(decV (s.take k) : Int))), (8, .int .i64 k)]) (fun x => match x with | ⟨(k), _⟩ => []) (fun x => match x with | ⟨(k), _⟩ => s.length - k) (by simp (decide := true) only [W, ↓reduceIte, Int.reduceToNat]; rfl) ?_ ⟨(0), ⟨Nat.zero_le _, by simp [decV]⟩⟩ ?_
  rotate_left
  · exact Weak.nil (by simp [St.get, lk, W, Le.refl, decV, hn45, e0, gt0, q1]) (by simp)
  rintro ⟨k, hk, hI⟩
  dsimp only
  simp only [List.cons_append, List.nil_append]
  refine WP.seq ?_
  refine WP.sr [4, 5, 6, 7, 8, 30] (by kernel_rfl) fun K hK => ?_
  simp (decide := true) only [W, Pr_prog, t_isStr_9, t_isSliceT_9, hn45, e0, gt0, q1, List.take_length, h45t, gt0, le1, ↓reduceIte, Int.reduceToNat]
  refine hK _ _ ?_
  clear hK K
  refine WP.cond (b := _) rfl (fun q2 => ?_) (fun q2 => ?_)
  ·
   have hlt := lt_of_q q2
   have hg := getE hlt
   have hdg := all_at hall hlt
   have hdc := dig_conv _ hdg
   have hd9 := dig_le _ hdg
   have hcm := rd_cmp (decV (s.take k)) _ hI hd9
   have htk := decV_take s k hlt
   have hle := decV_le s (k + 1)
   refine WP.skip ?_
   show WP _ _ _ _ _ _
   refine WP.seq ?_
   refine WP.block ?_
   refine WP.sr [4, 5, 6, 7, 8, 9] (by kernel_rfl) fun K hK => ?_
   simp (decide := true) only [W, Pr_prog, t_isStr_9, t_kindD_5, t_kindD_3, t_isStr_5, t_isStr_3, hn45, e0, gt0, q1, q2, hg, hdc, hcm, List.take_length, h45t, gt0, le1, ↓reduceIte, Int.reduceToNat]
   refine hK _ _ ?_
   clear hK K
   refine WP.seq ?_
   refine WP.sr [4, 5, 6, 7, 8, 9, 43] (by kernel_rfl) fun K hK => ?_
   simp (decide := true) only [W, Pr_prog, hn45, e0, gt0, q1, q2, hg, hdc, hcm, List.take_length, h45t, gt0, le1, ↓reduceIte, Int.reduceToNat]
   refine hK _ _ ?_
   clear hK K
   refine WP.cond (b := _) rfl (fun q3 => ?_) (fun q3 => ?_)
   ·
    have hov : 9223372036854775808 < decV (s.take k) * 10 + (s[k].toNat - 48) := of_decide_eq_true q3
    have hbig : ¬ decV (s) < 9223372036854775808 := by omega
    refine WP.sr [2, 3] (by kernel_rfl) fun K hK => ?_
    simp (decide := true) only [W, Pr_prog, hn45, e0, gt0, q1, q2, hg, hdc, hcm, q3, List.take_length, h45t, gt0, le1, ↓reduceIte, Int.reduceToNat]
    refine hK _ _ ?_
    clear hK K
    refine WP.ret ?_
    exact Ends.pure (d := .tup [_, _]) (.inr rfl) rfl (Le.of_eq (by first | (simp [St.get, lk, W, bne, rdD, hrn, hok, hbig, hn45, e0, gt0, q1, q2, hg, hdc, hcm, q3]; done) | (simp [St.get, lk, W, bne, rdD, hrn, hok, hI]; done) | (simp [St.get, lk, W, bne, rdD, hrn, hok, he, hng]; done) | (simp [St.get, lk, W, bne, rdD, hrn, hok]; done) | (simp_all [rdD, rdN, St.get, lk, W]; try omega))) (by simp)
   ·
    have hov := of_decide_eq_false q3
    have hst := rd_step (decV (s.take k)) _ hd9 (by omega)
    refine WP.skip ?_
    show WP _ _ _ _ _ _
    refine WP.region (by kernel_rfl) fun K hK => ?_
    simp (decide := true) only [W, Pr_prog, hn45, e0, gt0, q1, q2, hg, hdc, hcm, q3, hst, List.take_length, h45t, gt0, le1, ↓reduceIte, Int.reduceToNat]
    refine hK _ _ ?_
    clear hK K
    show WP _ _ _ _ _ _
    refine WP.region (by kernel_rfl) fun K hK => ?_
    simp (decide := true) only [W, Pr_prog, hn45, e0, gt0, q1, q2, hg, hdc, hcm, q3, hst, List.take_length, h45t, gt0, le1, ↓reduceIte, Int.reduceToNat]
    refine hK _ _ ?_
    clear hK K
    show ∃ y, _ ∧ Weak _ _ _
    refine ⟨⟨k + 1, ?_⟩, ?_, Weak.nil ?_ ?_⟩
    · exact ⟨by omega, by omega⟩
    · dsimp only; omega
    · simp [St.get, lk, W, Le.refl, htk, hst, wrapS hlt hL]
    · simp [W]
  ·
   have hge := ge_of_q q2
   obtain rfl : k = s.length := by omega
   rw [List.take_length] at hI
   refine WP.exit ?_
   show WP _ _ _ _ _ _
   refine WP.seq ?_
   refine WP.sr [4, 7, 48] (by kernel_rfl) fun K hK => ?_
   simp (decide := true) only [W, Pr_prog, hn45, e0, gt0, q1, q2, List.take_length, h45t, gt0, le1, ↓reduceIte, Int.reduceToNat]
   refine hK _ _ ?_
   clear hK K
   refine WP.cond (b := false) (by first | rfl | simp [W, hn45, e0, gt0, q1, q2]) nofun (fun _ => ?_)
   refine WP.skip ?_
   show WP _ _ _ _ _ _
   refine WP.seq ?_
   refine WP.sr [7, 52] (by kernel_rfl) fun K hK => ?_
   simp (decide := true) only [W, Pr_prog, hn45, e0, gt0, q1, q2, List.take_length, h45t, gt0, le1, ↓reduceIte, Int.reduceToNat]
   refine hK _ _ ?_
   clear hK K
   refine WP.cond (b := _) rfl (fun q4 => ?_) (fun q4 => ?_)
   ·
    have he : ¬ decV (s) < 9223372036854775808 := by simp at q4; omega
    refine WP.sr [2, 3] (by kernel_rfl) fun K hK => ?_
    simp (decide := true) only [W, Pr_prog, hn45, e0, gt0, q1, q2, q4, List.take_length, h45t, gt0, le1, ↓reduceIte, Int.reduceToNat]
    refine hK _ _ ?_
    clear hK K
    refine WP.ret ?_
    exact Ends.pure (d := .tup [_, _]) (.inr rfl) rfl (Le.of_eq (by first | (simp [St.get, lk, W, bne, rdD, hrn, hok, hbig, hn45, e0, gt0, q1, q2, q4]; done) | (simp [St.get, lk, W, bne, rdD, hrn, hok, hI]; done) | (simp [St.get, lk, W, bne, rdD, hrn, hok, he, hng]; done) | (simp [St.get, lk, W, bne, rdD, hrn, hok]; done) | (simp_all [rdD, rdN, St.get, lk, W]; try omega))) (by simp)
   ·
    have he : decV (s) < 9223372036854775808 := by simp at q4; omega
    have hng := rd_neg _ he
    refine WP.skip ?_
    show WP _ _ _ _ _ _
    refine WP.sr [2, 3] (by kernel_rfl) fun K hK => ?_
    simp (decide := true) only [W, Pr_prog, hn45, e0, gt0, q1, q2, q4, hng, List.take_length, h45t, gt0, le1, ↓reduceIte, Int.reduceToNat]
    refine hK _ _ ?_
    clear hK K
    refine WP.ret ?_
    exact Ends.pure (d := .tup [_, _]) (.inr rfl) rfl (Le.of_eq (by first | (simp [St.get, lk, W, bne, rdD, hrn, hok, hbig, hn45, e0, gt0, q1, q2, q4, hng]; done) | (simp [St.get, lk, W, bne, rdD, hrn, hok, hI]; done) | (simp [St.get, lk, W, bne, rdD, hrn, hok, he, hng]; done) | (simp [St.get, lk, W, bne, rdD, hrn, hok]; done) | (simp_all [rdD, rdN, St.get, lk, W]; try omega))) (by simp)
theorem c_r_readint (s : List UInt8) (hs : s.length ≤ 1099511627776) : CallP Pr 56 [.str s] (rdD s) := by
 match s, hs with
 | [], _ => exact c_r_readint_nil
 | c :: t, hs =>
  by_cases h : c = 45
  · subst h; exact c_r_readint_neg t (by simp at hs; omega)
  · exact c_r_readint_pos (c :: t) hs (by simp) (by simpa using h)
theorem c_r_valid (s : List UInt8) (hs : s.length ≤ 140737488355328) : CallP Pr 100 [.str s] (.bool (validB s)) := by
 refine CallP.of_wp Tryz.func100 rfl (by kernel_rfl) Tryz.ntmps100 (by simp) ?_
 simp only [frameOf, Nat.reduceAdd, Nat.zero_add]
 refine WP.sr [0] (by kernel_rfl) fun K hK => ?_
 simp (decide := true) only [W, Pr_prog, ↓reduceIte, Int.reduceToNat]
 refine hK _ _ ?_
 clear hK K
 refine WP.seq ?_
 refine WP.sr [0, 19] (by kernel_rfl) fun K hK => ?_
 simp (decide := true) only [W, Pr_prog, ↓reduceIte, Int.reduceToNat]
 refine CallK.pure (c_r_word _ (by assumption)) rfl rfl (by simp [-List.map_take]) ?_
 refine runOps.take 2 fun J hJ => ?_
 simp (decide := true) only [W, Pr_prog, ↓reduceIte, Int.reduceToNat]
 refine hJ _ _ ?_
 clear hJ J
 refine runOps.part 7 rfl (fun q1 => ?_) (fun q1 => ?_)
 ·
  simp only [Bool.not_eq_true', Bool.not_eq_false'] at q1
  simp (decide := true) only [W, Pr_prog, t_isStr_9, t_isSliceT_9, q1, ↓reduceIte, Int.reduceToNat]
  refine hK _ _ ?_
  clear hK K
  refine WP.cond (b := true) (by first | rfl | simp [W, q1]) (fun _ => ?_) nofun
  refine WP.sr [2] (by kernel_rfl) fun K hK => ?_
  simp (decide := true) only [W, Pr_prog, q1, ↓reduceIte, Int.reduceToNat]
  refine hK _ _ ?_
  clear hK K
  refine WP.ret ?_
  exact Ends.pure (.inr rfl) rfl (Le.of_eq (by first | (simp (decide := true) only [St.get, lk, W, validB, q1, ↓reduceIte]; done) | (simp [St.get, lk, W, bne, validB, q1]; done) | (simp_all [St.get, lk, W, LN, bne, validB]; done) | (simp_all [St.get, lk, W, LN, bne, validB]; intros; first | omega | (rw [Bool.eq_iff_iff]; simp; try omega)))) (by simp)
 ·
  simp only [Bool.not_eq_true', Bool.not_eq_false'] at q1
  have hne := word_pos q1
  have e0 := getE hne
  have e0c := chAt_of hne
  refine runOps.take 5 fun J hJ => ?_
  simp (decide := true) only [W, Pr_prog, t_isStr_9, q1, e0, e0c, ↓reduceIte, Int.reduceToNat]
  refine hJ _ _ ?_
  clear hJ J
  refine runOps.part 12 rfl (fun q2 => ?_) (fun q2 => ?_)
  ·
   simp (decide := true) only [W, Pr_prog, t_isStr_9, t_isSliceT_9, q1, e0, e0c, q2, ↓reduceIte, Int.reduceToNat]
   refine hK _ _ ?_
   clear hK K
   refine WP.cond (b := true) (by first | rfl | simp [W, q1, e0, e0c, q2]) (fun _ => ?_) nofun
   refine WP.sr [2] (by kernel_rfl) fun K hK => ?_
   simp (decide := true) only [W, Pr_prog, q1, e0, e0c, q2, ↓reduceIte, Int.reduceToNat]
   refine hK _ _ ?_
   clear hK K
   refine WP.ret ?_
   exact Ends.pure (.inr rfl) rfl (Le.of_eq (by first | (simp (decide := true) only [St.get, lk, W, validB, q1, e0, e0c, q2, ↓reduceIte]; done) | (simp [St.get, lk, W, bne, validB, q1, e0, e0c, q2]; done) | (simp_all [St.get, lk, W, LN, bne, validB]; done) | (simp_all [St.get, lk, W, LN, bne, validB]; intros; first | omega | (rw [Bool.eq_iff_iff]; simp; try omega)))) (by simp)
  ·
   have hw := wrapP hne hs
   have hl := getE (show s.length - 1 < s.length by omega)
   have hlc := chAt_of (show s.length - 1 < s.length by omega)
   simp (decide := true) only [W, Pr_prog, t_isStr_9, t_isSliceT_9, q1, e0, e0c, q2, hw, hl, hlc, ↓reduceIte, Int.reduceToNat]
   refine hK _ _ ?_
   clear hK K
   refine WP.cond (b := _) rfl (fun q3 => ?_) (fun q3 => ?_)
   ·
    refine WP.sr [2] (by kernel_rfl) fun K hK => ?_
    simp (decide := true) only [W, Pr_prog, q1, e0, e0c, q2, hw, hl, hlc, q3, ↓reduceIte, Int.reduceToNat]
    refine hK _ _ ?_
    clear hK K
    refine WP.ret ?_
    exact Ends.pure (.inr rfl) rfl (Le.of_eq (by first | (simp (decide := true) only [St.get, lk, W, validB, q1, e0, e0c, q2, hw, hl, hlc, q3, ↓reduceIte]; done) | (simp [St.get, lk, W, bne, validB, q1, e0, e0c, q2, hw, hl, hlc, q3]; done) | (simp_all [St.get, lk, W, LN, bne, validB]; done) | (simp_all [St.get, lk, W, LN, bne, validB]; intros; first | omega | (rw [Bool.eq_iff_iff]; simp; try omega)))) (by simp)
   ·
    refine WP.skip ?_
    show WP _ _ _ _ _ _
    refine WP.seq ?_
    refine WP.sr [0, 3] (by kernel_rfl) fun K hK => ?_
    simp (decide := true) only [W, Pr_prog, q1, e0, e0c, q2, hw, hl, hlc, q3, ↓reduceIte, Int.reduceToNat]
    refine hK _ _ ?_
    clear hK K
    refine WP.block ?_
    refine WP.lp [0] (X := {k : Nat // 1 ≤ k ∧ k ≤ s.length ∧ validB s = !(ddB (s.drop (k - 1)))}) (fun x => match x with | ⟨(k), _⟩ => [(3, .int .i64 k)]) (fun x => match x with | ⟨(k), _⟩ => []) (fun x => match x with | ⟨(k), _⟩ => s.length - k) (by simp (decide := true) only [W, ↓reduceIte, Int.reduceToNat]; rfl) ?_ ⟨(1), ⟨Nat.le_refl _, hne, by simp [validB, q1, e0, e0c, q2, hw, hl, hlc, q3]⟩⟩ ?_
    rotate_left
    · exact Weak.nil (by simp [St.get, lk, W, Le.refl, q1, e0, e0c, q2, hw, hl, hlc, q3]) (by simp [W])
    rintro ⟨k, hk1, hk, hI⟩
    dsimp only
    simp only [List.cons_append, List.nil_append]
    refine WP.seq ?_
    refine WP.sr [0, 3, 23] (by kernel_rfl) fun K hK => ?_
    simp (decide := true) only [W, Pr_prog, t_isStr_9, t_isSliceT_9, q1, e0, e0c, q2, hw, hl, hlc, q3, ↓reduceIte, Int.reduceToNat]
    refine hK _ _ ?_
    clear hK K
    refine WP.cond (b := _) rfl (fun q4 => ?_) (fun q4 => ?_)
    ·
     have hlt := lt_of_q q4
     have hg := getE hlt
     have hg2 := getE (show k - 1 < s.length by omega)
     have hwm := wrapM hk1 (by omega)
     rw [dd_step s k hk1 hlt] at hI
     refine WP.skip ?_
     show WP _ _ _ _ _ _
     refine WP.seq ?_
     refine WP.block ?_
     refine WP.sr [0, 3, 36] (by kernel_rfl) fun K hK => ?_
     refine runOps.take 5 fun J hJ => ?_
     simp (decide := true) only [W, Pr_prog, t_isStr_9, q1, e0, e0c, q2, hw, hl, hlc, q3, q4, hg, hg2, hwm, ↓reduceIte, Int.reduceToNat]
     refine hJ _ _ ?_
     clear hJ J
     refine runOps.part 30 rfl (fun q5 => ?_) (fun q5 => ?_)
     ·
      simp (decide := true) only [W, Pr_prog, t_isStr_9, q1, e0, e0c, q2, hw, hl, hlc, q3, q4, hg, hg2, hwm, q5, ↓reduceIte, Int.reduceToNat]
      refine hK _ _ ?_
      clear hK K
      refine WP.cond (b := _) rfl (fun q6 => ?_) (fun q6 => ?_)
      ·
       refine WP.sr [2] (by kernel_rfl) fun K hK => ?_
       simp (decide := true) only [W, Pr_prog, q1, e0, e0c, q2, hw, hl, hlc, q3, q4, hg, hg2, hwm, q5, q6, ↓reduceIte, Int.reduceToNat]
       refine hK _ _ ?_
       clear hK K
       refine WP.ret ?_
       exact Ends.pure (.inr rfl) rfl (Le.of_eq (by first | (simp (decide := true) only [St.get, lk, W, validB, q1, e0, e0c, q2, hw, hl, hlc, q3, q4, hg, hg2, hwm, q5, q6, hI, ↓reduceIte]; done) | (simp [St.get, lk, W, bne, validB, q1, e0, e0c, q2, hw, hl, hlc, q3, q4, hg, hg2, hwm, q5, q6, hI]; done) | (simp_all [St.get, lk, W, LN, bne, validB]; done) | (simp_all [St.get, lk, W, LN, bne, validB]; intros; first | omega | (rw [Bool.eq_iff_iff]; simp; try omega)))) (by simp)
      ·
       refine WP.skip ?_
       show WP _ _ _ _ _ _
       refine WP.region (by kernel_rfl) fun K hK => ?_
       simp (decide := true) only [W, Pr_prog, q1, e0, e0c, q2, hw, hl, hlc, q3, q4, hg, hg2, hwm, q5, q6, ↓reduceIte, Int.reduceToNat]
       refine hK _ _ ?_
       clear hK K
       show ∃ y, _ ∧ Weak _ _ _
       refine ⟨⟨k + 1, ?_⟩, ?_, Weak.nil ?_ ?_⟩
       · exact ⟨by omega, by omega, by show validB s = !(ddB (s.drop k)); first | (simpa [q1, e0, e0c, q2, hw, hl, hlc, q3, q4, hg, hg2, hwm, q5, q6] using hI) | (simp_all; done)⟩
       · dsimp only; omega
       · simp [St.get, lk, W, Le.refl, wrapS hlt hs]
       · simp [W]
     ·
      simp (decide := true) only [W, Pr_prog, t_isStr_9, q1, e0, e0c, q2, hw, hl, hlc, q3, q4, hg, hg2, hwm, q5, ↓reduceIte, Int.reduceToNat]
      refine hK _ _ ?_
      clear hK K
      refine WP.cond (b := false) (by first | rfl | simp [W, q1, e0, e0c, q2, hw, hl, hlc, q3, q4, hg, hg2, hwm, q5]) nofun (fun _ => ?_)
      refine WP.skip ?_
      show WP _ _ _ _ _ _
      refine WP.region (by kernel_rfl) fun K hK => ?_
      simp (decide := true) only [W, Pr_prog, q1, e0, e0c, q2, hw, hl, hlc, q3, q4, hg, hg2, hwm, q5, ↓reduceIte, Int.reduceToNat]
      refine hK _ _ ?_
      clear hK K
      show ∃ y, _ ∧ Weak _ _ _
      refine ⟨⟨k + 1, ?_⟩, ?_, Weak.nil ?_ ?_⟩
      · exact ⟨by omega, by omega, by show validB s = !(ddB (s.drop k)); first | (simpa [q1, e0, e0c, q2, hw, hl, hlc, q3, q4, hg, hg2, hwm, q5] using hI) | (simp_all; done)⟩
      · dsimp only; omega
      · simp [St.get, lk, W, Le.refl, wrapS hlt hs]
      · simp [W]
    ·
     have hge := ge_of_q q4
     rw [dd_end s k hge hk1 hk] at hI
     refine WP.exit ?_
     show WP _ _ _ _ _ _
     refine WP.sr [2] (by kernel_rfl) fun K hK => ?_
     simp (decide := true) only [W, Pr_prog, q1, e0, e0c, q2, hw, hl, hlc, q3, q4, ↓reduceIte, Int.reduceToNat]
     refine hK _ _ ?_
     clear hK K
     refine WP.ret ?_
     exact Ends.pure (.inr rfl) rfl (Le.of_eq (by first | (simp (decide := true) only [St.get, lk, W, validB, q1, e0, e0c, q2, hw, hl, hlc, q3, q4, hI, ↓reduceIte]; done) | (simp [St.get, lk, W, bne, validB, q1, e0, e0c, q2, hw, hl, hlc, q3, q4, hI]; done) | (simp_all [St.get, lk, W, LN, bne, validB]; done) | (simp_all [St.get, lk, W, LN, bne, validB]; intros; first | omega | (rw [Bool.eq_iff_iff]; simp; try omega)))) (by simp)
theorem c_r_sc_check (ls : List (List UInt8)) (nl : Bool) (hn : ls.length ≤ 140737488355328) (hnl : nl = true → ls = []) (hls : ∀ x ∈ ls, x.length ≤ 140737488355328) : CallP Pr 64 [.slice 1 nl (ls.map fun x => [.str x]) none] (.int .i64 (scopeE ls)) := by
 refine CallP.of_wp Tryz.func64 rfl (by kernel_rfl) Tryz.ntmps64 (by simp) ?_
 simp only [frameOf, Nat.reduceAdd, Nat.zero_add]
 refine WP.sr [0] (by kernel_rfl) fun K hK => ?_
 simp (decide := true) only [W, Pr_prog, ↓reduceIte, Int.reduceToNat]
 refine hK _ _ ?_
 clear hK K
 refine WP.seq ?_
 refine WP.sr [0, 7] (by kernel_rfl) fun K hK => ?_
 simp (decide := true) only [W, Pr_prog, t_isStr_34, t_isSliceT_34, ↓reduceIte, Int.reduceToNat]
 refine hK _ _ ?_
 clear hK K
 refine WP.cond (b := _) rfl (fun q1 => ?_) (fun q1 => ?_)
 ·
  refine WP.sr [2] (by kernel_rfl) fun K hK => ?_
  simp (decide := true) only [W, Pr_prog, q1, ↓reduceIte, Int.reduceToNat]
  refine hK _ _ ?_
  clear hK K
  refine WP.ret ?_
  exact Ends.pure (.inr rfl) rfl (Le.of_eq (by first | (simp (decide := true) only [St.get, lk, W, scopeE, q1, ↓reduceIte]; done) | (simp [St.get, lk, W, bne, scopeE, q1]; done) | (simp_all [St.get, lk, W, LN, bne, scopeE]; done) | (simp_all [St.get, lk, W, LN, bne, scopeE]; intros; first | omega | (rw [Bool.eq_iff_iff]; simp; try omega)))) (by simp)
 ·
  refine WP.skip ?_
  show WP _ _ _ _ _ _
  refine WP.seq ?_
  refine WP.sr [0, 3] (by kernel_rfl) fun K hK => ?_
  simp (decide := true) only [W, Pr_prog, q1, ↓reduceIte, Int.reduceToNat]
  refine hK _ _ ?_
  clear hK K
  refine WP.block ?_
  refine WP.lp [0] (X := {k : Nat // k ≤ ls.length ∧ scErr [] ls = scErr (ls.take k) (ls.drop k)}) (fun x => match x with | ⟨(k), _⟩ => [(3, .int .i64 k)]) (fun x => match x with | ⟨(k), _⟩ => []) (fun x => match x with | ⟨(k), _⟩ => ls.length - k) (by simp (decide := true) only [W, ↓reduceIte, Int.reduceToNat]; rfl) ?_ ⟨(0), ⟨Nat.zero_le _, by simp⟩⟩ ?_
  rotate_left
  · exact Weak.nil (by simp [St.get, lk, W, Le.refl, q1]) (by simp [W])
  rintro ⟨k, hk, hI⟩
  dsimp only
  simp only [List.cons_append, List.nil_append]
  refine WP.seq ?_
  refine WP.sr [0, 3, 11] (by kernel_rfl) fun K hK => ?_
  simp (decide := true) only [W, Pr_prog, t_isStr_34, t_isSliceT_34, q1, hk, ↓reduceIte, Int.reduceToNat]
  refine hK _ _ ?_
  clear hK K
  refine WP.cond (b := _) rfl (fun q2 => ?_) (fun q2 => ?_)
  ·
   have hlt := lt_of_q q2
   have hg : (ls.map fun x => [D.str x])[k]? = some [.str ls[k]] := getM hlt
   have hnf := nl_false hnl hlt
   rw [dropE hlt] at hI
   simp only [scErr] at hI
   refine WP.skip ?_
   show WP _ _ _ _ _ _
   refine WP.seq ?_
   refine WP.block ?_
   refine WP.seq ?_
   refine WP.sr [0, 3, 19] (by kernel_rfl) fun K hK => ?_
   simp (decide := true) only [W, Pr_prog, t_elemD_34, t_szD_9, t_aggD_9, q1, hk, q2, hg, hnf, ↓reduceIte, Int.reduceToNat]
   refine CallK.pure (c_r_valid _ (hls _ (List.getElem_mem hlt))) rfl rfl (by simp [-List.map_take]) ?_
   simp (decide := true) only [W, Pr_prog, q1, hk, q2, hg, hnf, ↓reduceIte, Int.reduceToNat]
   refine hK _ _ ?_
   clear hK K
   refine WP.cond (b := _) rfl (fun q3 => ?_) (fun q3 => ?_)
   ·
    simp only [Bool.not_eq_true', Bool.not_eq_false'] at q3
    refine WP.sr [2] (by kernel_rfl) fun K hK => ?_
    simp (decide := true) only [W, Pr_prog, q1, hk, q2, hg, hnf, q3, ↓reduceIte, Int.reduceToNat]
    refine hK _ _ ?_
    clear hK K
    refine WP.ret ?_
    exact Ends.pure (.inr rfl) rfl (Le.of_eq (by first | (simp (decide := true) only [St.get, lk, W, scopeE, q1, hk, q2, hg, hnf, q3, hI, ↓reduceIte]; done) | (simp [St.get, lk, W, bne, scopeE, q1, hk, q2, hg, hnf, q3, hI]; done) | (simp_all [St.get, lk, W, LN, bne, scopeE]; done) | (simp_all [St.get, lk, W, LN, bne, scopeE]; intros; first | omega | (rw [Bool.eq_iff_iff]; simp; try omega)))) (by simp)
   ·
    simp only [Bool.not_eq_true', Bool.not_eq_false'] at q3
    refine WP.skip ?_
    show WP _ _ _ _ _ _
    refine WP.sr [0, 3, 4] (by kernel_rfl) fun K hK => ?_
    simp (decide := true) only [W, Pr_prog, q1, hk, q2, hg, hnf, q3, ↓reduceIte, Int.reduceToNat]
    refine hK _ _ ?_
    clear hK K
    refine WP.block ?_
    refine WP.lp [0, 3] (X := {j : Nat // j ≤ k ∧ (ls.take k).contains ls[k] = ((ls.take k).drop j).any (fun x => x == ls[k])}) (fun x => match x with | ⟨(j), _⟩ => [(4, .int .i64 j)]) (fun x => match x with | ⟨(j), _⟩ => []) (fun x => match x with | ⟨(j), _⟩ => k - j) (by simp (decide := true) only [W, ↓reduceIte, Int.reduceToNat]; rfl) ?_ ⟨(0), ⟨Nat.zero_le _, by rw [List.drop_zero, any_eq]⟩⟩ ?_
    rotate_left
    · exact Weak.nil (by simp [St.get, lk, W, Le.refl, q1, hk, q2, hg, hnf, q3]) (by simp [W])
    rintro ⟨j, hj, hJ⟩
    dsimp only
    simp only [List.cons_append, List.nil_append]
    refine WP.seq ?_
    refine WP.sr [0, 3, 4, 22] (by kernel_rfl) fun K hK => ?_
    simp (decide := true) only [W, Pr_prog, q1, hk, q2, hg, hnf, q3, ↓reduceIte, Int.reduceToNat]
    refine hK _ _ ?_
    clear hK K
    refine WP.cond (b := _) rfl (fun q4 => ?_) (fun q4 => ?_)
    ·
     have hjl : j < (ls.take k).length := by simp at q4 ⊢; omega
     have hjk : j < k := by simp at hjl; omega
     have hgj : (ls.map fun x => [D.str x])[j]? = some [.str ls[j]] := getM (by omega)
     rw [dropE hjl] at hJ
     simp only [List.any_cons, List.getElem_take] at hJ
     refine WP.skip ?_
     show WP _ _ _ _ _ _
     refine WP.seq ?_
     refine WP.block ?_
     refine WP.sd [0, 3, 4, 33] (by kernel_rfl) (by kernel_rfl) fun K hK => ?_
     simp (decide := true) only [W, Pr_prog, t_elemD_34, t_szD_9, t_aggD_9, q1, hk, q2, hg, hnf, q3, q4, hgj, ↓reduceIte, Int.reduceToNat]
     refine hK _ _ (by kernel_rfl) ?_
     clear hK K
     refine WP.cond (b := _) rfl (fun q5 => ?_) (fun q5 => ?_)
     ·
      have hcon : (ls.take k).contains ls[k] = true := by simp_all
      refine WP.sr [2] (by kernel_rfl) fun K hK => ?_
      simp (decide := true) only [W, Pr_prog, q1, hk, q2, hg, hnf, q3, q4, hgj, q5, ↓reduceIte, Int.reduceToNat]
      refine hK _ _ ?_
      clear hK K
      refine WP.ret ?_
      exact Ends.pure (.inr rfl) rfl (Le.of_eq (by first | (simp (decide := true) only [St.get, lk, W, scopeE, q1, hk, q2, hg, hnf, q3, q4, hgj, q5, hJ, hI, ↓reduceIte]; done) | (simp [St.get, lk, W, bne, scopeE, q1, hk, q2, hg, hnf, q3, q4, hgj, q5, hJ, hI]; done) | (simp_all [St.get, lk, W, LN, bne, scopeE]; done) | (simp_all [St.get, lk, W, LN, bne, scopeE]; intros; first | omega | (rw [Bool.eq_iff_iff]; simp; try omega)))) (by simp)
     ·
      refine WP.skip ?_
      show WP _ _ _ _ _ _
      refine WP.region (by kernel_rfl) fun K hK => ?_
      simp (decide := true) only [W, Pr_prog, q1, hk, q2, hg, hnf, q3, q4, hgj, q5, ↓reduceIte, Int.reduceToNat]
      refine hK _ _ ?_
      clear hK K
      show ∃ y, _ ∧ Weak _ _ _
      refine ⟨⟨j + 1, ?_⟩, ?_, Weak.nil ?_ ?_⟩
      · exact ⟨by omega, by first | (simpa [q1, hk, q2, hg, hnf, q3, q4, hgj, q5] using hJ) | (simp_all; done)⟩
      · dsimp only; omega
      · simp [St.get, lk, W, Le.refl, q1, hk, q2, hg, hnf, q3, q4, hgj, q5, wrapS hjk (show k ≤ 140737488355328 by omega)]
      · simp [W]
    ·
     have hjg : (ls.take k).length ≤ j := by simp at q4 ⊢; omega
     rw [dropN hjg] at hJ
     simp only [List.any_nil] at hJ
     refine WP.exit ?_
     show WP _ _ _ _ _ _
     refine WP.region (by kernel_rfl) fun K hK => ?_
     simp (decide := true) only [W, Pr_prog, q1, hk, q2, hg, hnf, q3, q4, ↓reduceIte, Int.reduceToNat]
     refine hK _ _ ?_
     clear hK K
     show ∃ y, _ ∧ Weak _ _ _
     refine ⟨⟨k + 1, ?_⟩, ?_, Weak.nil ?_ ?_⟩
     · exact ⟨by omega, by first | (simpa [q1, hk, q2, hg, hnf, q3, q4] using hI) | (simp_all; done)⟩
     · dsimp only; omega
     · simp [St.get, lk, W, Le.refl, q1, hk, q2, hg, hnf, q3, q4, wrapS hlt hn]
     · simp [W]
  ·
   have hge := ge_of_q q2
   rw [dropN hge] at hI
   simp only [scErr] at hI
   refine WP.exit ?_
   show WP _ _ _ _ _ _
   refine WP.sr [2] (by kernel_rfl) fun K hK => ?_
   simp (decide := true) only [W, Pr_prog, q1, hk, q2, ↓reduceIte, Int.reduceToNat]
   refine hK _ _ ?_
   clear hK K
   refine WP.ret ?_
   exact Ends.pure (.inr rfl) rfl (Le.of_eq (by first | (simp (decide := true) only [St.get, lk, W, scopeE, q1, hk, q2, hI, ↓reduceIte]; done) | (simp [St.get, lk, W, bne, scopeE, q1, hk, q2, hI]; done) | (simp_all [St.get, lk, W, LN, bne, scopeE]; done) | (simp_all [St.get, lk, W, LN, bne, scopeE]; intros; first | omega | (rw [Bool.eq_iff_iff]; simp; try omega)))) (by simp)
end Go.Proofs

set_option linter.unusedSimpArgs false
set_option linter.unusedVariables false
namespace Go.Proofs
open Go Go.Id
structure Cond where
  f : List UInt8
  op : List UInt8
  v : List UInt8
def Cond.cs (c : Cond) : List D := [.str c.f, .str c.op, .str c.v]
def Cond.ok (c : Cond) : Prop := c.f.length ≤ 1099511627776 ∧ c.op.length ≤ 1099511627776 ∧ c.v.length ≤ 1099511627776
structure Req where
  user : List UInt8
  client : List UInt8
  tenant : List UInt8
  groups : List (List UInt8)
  ng : Bool
  scopes : List (List UInt8)
  ns : Bool
  risk : Int
  trusted : Bool
  level : Int
  auth : Int
  now : Int
def Req.ok (r : Req) : Prop := r.groups.length ≤ 1099511627776 ∧ (r.ng = true → r.groups = []) ∧ r.scopes.length ≤ 1099511627776 ∧ (r.ns = true → r.scopes = [])
def numF (f : List UInt8) : Bool := (f == [97, 103, 101] || f == [104, 111, 117, 114] || f == [108, 101, 118, 101, 108] || f == [114, 105, 115, 107])
def possB (c : Cond) : Bool :=
  if (c.f == [117, 115, 101, 114] || c.f == [99, 108, 105, 101, 110, 116] || c.f == [116, 101, 110, 97, 110, 116]) then (c.op == [105, 115] || c.op == [110, 111, 116]) && wordB c.v
  else if c.f == [103, 114, 111, 117, 112] then (c.op == [104, 97, 115] || c.op == [108, 97, 99, 107, 115]) && cleanB c.v
  else if c.f == [115, 99, 111, 112, 101] then (c.op == [104, 97, 115] || c.op == [108, 97, 99, 107, 115]) && scopeE [c.v] == 0
  else if c.f == [116, 114, 117, 115, 116, 101, 100] then c.op == [105, 115] && (c.v == [121, 101, 115] || c.v == [110, 111])
  else if (c.f == [97, 103, 101] || c.f == [104, 111, 117, 114] || c.f == [108, 101, 118, 101, 108] || c.f == [114, 105, 115, 107]) then (c.op == [109, 105, 110] || c.op == [109, 97, 120]) && (rdN c.v).2 == 0
  else false
def wordR (f : List UInt8) (r : Req) : List UInt8 :=
  if f == [117, 115, 101, 114] then r.user else if f == [99, 108, 105, 101, 110, 116] then r.client else if f == [116, 101, 110, 97, 110, 116] then r.tenant else if r.trusted then [121, 101, 115] else [110, 111]
def measR (f : List UInt8) (r : Req) : Int :=
  if f == [114, 105, 115, 107] then r.risk else if f == [108, 101, 118, 101, 108] then r.level else if f == [104, 111, 117, 114] then ((limB r.now).tdiv 3600).tmod 24 else limB r.now - limB r.auth

def membR (f : List UInt8) (r : Req) : List (List UInt8) := if f == [103, 114, 111, 117, 112] then r.groups else r.scopes
def nmembR (f : List UInt8) (r : Req) : Bool := if f == [103, 114, 111, 117, 112] then r.ng else r.ns
def holdsB (c : Cond) (r : Req) : Bool :=
  if !possB c then false
  else if c.op == [105, 115] then wordR c.f r == c.v
  else if c.op == [110, 111, 116] then !(wordR c.f r == c.v)
  else if c.op == [104, 97, 115] then (membR c.f r).contains c.v
  else if c.op == [108, 97, 99, 107, 115] then !((membR c.f r).contains c.v)
  else if c.op == [109, 105, 110] then decide (measR c.f r ≥ (rdN c.v).1)
  else decide (measR c.f r ≤ (rdN c.v).1)
def firstL (r : Req) : List Cond → Int → Int
  | [], _ => -1
  | c :: l, i => if !holdsB c r then i else firstL r l (i + 1)
end Go.Proofs

set_option linter.unusedSimpArgs false
set_option linter.unusedVariables false
set_option maxRecDepth 10000
namespace Go.Proofs
open Go Go.Id

theorem sc1 (v : List UInt8) : [[D.str v]] = ([v].map fun x => [D.str x]) := rfl
theorem lim_0 (n : Int) : limB (limB n + limB 0) = limB n := by
 have h0 : limB 0 = 0 := by decide
 rw [h0, Int.add_zero, lim_lim]
theorem wrap_3600 (n : Int) : IntKind.wrap .i64 ((limB n).tdiv 3600) = (limB n).tdiv 3600 := by
 have := lim_lo n; have := lim_hi n
 have : (limB n).tdiv 3600 = limB n / 3600 := Int.tdiv_eq_ediv_of_nonneg (by omega)
 exact wrap_i64 (by omega) (by omega)

theorem c_truth (v : List UInt8) : CallP Pr 89 [.str v] (.bool (v == [121, 101, 115] || v == [110, 111])) := by
 refine CallP.of_wp Tryz.func89 rfl (by kernel_rfl) Tryz.ntmps89 (by simp) ?_
 simp only [frameOf, Nat.reduceAdd, Nat.zero_add]
 refine WP.sr [0] (by kernel_rfl) fun K hK => ?_
 simp (decide := true) only [W, Pr_prog, ↓reduceIte, Int.reduceToNat]
 refine hK _ _ ?_
 clear hK K
 refine WP.sr [2] (by kernel_rfl) fun K hK => ?_
 refine runOps.take 3 fun J hJ => ?_
 simp (decide := true) only [W, Pr_prog, ↓reduceIte, Int.reduceToNat]
 refine hJ _ _ ?_
 clear hJ J
 refine runOps.part 5 rfl (fun q1 => ?_) (fun q1 => ?_)
 ·
  simp (decide := true) only [W, Pr_prog, q1, ↓reduceIte, Int.reduceToNat]
  refine hK _ _ ?_
  clear hK K
  refine WP.ret ?_
  exact Ends.pure (.inr rfl) rfl (Le.of_eq (by first | (simp (decide := true) only [St.get, lk, W, q1, ↓reduceIte]; done) | (simp [St.get, lk, W, bne, q1]; done) | (simp_all [St.get, lk, W, LN, bne]; done) | (simp_all [St.get, lk, W, LN, bne]; intros; first | omega | (rw [Bool.eq_iff_iff]; simp; try omega)))) (by simp)
 ·
  simp (decide := true) only [W, Pr_prog, q1, ↓reduceIte, Int.reduceToNat]
  refine hK _ _ ?_
  clear hK K
  refine WP.ret ?_
  exact Ends.pure (.inr rfl) rfl (Le.of_eq (by first | (simp (decide := true) only [St.get, lk, W, q1, ↓reduceIte]; done) | (simp [St.get, lk, W, bne, q1]; done) | (simp_all [St.get, lk, W, LN, bne]; done) | (simp_all [St.get, lk, W, LN, bne]; intros; first | omega | (rw [Bool.eq_iff_iff]; simp; try omega)))) (by simp)
theorem c_number (s : List UInt8) (hs : s.length ≤ 1099511627776) : CallP Pr 50 [.str s] (.tup [.int .i64 (rdN s).1, .bool ((rdN s).2 == 0)]) := by
 refine CallP.of_wp Tryz.func50 rfl (by kernel_rfl) Tryz.ntmps50 (by simp) ?_
 simp only [frameOf, Nat.reduceAdd, Nat.zero_add]
 refine WP.sr [0] (by kernel_rfl) fun K hK => ?_
 simp (decide := true) only [W, Pr_prog, rdD, ↓reduceIte, Int.reduceToNat]
 refine hK _ _ ?_
 clear hK K
 refine WP.sr [4, 5] (by kernel_rfl) fun K hK => ?_
 simp (decide := true) only [W, Pr_prog, rdD, ↓reduceIte, Int.reduceToNat]
 refine CallK.pure (c_readint s hs) rfl rfl (by simp [-List.map_take]) ?_
 simp (decide := true) only [W, Pr_prog, rdD, ↓reduceIte, Int.reduceToNat]
 refine hK _ _ ?_
 clear hK K
 refine WP.sr [2, 3] (by kernel_rfl) fun K hK => ?_
 simp (decide := true) only [W, Pr_prog, rdD, ↓reduceIte, Int.reduceToNat]
 refine hK _ _ ?_
 clear hK K
 refine WP.ret ?_
 exact Ends.pure (d := .tup [_, _]) (.inr rfl) rfl (Le.of_eq (by first | (simp (decide := true) only [St.get, lk, W, ↓reduceIte]; done) | (simp [St.get, lk, W, bne]; done) | (simp_all [St.get, lk, W, LN, bne]; done) | (simp_all [St.get, lk, W, LN, bne]; intros; first | omega | (rw [Bool.eq_iff_iff]; simp; try omega)))) (by simp)
theorem c_possible (c : Cond) (hc : c.ok) : CallP Pr 49 [.agg [.str c.f, .str c.op, .str c.v]] (.bool (possB c)) := by
 refine CallP.of_wp Tryz.func49 rfl (by kernel_rfl) Tryz.ntmps49 (by simp) ?_
 simp only [frameOf, Nat.reduceAdd, Nat.zero_add]
 refine WP.sr [1] (by kernel_rfl) fun K hK => ?_
 simp (decide := true) only [W, Pr_prog, ↓reduceIte, Int.reduceToNat]
 refine hK _ _ ?_
 clear hK K
 refine WP.meet ⟨[(3, .bool (c.op == [105, 115] || c.op == [110, 111, 116])), (4, .bool (c.op == [104, 97, 115] || c.op == [108, 97, 99, 107, 115])), (5, .bool (c.op == [109, 105, 110] || c.op == [109, 97, 120])), (1, .ref 0 0)], [(0, .box 43 [.str c.f, .str c.op, .str c.v])]⟩ ?_ ?_
 ·
  refine WP.drawn (by kernel_rfl) (by kernel_rfl) fun K hK => ?_
  refine runOps.take 4 fun J hJ => ?_
  simp (decide := true) only [W, Pr_prog, t_fldD_43_1, t_szD_9, t_aggD_9, ↓reduceIte, Int.reduceToNat]
  refine hJ _ _ ?_
  clear hJ J
  refine runOps.part 11 rfl (fun q1 => ?_) (fun q1 => ?_)
  ·
   refine runOps.take 8 fun J hJ => ?_
   simp (decide := true) only [W, Pr_prog, t_fldD_43_1, t_szD_9, t_aggD_9, q1, ↓reduceIte, Int.reduceToNat]
   refine hJ _ _ ?_
   clear hJ J
   refine runOps.part 19 rfl (fun q2 => ?_) (fun q2 => ?_)
   ·
    refine runOps.take 8 fun J hJ => ?_
    simp (decide := true) only [W, Pr_prog, t_fldD_43_1, t_szD_9, t_aggD_9, q1, q2, ↓reduceIte, Int.reduceToNat]
    refine hJ _ _ ?_
    clear hJ J
    refine runOps.part 27 rfl (fun q3 => ?_) (fun q3 => ?_)
    ·
     simp (decide := true) only [W, Pr_prog, t_fldD_43_1, t_szD_9, t_aggD_9, q1, q2, q3, ↓reduceIte, Int.reduceToNat]
     refine hK _ _ (by kernel_rfl) ?_
     clear hK K
     show Weak _ _ _
     exact Weak.store (by simp (decide := true) [St.get, lk, W, Le.refl, q1, q2, q3]) (by simp [lk, W]) (by simp [lk, W]) (by simp [BClo, lk]) (by simp)
    ·
     simp (decide := true) only [W, Pr_prog, t_fldD_43_1, t_szD_9, t_aggD_9, q1, q2, q3, ↓reduceIte, Int.reduceToNat]
     refine hK _ _ (by kernel_rfl) ?_
     clear hK K
     show Weak _ _ _
     exact Weak.store (by simp (decide := true) [St.get, lk, W, Le.refl, q1, q2, q3]) (by simp [lk, W]) (by simp [lk, W]) (by simp [BClo, lk]) (by simp)
   ·
    refine runOps.take 8 fun J hJ => ?_
    simp (decide := true) only [W, Pr_prog, t_fldD_43_1, t_szD_9, t_aggD_9, q1, q2, ↓reduceIte, Int.reduceToNat]
    refine hJ _ _ ?_
    clear hJ J
    refine runOps.part 27 rfl (fun q4 => ?_) (fun q4 => ?_)
    ·
     simp (decide := true) only [W, Pr_prog, t_fldD_43_1, t_szD_9, t_aggD_9, q1, q2, q4, ↓reduceIte, Int.reduceToNat]
     refine hK _ _ (by kernel_rfl) ?_
     clear hK K
     show Weak _ _ _
     exact Weak.store (by simp (decide := true) [St.get, lk, W, Le.refl, q1, q2, q4]) (by simp [lk, W]) (by simp [lk, W]) (by simp [BClo, lk]) (by simp)
    ·
     simp (decide := true) only [W, Pr_prog, t_fldD_43_1, t_szD_9, t_aggD_9, q1, q2, q4, ↓reduceIte, Int.reduceToNat]
     refine hK _ _ (by kernel_rfl) ?_
     clear hK K
     show Weak _ _ _
     exact Weak.store (by simp (decide := true) [St.get, lk, W, Le.refl, q1, q2, q4]) (by simp [lk, W]) (by simp [lk, W]) (by simp [BClo, lk]) (by simp)
  ·
   refine runOps.take 8 fun J hJ => ?_
   simp (decide := true) only [W, Pr_prog, t_fldD_43_1, t_szD_9, t_aggD_9, q1, ↓reduceIte, Int.reduceToNat]
   refine hJ _ _ ?_
   clear hJ J
   refine runOps.part 19 rfl (fun q5 => ?_) (fun q5 => ?_)
   ·
    refine runOps.take 8 fun J hJ => ?_
    simp (decide := true) only [W, Pr_prog, t_fldD_43_1, t_szD_9, t_aggD_9, q1, q5, ↓reduceIte, Int.reduceToNat]
    refine hJ _ _ ?_
    clear hJ J
    refine runOps.part 27 rfl (fun q6 => ?_) (fun q6 => ?_)
    ·
     simp (decide := true) only [W, Pr_prog, t_fldD_43_1, t_szD_9, t_aggD_9, q1, q5, q6, ↓reduceIte, Int.reduceToNat]
     refine hK _ _ (by kernel_rfl) ?_
     clear hK K
     show Weak _ _ _
     exact Weak.store (by simp (decide := true) [St.get, lk, W, Le.refl, q1, q5, q6]) (by simp [lk, W]) (by simp [lk, W]) (by simp [BClo, lk]) (by simp)
    ·
     simp (decide := true) only [W, Pr_prog, t_fldD_43_1, t_szD_9, t_aggD_9, q1, q5, q6, ↓reduceIte, Int.reduceToNat]
     refine hK _ _ (by kernel_rfl) ?_
     clear hK K
     show Weak _ _ _
     exact Weak.store (by simp (decide := true) [St.get, lk, W, Le.refl, q1, q5, q6]) (by simp [lk, W]) (by simp [lk, W]) (by simp [BClo, lk]) (by simp)
   ·
    refine runOps.take 8 fun J hJ => ?_
    simp (decide := true) only [W, Pr_prog, t_fldD_43_1, t_szD_9, t_aggD_9, q1, q5, ↓reduceIte, Int.reduceToNat]
    refine hJ _ _ ?_
    clear hJ J
    refine runOps.part 27 rfl (fun q7 => ?_) (fun q7 => ?_)
    ·
     simp (decide := true) only [W, Pr_prog, t_fldD_43_1, t_szD_9, t_aggD_9, q1, q5, q7, ↓reduceIte, Int.reduceToNat]
     refine hK _ _ (by kernel_rfl) ?_
     clear hK K
     show Weak _ _ _
     exact Weak.store (by simp (decide := true) [St.get, lk, W, Le.refl, q1, q5, q7]) (by simp [lk, W]) (by simp [lk, W]) (by simp [BClo, lk]) (by simp)
    ·
     simp (decide := true) only [W, Pr_prog, t_fldD_43_1, t_szD_9, t_aggD_9, q1, q5, q7, ↓reduceIte, Int.reduceToNat]
     refine hK _ _ (by kernel_rfl) ?_
     clear hK K
     show Weak _ _ _
     exact Weak.store (by simp (decide := true) [St.get, lk, W, Le.refl, q1, q5, q7]) (by simp [lk, W]) (by simp [lk, W]) (by simp [BClo, lk]) (by simp)
 ·
  refine WP.seq ?_
  refine WP.sr [1, 3, 4, 5, 33] (by kernel_rfl) fun K hK => ?_
  simp (decide := true) only [W, Pr_prog, t_fldD_43_0, t_szD_9, t_aggD_9, ↓reduceIte, Int.reduceToNat]
  refine hK _ _ ?_
  clear hK K
  refine WP.block ?_
  refine WP.seq ?_
  refine WP.sr [1, 3, 4, 5, 33, 34] (by kernel_rfl) fun K hK => ?_
  simp (decide := true) only [W, Pr_prog, ↓reduceIte, Int.reduceToNat]
  refine hK _ _ ?_
  clear hK K
  refine WP.cond (b := _) rfl (fun q8 => ?_) (fun q8 => ?_)
  ·
   refine WP.skip ?_
   show WP _ _ _ _ _ _
   refine WP.cond (b := true) (by first | rfl | simp [W, q8]) (fun _ => ?_) nofun
   refine WP.sr [2] (by kernel_rfl) fun K hK => ?_
   refine runOps.take 2 fun J hJ => ?_
   simp (decide := true) only [W, Pr_prog, q8, ↓reduceIte, Int.reduceToNat]
   refine hJ _ _ ?_
   clear hJ J
   refine runOps.part 39 rfl (fun q9 => ?_) (fun q9 => ?_)
   ·
    simp (decide := true) only [W, Pr_prog, t_fldD_43_2, t_szD_9, t_aggD_9, q8, q9, ↓reduceIte, Int.reduceToNat]
    refine CallK.pure (c_word c.v (by have := hc.2.2; omega)) rfl rfl (by simp [-List.map_take]) ?_
    simp (decide := true) only [W, Pr_prog, q8, q9, ↓reduceIte, Int.reduceToNat]
    refine hK _ _ ?_
    clear hK K
    refine WP.ret ?_
    exact Ends.pure (.inr rfl) rfl (Le.of_eq (by first | (simp (decide := true) only [St.get, lk, W, possB, q8, q9, ↓reduceIte]; done) | (simp [St.get, lk, W, bne, possB, q8, q9]; done) | (simp_all [St.get, lk, W, LN, bne, possB]; done) | (simp_all [St.get, lk, W, LN, bne, possB]; intros; first | omega | (rw [Bool.eq_iff_iff]; simp; try omega)))) (by simp)
   ·
    simp (decide := true) only [W, Pr_prog, t_fldD_43_2, t_szD_9, t_aggD_9, q8, q9, ↓reduceIte, Int.reduceToNat]
    refine hK _ _ ?_
    clear hK K
    refine WP.ret ?_
    exact Ends.pure (.inr rfl) rfl (Le.of_eq (by first | (simp (decide := true) only [St.get, lk, W, possB, q8, q9, ↓reduceIte]; done) | (simp [St.get, lk, W, bne, possB, q8, q9]; done) | (simp_all [St.get, lk, W, LN, bne, possB]; done) | (simp_all [St.get, lk, W, LN, bne, possB]; intros; first | omega | (rw [Bool.eq_iff_iff]; simp; try omega)))) (by simp)
  ·
   refine WP.sr [1, 3, 4, 5, 33, 34] (by kernel_rfl) fun K hK => ?_
   simp (decide := true) only [W, Pr_prog, q8, ↓reduceIte, Int.reduceToNat]
   refine hK _ _ ?_
   clear hK K
   refine WP.cond (b := _) rfl (fun q10 => ?_) (fun q10 => ?_)
   ·
    refine WP.skip ?_
    show WP _ _ _ _ _ _
    refine WP.cond (b := true) (by first | rfl | simp [W, q8, q10]) (fun _ => ?_) nofun
    refine WP.sr [2] (by kernel_rfl) fun K hK => ?_
    refine runOps.take 2 fun J hJ => ?_
    simp (decide := true) only [W, Pr_prog, q8, q10, ↓reduceIte, Int.reduceToNat]
    refine hJ _ _ ?_
    clear hJ J
    refine runOps.part 39 rfl (fun q11 => ?_) (fun q11 => ?_)
    ·
     simp (decide := true) only [W, Pr_prog, t_fldD_43_2, t_szD_9, t_aggD_9, q8, q10, q11, ↓reduceIte, Int.reduceToNat]
     refine CallK.pure (c_word c.v (by have := hc.2.2; omega)) rfl rfl (by simp [-List.map_take]) ?_
     simp (decide := true) only [W, Pr_prog, q8, q10, q11, ↓reduceIte, Int.reduceToNat]
     refine hK _ _ ?_
     clear hK K
     refine WP.ret ?_
     exact Ends.pure (.inr rfl) rfl (Le.of_eq (by first | (simp (decide := true) only [St.get, lk, W, possB, q8, q10, q11, ↓reduceIte]; done) | (simp [St.get, lk, W, bne, possB, q8, q10, q11]; done) | (simp_all [St.get, lk, W, LN, bne, possB]; done) | (simp_all [St.get, lk, W, LN, bne, possB]; intros; first | omega | (rw [Bool.eq_iff_iff]; simp; try omega)))) (by simp)
    ·
     simp (decide := true) only [W, Pr_prog, t_fldD_43_2, t_szD_9, t_aggD_9, q8, q10, q11, ↓reduceIte, Int.reduceToNat]
     refine hK _ _ ?_
     clear hK K
     refine WP.ret ?_
     exact Ends.pure (.inr rfl) rfl (Le.of_eq (by first | (simp (decide := true) only [St.get, lk, W, possB, q8, q10, q11, ↓reduceIte]; done) | (simp [St.get, lk, W, bne, possB, q8, q10, q11]; done) | (simp_all [St.get, lk, W, LN, bne, possB]; done) | (simp_all [St.get, lk, W, LN, bne, possB]; intros; first | omega | (rw [Bool.eq_iff_iff]; simp; try omega)))) (by simp)
   ·
    refine WP.region (by kernel_rfl) fun K hK => ?_
    simp (decide := true) only [W, Pr_prog, q8, q10, ↓reduceIte, Int.reduceToNat]
    refine hK _ _ ?_
    clear hK K
    show WP _ _ _ _ _ _
    refine WP.cond (b := _) rfl (fun q12 => ?_) (fun q12 => ?_)
    ·
     refine WP.sr [2] (by kernel_rfl) fun K hK => ?_
     refine runOps.take 2 fun J hJ => ?_
     simp (decide := true) only [W, Pr_prog, q8, q10, q12, ↓reduceIte, Int.reduceToNat]
     refine hJ _ _ ?_
     clear hJ J
     refine runOps.part 39 rfl (fun q13 => ?_) (fun q13 => ?_)
     ·
      simp (decide := true) only [W, Pr_prog, t_fldD_43_2, t_szD_9, t_aggD_9, q8, q10, q12, q13, ↓reduceIte, Int.reduceToNat]
      refine CallK.pure (c_word c.v (by have := hc.2.2; omega)) rfl rfl (by simp [-List.map_take]) ?_
      simp (decide := true) only [W, Pr_prog, q8, q10, q12, q13, ↓reduceIte, Int.reduceToNat]
      refine hK _ _ ?_
      clear hK K
      refine WP.ret ?_
      exact Ends.pure (.inr rfl) rfl (Le.of_eq (by first | (simp (decide := true) only [St.get, lk, W, possB, q8, q10, q12, q13, ↓reduceIte]; done) | (simp [St.get, lk, W, bne, possB, q8, q10, q12, q13]; done) | (simp_all [St.get, lk, W, LN, bne, possB]; done) | (simp_all [St.get, lk, W, LN, bne, possB]; intros; first | omega | (rw [Bool.eq_iff_iff]; simp; try omega)))) (by simp)
     ·
      simp (decide := true) only [W, Pr_prog, t_fldD_43_2, t_szD_9, t_aggD_9, q8, q10, q12, q13, ↓reduceIte, Int.reduceToNat]
      refine hK _ _ ?_
      clear hK K
      refine WP.ret ?_
      exact Ends.pure (.inr rfl) rfl (Le.of_eq (by first | (simp (decide := true) only [St.get, lk, W, possB, q8, q10, q12, q13, ↓reduceIte]; done) | (simp [St.get, lk, W, bne, possB, q8, q10, q12, q13]; done) | (simp_all [St.get, lk, W, LN, bne, possB]; done) | (simp_all [St.get, lk, W, LN, bne, possB]; intros; first | omega | (rw [Bool.eq_iff_iff]; simp; try omega)))) (by simp)
    ·
     refine WP.sr [1, 4, 5, 33, 44] (by kernel_rfl) fun K hK => ?_
     simp (decide := true) only [W, Pr_prog, q8, q10, q12, ↓reduceIte, Int.reduceToNat]
     refine hK _ _ ?_
     clear hK K
     refine WP.cond (b := _) rfl (fun q14 => ?_) (fun q14 => ?_)
     ·
      refine WP.sr [2] (by kernel_rfl) fun K hK => ?_
      refine runOps.take 2 fun J hJ => ?_
      simp (decide := true) only [W, Pr_prog, q8, q10, q12, q14, ↓reduceIte, Int.reduceToNat]
      refine hJ _ _ ?_
      clear hJ J
      refine runOps.part 47 rfl (fun q15 => ?_) (fun q15 => ?_)
      ·
       simp (decide := true) only [W, Pr_prog, t_fldD_43_2, t_szD_9, t_aggD_9, q8, q10, q12, q14, q15, ↓reduceIte, Int.reduceToNat]
       refine CallK.pure (c_clean c.v (by have := hc.2.2; omega)) rfl rfl (by simp [-List.map_take]) ?_
       simp (decide := true) only [W, Pr_prog, q8, q10, q12, q14, q15, ↓reduceIte, Int.reduceToNat]
       refine hK _ _ ?_
       clear hK K
       refine WP.ret ?_
       exact Ends.pure (.inr rfl) rfl (Le.of_eq (by first | (simp (decide := true) only [St.get, lk, W, possB, q8, q10, q12, q14, q15, ↓reduceIte]; done) | (simp [St.get, lk, W, bne, possB, q8, q10, q12, q14, q15]; done) | (simp_all [St.get, lk, W, LN, bne, possB]; done) | (simp_all [St.get, lk, W, LN, bne, possB]; intros; first | omega | (rw [Bool.eq_iff_iff]; simp; try omega)))) (by simp)
      ·
       simp (decide := true) only [W, Pr_prog, t_fldD_43_2, t_szD_9, t_aggD_9, q8, q10, q12, q14, q15, ↓reduceIte, Int.reduceToNat]
       refine hK _ _ ?_
       clear hK K
       refine WP.ret ?_
       exact Ends.pure (.inr rfl) rfl (Le.of_eq (by first | (simp (decide := true) only [St.get, lk, W, possB, q8, q10, q12, q14, q15, ↓reduceIte]; done) | (simp [St.get, lk, W, bne, possB, q8, q10, q12, q14, q15]; done) | (simp_all [St.get, lk, W, LN, bne, possB]; done) | (simp_all [St.get, lk, W, LN, bne, possB]; intros; first | omega | (rw [Bool.eq_iff_iff]; simp; try omega)))) (by simp)
     ·
      refine WP.sr [1, 4, 5, 33, 52] (by kernel_rfl) fun K hK => ?_
      simp (decide := true) only [W, Pr_prog, q8, q10, q12, q14, ↓reduceIte, Int.reduceToNat]
      refine hK _ _ ?_
      clear hK K
      refine WP.cond (b := _) rfl (fun q16 => ?_) (fun q16 => ?_)
      ·
       refine WP.sr [2] (by kernel_rfl) fun K hK => ?_
       refine runOps.take 2 fun J hJ => ?_
       simp (decide := true) only [W, Pr_prog, q8, q10, q12, q14, q16, ↓reduceIte, Int.reduceToNat]
       refine hJ _ _ ?_
       clear hJ J
       refine runOps.part 55 rfl (fun q17 => ?_) (fun q17 => ?_)
       ·
        simp (decide := true) only [W, Pr_prog, t_fldD_43_2, t_szD_9, t_aggD_9, t_elemD_34, t_okElem_9, q8, q10, q12, q14, q16, q17, ↓reduceIte, Int.reduceToNat]
        refine CallK.pure (c_sc_check [c.v] false (by simp) nofun (by have := hc.2.2; simp; omega)) rfl rfl (by simp [-List.map_take]) ?_
        simp (decide := true) only [W, Pr_prog, q8, q10, q12, q14, q16, q17, ↓reduceIte, Int.reduceToNat]
        refine hK _ _ ?_
        clear hK K
        refine WP.ret ?_
        exact Ends.pure (.inr rfl) rfl (Le.of_eq (by first | (simp (decide := true) only [St.get, lk, W, possB, q8, q10, q12, q14, q16, q17, ↓reduceIte]; done) | (simp [St.get, lk, W, bne, possB, q8, q10, q12, q14, q16, q17]; done) | (simp_all [St.get, lk, W, LN, bne, possB]; done) | (simp_all [St.get, lk, W, LN, bne, possB]; intros; first | omega | (rw [Bool.eq_iff_iff]; simp; try omega)))) (by simp)
       ·
        simp (decide := true) only [W, Pr_prog, t_fldD_43_2, t_szD_9, t_aggD_9, t_elemD_34, t_okElem_9, q8, q10, q12, q14, q16, q17, ↓reduceIte, Int.reduceToNat]
        refine hK _ _ ?_
        clear hK K
        refine WP.ret ?_
        exact Ends.pure (.inr rfl) rfl (Le.of_eq (by first | (simp (decide := true) only [St.get, lk, W, possB, q8, q10, q12, q14, q16, q17, ↓reduceIte]; done) | (simp [St.get, lk, W, bne, possB, q8, q10, q12, q14, q16, q17]; done) | (simp_all [St.get, lk, W, LN, bne, possB]; done) | (simp_all [St.get, lk, W, LN, bne, possB]; intros; first | omega | (rw [Bool.eq_iff_iff]; simp; try omega)))) (by simp)
      ·
       refine WP.sr [1, 5, 33, 62] (by kernel_rfl) fun K hK => ?_
       simp (decide := true) only [W, Pr_prog, q8, q10, q12, q14, q16, ↓reduceIte, Int.reduceToNat]
       refine hK _ _ ?_
       clear hK K
       refine WP.cond (b := _) rfl (fun q18 => ?_) (fun q18 => ?_)
       ·
        refine WP.sr [2] (by kernel_rfl) fun K hK => ?_
        refine runOps.take 4 fun J hJ => ?_
        simp (decide := true) only [W, Pr_prog, t_fldD_43_1, t_szD_9, t_aggD_9, q8, q10, q12, q14, q16, q18, ↓reduceIte, Int.reduceToNat]
        refine hJ _ _ ?_
        clear hJ J
        refine runOps.part 67 rfl (fun q19 => ?_) (fun q19 => ?_)
        ·
         simp (decide := true) only [W, Pr_prog, t_fldD_43_2, t_szD_9, t_aggD_9, q8, q10, q12, q14, q16, q18, q19, ↓reduceIte, Int.reduceToNat]
         refine CallK.pure (c_truth c.v) rfl rfl (by simp [-List.map_take]) ?_
         simp (decide := true) only [W, Pr_prog, q8, q10, q12, q14, q16, q18, q19, ↓reduceIte, Int.reduceToNat]
         refine hK _ _ ?_
         clear hK K
         refine WP.ret ?_
         exact Ends.pure (.inr rfl) rfl (Le.of_eq (by first | (simp (decide := true) only [St.get, lk, W, possB, q8, q10, q12, q14, q16, q18, q19, ↓reduceIte]; done) | (simp [St.get, lk, W, bne, possB, q8, q10, q12, q14, q16, q18, q19]; done) | (simp_all [St.get, lk, W, LN, bne, possB]; done) | (simp_all [St.get, lk, W, LN, bne, possB]; intros; first | omega | (rw [Bool.eq_iff_iff]; simp; try omega)))) (by simp)
        ·
         simp (decide := true) only [W, Pr_prog, t_fldD_43_2, t_szD_9, t_aggD_9, q8, q10, q12, q14, q16, q18, q19, ↓reduceIte, Int.reduceToNat]
         refine hK _ _ ?_
         clear hK K
         refine WP.ret ?_
         exact Ends.pure (.inr rfl) rfl (Le.of_eq (by first | (simp (decide := true) only [St.get, lk, W, possB, q8, q10, q12, q14, q16, q18, q19, ↓reduceIte]; done) | (simp [St.get, lk, W, bne, possB, q8, q10, q12, q14, q16, q18, q19]; done) | (simp_all [St.get, lk, W, LN, bne, possB]; done) | (simp_all [St.get, lk, W, LN, bne, possB]; intros; first | omega | (rw [Bool.eq_iff_iff]; simp; try omega)))) (by simp)
       ·
        refine WP.seq ?_
        refine WP.sr [1, 5, 33, 72] (by kernel_rfl) fun K hK => ?_
        simp (decide := true) only [W, Pr_prog, q8, q10, q12, q14, q16, q18, ↓reduceIte, Int.reduceToNat]
        refine hK _ _ ?_
        clear hK K
        refine WP.cond (b := _) rfl (fun q20 => ?_) (fun q20 => ?_)
        ·
         refine WP.skip ?_
         show WP _ _ _ _ _ _
         refine WP.cond (b := true) (by first | rfl | simp [W, q8, q10, q12, q14, q16, q18, q20]) (fun _ => ?_) nofun
         refine WP.sr [5, 7] (by kernel_rfl) fun K hK => ?_
         simp (decide := true) only [W, Pr_prog, t_fldD_43_2, t_szD_9, t_aggD_9, q8, q10, q12, q14, q16, q18, q20, ↓reduceIte, Int.reduceToNat]
         refine CallK.pure (c_number c.v hc.2.2) rfl rfl (by simp [-List.map_take]) ?_
         simp (decide := true) only [W, Pr_prog, q8, q10, q12, q14, q16, q18, q20, ↓reduceIte, Int.reduceToNat]
         refine hK _ _ ?_
         clear hK K
         refine WP.sr [2] (by kernel_rfl) fun K hK => ?_
         refine runOps.take 2 fun J hJ => ?_
         simp (decide := true) only [W, Pr_prog, q8, q10, q12, q14, q16, q18, q20, ↓reduceIte, Int.reduceToNat]
         refine hJ _ _ ?_
         clear hJ J
         refine runOps.part 84 rfl (fun q21 => ?_) (fun q21 => ?_)
         ·
          simp (decide := true) only [W, Pr_prog, q8, q10, q12, q14, q16, q18, q20, q21, ↓reduceIte, Int.reduceToNat]
          refine hK _ _ ?_
          clear hK K
          refine WP.ret ?_
          exact Ends.pure (.inr rfl) rfl (Le.of_eq (by first | (simp (decide := true) only [St.get, lk, W, possB, q8, q10, q12, q14, q16, q18, q20, q21, ↓reduceIte]; done) | (simp [St.get, lk, W, bne, possB, q8, q10, q12, q14, q16, q18, q20, q21]; done) | (simp_all [St.get, lk, W, LN, bne, possB]; done) | (simp_all [St.get, lk, W, LN, bne, possB]; intros; first | omega | (rw [Bool.eq_iff_iff]; simp; try omega)))) (by simp)
         ·
          simp (decide := true) only [W, Pr_prog, q8, q10, q12, q14, q16, q18, q20, q21, ↓reduceIte, Int.reduceToNat]
          refine hK _ _ ?_
          clear hK K
          refine WP.ret ?_
          exact Ends.pure (.inr rfl) rfl (Le.of_eq (by first | (simp (decide := true) only [St.get, lk, W, possB, q8, q10, q12, q14, q16, q18, q20, q21, ↓reduceIte]; done) | (simp [St.get, lk, W, bne, possB, q8, q10, q12, q14, q16, q18, q20, q21]; done) | (simp_all [St.get, lk, W, LN, bne, possB]; done) | (simp_all [St.get, lk, W, LN, bne, possB]; intros; first | omega | (rw [Bool.eq_iff_iff]; simp; try omega)))) (by simp)
        ·
         refine WP.sr [1, 5, 33, 72] (by kernel_rfl) fun K hK => ?_
         simp (decide := true) only [W, Pr_prog, q8, q10, q12, q14, q16, q18, q20, ↓reduceIte, Int.reduceToNat]
         refine hK _ _ ?_
         clear hK K
         refine WP.cond (b := _) rfl (fun q22 => ?_) (fun q22 => ?_)
         ·
          refine WP.skip ?_
          show WP _ _ _ _ _ _
          refine WP.cond (b := true) (by first | rfl | simp [W, q8, q10, q12, q14, q16, q18, q20, q22]) (fun _ => ?_) nofun
          refine WP.sr [5, 7] (by kernel_rfl) fun K hK => ?_
          simp (decide := true) only [W, Pr_prog, t_fldD_43_2, t_szD_9, t_aggD_9, q8, q10, q12, q14, q16, q18, q20, q22, ↓reduceIte, Int.reduceToNat]
          refine CallK.pure (c_number c.v hc.2.2) rfl rfl (by simp [-List.map_take]) ?_
          simp (decide := true) only [W, Pr_prog, q8, q10, q12, q14, q16, q18, q20, q22, ↓reduceIte, Int.reduceToNat]
          refine hK _ _ ?_
          clear hK K
          refine WP.sr [2] (by kernel_rfl) fun K hK => ?_
          refine runOps.take 2 fun J hJ => ?_
          simp (decide := true) only [W, Pr_prog, q8, q10, q12, q14, q16, q18, q20, q22, ↓reduceIte, Int.reduceToNat]
          refine hJ _ _ ?_
          clear hJ J
          refine runOps.part 84 rfl (fun q23 => ?_) (fun q23 => ?_)
          ·
           simp (decide := true) only [W, Pr_prog, q8, q10, q12, q14, q16, q18, q20, q22, q23, ↓reduceIte, Int.reduceToNat]
           refine hK _ _ ?_
           clear hK K
           refine WP.ret ?_
           exact Ends.pure (.inr rfl) rfl (Le.of_eq (by first | (simp (decide := true) only [St.get, lk, W, possB, q8, q10, q12, q14, q16, q18, q20, q22, q23, ↓reduceIte]; done) | (simp [St.get, lk, W, bne, possB, q8, q10, q12, q14, q16, q18, q20, q22, q23]; done) | (simp_all [St.get, lk, W, LN, bne, possB]; done) | (simp_all [St.get, lk, W, LN, bne, possB]; intros; first | omega | (rw [Bool.eq_iff_iff]; simp; try omega)))) (by simp)
          ·
           simp (decide := true) only [W, Pr_prog, q8, q10, q12, q14, q16, q18, q20, q22, q23, ↓reduceIte, Int.reduceToNat]
           refine hK _ _ ?_
           clear hK K
           refine WP.ret ?_
           exact Ends.pure (.inr rfl) rfl (Le.of_eq (by first | (simp (decide := true) only [St.get, lk, W, possB, q8, q10, q12, q14, q16, q18, q20, q22, q23, ↓reduceIte]; done) | (simp [St.get, lk, W, bne, possB, q8, q10, q12, q14, q16, q18, q20, q22, q23]; done) | (simp_all [St.get, lk, W, LN, bne, possB]; done) | (simp_all [St.get, lk, W, LN, bne, possB]; intros; first | omega | (rw [Bool.eq_iff_iff]; simp; try omega)))) (by simp)
         ·
          refine WP.sr [1, 5, 33, 72] (by kernel_rfl) fun K hK => ?_
          simp (decide := true) only [W, Pr_prog, q8, q10, q12, q14, q16, q18, q20, q22, ↓reduceIte, Int.reduceToNat]
          refine hK _ _ ?_
          clear hK K
          refine WP.cond (b := _) rfl (fun q24 => ?_) (fun q24 => ?_)
          ·
           refine WP.skip ?_
           show WP _ _ _ _ _ _
           refine WP.cond (b := true) (by first | rfl | simp [W, q8, q10, q12, q14, q16, q18, q20, q22, q24]) (fun _ => ?_) nofun
           refine WP.sr [5, 7] (by kernel_rfl) fun K hK => ?_
           simp (decide := true) only [W, Pr_prog, t_fldD_43_2, t_szD_9, t_aggD_9, q8, q10, q12, q14, q16, q18, q20, q22, q24, ↓reduceIte, Int.reduceToNat]
           refine CallK.pure (c_number c.v hc.2.2) rfl rfl (by simp [-List.map_take]) ?_
           simp (decide := true) only [W, Pr_prog, q8, q10, q12, q14, q16, q18, q20, q22, q24, ↓reduceIte, Int.reduceToNat]
           refine hK _ _ ?_
           clear hK K
           refine WP.sr [2] (by kernel_rfl) fun K hK => ?_
           refine runOps.take 2 fun J hJ => ?_
           simp (decide := true) only [W, Pr_prog, q8, q10, q12, q14, q16, q18, q20, q22, q24, ↓reduceIte, Int.reduceToNat]
           refine hJ _ _ ?_
           clear hJ J
           refine runOps.part 84 rfl (fun q25 => ?_) (fun q25 => ?_)
           ·
            simp (decide := true) only [W, Pr_prog, q8, q10, q12, q14, q16, q18, q20, q22, q24, q25, ↓reduceIte, Int.reduceToNat]
            refine hK _ _ ?_
            clear hK K
            refine WP.ret ?_
            exact Ends.pure (.inr rfl) rfl (Le.of_eq (by first | (simp (decide := true) only [St.get, lk, W, possB, q8, q10, q12, q14, q16, q18, q20, q22, q24, q25, ↓reduceIte]; done) | (simp [St.get, lk, W, bne, possB, q8, q10, q12, q14, q16, q18, q20, q22, q24, q25]; done) | (simp_all [St.get, lk, W, LN, bne, possB]; done) | (simp_all [St.get, lk, W, LN, bne, possB]; intros; first | omega | (rw [Bool.eq_iff_iff]; simp; try omega)))) (by simp)
           ·
            simp (decide := true) only [W, Pr_prog, q8, q10, q12, q14, q16, q18, q20, q22, q24, q25, ↓reduceIte, Int.reduceToNat]
            refine hK _ _ ?_
            clear hK K
            refine WP.ret ?_
            exact Ends.pure (.inr rfl) rfl (Le.of_eq (by first | (simp (decide := true) only [St.get, lk, W, possB, q8, q10, q12, q14, q16, q18, q20, q22, q24, q25, ↓reduceIte]; done) | (simp [St.get, lk, W, bne, possB, q8, q10, q12, q14, q16, q18, q20, q22, q24, q25]; done) | (simp_all [St.get, lk, W, LN, bne, possB]; done) | (simp_all [St.get, lk, W, LN, bne, possB]; intros; first | omega | (rw [Bool.eq_iff_iff]; simp; try omega)))) (by simp)
          ·
           refine WP.region (by kernel_rfl) fun K hK => ?_
           simp (decide := true) only [W, Pr_prog, q8, q10, q12, q14, q16, q18, q20, q22, q24, ↓reduceIte, Int.reduceToNat]
           refine hK _ _ ?_
           clear hK K
           show WP _ _ _ _ _ _
           refine WP.cond (b := _) rfl (fun q26 => ?_) (fun q26 => ?_)
           ·
            refine WP.sr [5, 7] (by kernel_rfl) fun K hK => ?_
            simp (decide := true) only [W, Pr_prog, t_fldD_43_2, t_szD_9, t_aggD_9, q8, q10, q12, q14, q16, q18, q20, q22, q24, q26, ↓reduceIte, Int.reduceToNat]
            refine CallK.pure (c_number c.v hc.2.2) rfl rfl (by simp [-List.map_take]) ?_
            simp (decide := true) only [W, Pr_prog, q8, q10, q12, q14, q16, q18, q20, q22, q24, q26, ↓reduceIte, Int.reduceToNat]
            refine hK _ _ ?_
            clear hK K
            refine WP.sr [2] (by kernel_rfl) fun K hK => ?_
            refine runOps.take 2 fun J hJ => ?_
            simp (decide := true) only [W, Pr_prog, q8, q10, q12, q14, q16, q18, q20, q22, q24, q26, ↓reduceIte, Int.reduceToNat]
            refine hJ _ _ ?_
            clear hJ J
            refine runOps.part 84 rfl (fun q27 => ?_) (fun q27 => ?_)
            ·
             simp (decide := true) only [W, Pr_prog, q8, q10, q12, q14, q16, q18, q20, q22, q24, q26, q27, ↓reduceIte, Int.reduceToNat]
             refine hK _ _ ?_
             clear hK K
             refine WP.ret ?_
             exact Ends.pure (.inr rfl) rfl (Le.of_eq (by first | (simp (decide := true) only [St.get, lk, W, possB, q8, q10, q12, q14, q16, q18, q20, q22, q24, q26, q27, ↓reduceIte]; done) | (simp [St.get, lk, W, bne, possB, q8, q10, q12, q14, q16, q18, q20, q22, q24, q26, q27]; done) | (simp_all [St.get, lk, W, LN, bne, possB]; done) | (simp_all [St.get, lk, W, LN, bne, possB]; intros; first | omega | (rw [Bool.eq_iff_iff]; simp; try omega)))) (by simp)
            ·
             simp (decide := true) only [W, Pr_prog, q8, q10, q12, q14, q16, q18, q20, q22, q24, q26, q27, ↓reduceIte, Int.reduceToNat]
             refine hK _ _ ?_
             clear hK K
             refine WP.ret ?_
             exact Ends.pure (.inr rfl) rfl (Le.of_eq (by first | (simp (decide := true) only [St.get, lk, W, possB, q8, q10, q12, q14, q16, q18, q20, q22, q24, q26, q27, ↓reduceIte]; done) | (simp [St.get, lk, W, bne, possB, q8, q10, q12, q14, q16, q18, q20, q22, q24, q26, q27]; done) | (simp_all [St.get, lk, W, LN, bne, possB]; done) | (simp_all [St.get, lk, W, LN, bne, possB]; intros; first | omega | (rw [Bool.eq_iff_iff]; simp; try omega)))) (by simp)
           ·
            refine WP.skip ?_
            show WP _ _ _ _ _ _
            refine WP.sr [2] (by kernel_rfl) fun K hK => ?_
            simp (decide := true) only [W, Pr_prog, q8, q10, q12, q14, q16, q18, q20, q22, q24, q26, ↓reduceIte, Int.reduceToNat]
            refine hK _ _ ?_
            clear hK K
            refine WP.ret ?_
            exact Ends.pure (.inr rfl) rfl (Le.of_eq (by first | (simp (decide := true) only [St.get, lk, W, possB, q8, q10, q12, q14, q16, q18, q20, q22, q24, q26, ↓reduceIte]; done) | (simp [St.get, lk, W, bne, possB, q8, q10, q12, q14, q16, q18, q20, q22, q24, q26]; done) | (simp_all [St.get, lk, W, LN, bne, possB]; done) | (simp_all [St.get, lk, W, LN, bne, possB]; intros; first | omega | (rw [Bool.eq_iff_iff]; simp; try omega)))) (by simp)
theorem c_r_number (f : List UInt8) : CallP Pr 65 [.str f] (.bool (numF f)) := by
 refine CallP.of_wp Tryz.func65 rfl (by kernel_rfl) Tryz.ntmps65 (by simp) ?_
 simp only [frameOf, Nat.reduceAdd, Nat.zero_add]
 refine WP.sr [0] (by kernel_rfl) fun K hK => ?_
 simp (decide := true) only [W, Pr_prog, ↓reduceIte, Int.reduceToNat]
 refine hK _ _ ?_
 clear hK K
 refine WP.sr [2] (by kernel_rfl) fun K hK => ?_
 refine runOps.take 3 fun J hJ => ?_
 simp (decide := true) only [W, Pr_prog, ↓reduceIte, Int.reduceToNat]
 refine hJ _ _ ?_
 clear hJ J
 refine runOps.part 5 rfl (fun q1 => ?_) (fun q1 => ?_)
 ·
  simp (decide := true) only [W, Pr_prog, q1, ↓reduceIte, Int.reduceToNat]
  refine hK _ _ ?_
  clear hK K
  refine WP.ret ?_
  exact Ends.pure (.inr rfl) rfl (Le.of_eq (by first | (simp (decide := true) only [St.get, lk, W, numF, q1, ↓reduceIte]; done) | (simp [St.get, lk, W, bne, numF, q1]; done) | (simp_all [St.get, lk, W, LN, bne, numF]; done) | (simp_all [St.get, lk, W, LN, bne, numF]; intros; first | omega | (rw [Bool.eq_iff_iff]; simp; try omega)))) (by simp)
 ·
  refine runOps.take 4 fun J hJ => ?_
  simp (decide := true) only [W, Pr_prog, q1, ↓reduceIte, Int.reduceToNat]
  refine hJ _ _ ?_
  clear hJ J
  refine runOps.part 9 rfl (fun q2 => ?_) (fun q2 => ?_)
  ·
   simp (decide := true) only [W, Pr_prog, q1, q2, ↓reduceIte, Int.reduceToNat]
   refine hK _ _ ?_
   clear hK K
   refine WP.ret ?_
   exact Ends.pure (.inr rfl) rfl (Le.of_eq (by first | (simp (decide := true) only [St.get, lk, W, numF, q1, q2, ↓reduceIte]; done) | (simp [St.get, lk, W, bne, numF, q1, q2]; done) | (simp_all [St.get, lk, W, LN, bne, numF]; done) | (simp_all [St.get, lk, W, LN, bne, numF]; intros; first | omega | (rw [Bool.eq_iff_iff]; simp; try omega)))) (by simp)
  ·
   refine runOps.take 4 fun J hJ => ?_
   simp (decide := true) only [W, Pr_prog, q1, q2, ↓reduceIte, Int.reduceToNat]
   refine hJ _ _ ?_
   clear hJ J
   refine runOps.part 13 rfl (fun q3 => ?_) (fun q3 => ?_)
   ·
    simp (decide := true) only [W, Pr_prog, q1, q2, q3, ↓reduceIte, Int.reduceToNat]
    refine hK _ _ ?_
    clear hK K
    refine WP.ret ?_
    exact Ends.pure (.inr rfl) rfl (Le.of_eq (by first | (simp (decide := true) only [St.get, lk, W, numF, q1, q2, q3, ↓reduceIte]; done) | (simp [St.get, lk, W, bne, numF, q1, q2, q3]; done) | (simp_all [St.get, lk, W, LN, bne, numF]; done) | (simp_all [St.get, lk, W, LN, bne, numF]; intros; first | omega | (rw [Bool.eq_iff_iff]; simp; try omega)))) (by simp)
   ·
    simp (decide := true) only [W, Pr_prog, q1, q2, q3, ↓reduceIte, Int.reduceToNat]
    refine hK _ _ ?_
    clear hK K
    refine WP.ret ?_
    exact Ends.pure (.inr rfl) rfl (Le.of_eq (by first | (simp (decide := true) only [St.get, lk, W, numF, q1, q2, q3, ↓reduceIte]; done) | (simp [St.get, lk, W, bne, numF, q1, q2, q3]; done) | (simp_all [St.get, lk, W, LN, bne, numF]; done) | (simp_all [St.get, lk, W, LN, bne, numF]; intros; first | omega | (rw [Bool.eq_iff_iff]; simp; try omega)))) (by simp)
theorem c_r_possible (c : Cond) (hc : c.ok) : CallP Pr 30 [.agg [.str c.f, .str c.op, .str c.v]] (.bool (possB c)) := by
 refine CallP.of_wp Tryz.func30 rfl (by kernel_rfl) Tryz.ntmps30 (by simp) ?_
 simp only [frameOf, Nat.reduceAdd, Nat.zero_add]
 refine WP.sr [1] (by kernel_rfl) fun K hK => ?_
 simp (decide := true) only [W, Pr_prog, rdD, ↓reduceIte, Int.reduceToNat]
 refine hK _ _ ?_
 clear hK K
 refine WP.seq ?_
 refine WP.sr [1, 6] (by kernel_rfl) fun K hK => ?_
 simp (decide := true) only [W, Pr_prog, t_fldD_43_0, t_szD_9, t_aggD_9, rdD, ↓reduceIte, Int.reduceToNat]
 refine hK _ _ ?_
 clear hK K
 refine WP.block ?_
 refine WP.seq ?_
 refine WP.sr [1, 6, 7] (by kernel_rfl) fun K hK => ?_
 simp (decide := true) only [W, Pr_prog, rdD, ↓reduceIte, Int.reduceToNat]
 refine hK _ _ ?_
 clear hK K
 refine WP.cond (b := _) rfl (fun q1 => ?_) (fun q1 => ?_)
 ·
  refine WP.skip ?_
  show WP _ _ _ _ _ _
  refine WP.cond (b := true) (by first | rfl | simp [W, q1]) (fun _ => ?_) nofun
  refine WP.sr [2] (by kernel_rfl) fun K hK => ?_
  refine runOps.take 4 fun J hJ => ?_
  simp (decide := true) only [W, Pr_prog, t_fldD_43_1, t_szD_9, t_aggD_9, q1, rdD, ↓reduceIte, Int.reduceToNat]
  refine hJ _ _ ?_
  clear hJ J
  refine runOps.part 14 rfl (fun q2 => ?_) (fun q2 => ?_)
  ·
   simp (decide := true) only [W, Pr_prog, t_fldD_43_1, t_szD_9, t_aggD_9, t_fldD_43_2, q1, q2, rdD, ↓reduceIte, Int.reduceToNat]
   refine CallK.pure (c_r_word c.v (by have := hc.2.2; omega)) rfl rfl (by simp [-List.map_take]) ?_
   simp (decide := true) only [W, Pr_prog, q1, q2, rdD, ↓reduceIte, Int.reduceToNat]
   refine hK _ _ ?_
   clear hK K
   refine WP.ret ?_
   exact Ends.pure (.inr rfl) rfl (Le.of_eq (by first | (simp (decide := true) only [St.get, lk, W, possB, numF, q1, q2, ↓reduceIte]; done) | (simp [St.get, lk, W, bne, possB, numF, q1, q2]; done) | (simp_all [St.get, lk, W, LN, bne, possB, numF]; done) | (simp_all [St.get, lk, W, LN, bne, possB, numF]; intros; first | omega | (rw [Bool.eq_iff_iff]; simp; try omega)))) (by simp)
  ·
   refine runOps.take 5 fun J hJ => ?_
   simp (decide := true) only [W, Pr_prog, t_fldD_43_1, t_szD_9, t_aggD_9, q1, q2, rdD, ↓reduceIte, Int.reduceToNat]
   refine hJ _ _ ?_
   clear hJ J
   refine runOps.part 19 rfl (fun q3 => ?_) (fun q3 => ?_)
   ·
    simp (decide := true) only [W, Pr_prog, t_fldD_43_2, t_szD_9, t_aggD_9, q1, q2, q3, rdD, ↓reduceIte, Int.reduceToNat]
    refine CallK.pure (c_r_word c.v (by have := hc.2.2; omega)) rfl rfl (by simp [-List.map_take]) ?_
    simp (decide := true) only [W, Pr_prog, q1, q2, q3, rdD, ↓reduceIte, Int.reduceToNat]
    refine hK _ _ ?_
    clear hK K
    refine WP.ret ?_
    exact Ends.pure (.inr rfl) rfl (Le.of_eq (by first | (simp (decide := true) only [St.get, lk, W, possB, numF, q1, q2, q3, ↓reduceIte]; done) | (simp [St.get, lk, W, bne, possB, numF, q1, q2, q3]; done) | (simp_all [St.get, lk, W, LN, bne, possB, numF]; done) | (simp_all [St.get, lk, W, LN, bne, possB, numF]; intros; first | omega | (rw [Bool.eq_iff_iff]; simp; try omega)))) (by simp)
   ·
    simp (decide := true) only [W, Pr_prog, t_fldD_43_2, t_szD_9, t_aggD_9, q1, q2, q3, rdD, ↓reduceIte, Int.reduceToNat]
    refine hK _ _ ?_
    clear hK K
    refine WP.ret ?_
    exact Ends.pure (.inr rfl) rfl (Le.of_eq (by first | (simp (decide := true) only [St.get, lk, W, possB, numF, q1, q2, q3, ↓reduceIte]; done) | (simp [St.get, lk, W, bne, possB, numF, q1, q2, q3]; done) | (simp_all [St.get, lk, W, LN, bne, possB, numF]; done) | (simp_all [St.get, lk, W, LN, bne, possB, numF]; intros; first | omega | (rw [Bool.eq_iff_iff]; simp; try omega)))) (by simp)
 ·
  refine WP.sr [1, 6, 7] (by kernel_rfl) fun K hK => ?_
  simp (decide := true) only [W, Pr_prog, q1, rdD, ↓reduceIte, Int.reduceToNat]
  refine hK _ _ ?_
  clear hK K
  refine WP.cond (b := _) rfl (fun q4 => ?_) (fun q4 => ?_)
  ·
   refine WP.skip ?_
   show WP _ _ _ _ _ _
   refine WP.cond (b := true) (by first | rfl | simp [W, q1, q4]) (fun _ => ?_) nofun
   refine WP.sr [2] (by kernel_rfl) fun K hK => ?_
   refine runOps.take 4 fun J hJ => ?_
   simp (decide := true) only [W, Pr_prog, t_fldD_43_1, t_szD_9, t_aggD_9, q1, q4, rdD, ↓reduceIte, Int.reduceToNat]
   refine hJ _ _ ?_
   clear hJ J
   refine runOps.part 14 rfl (fun q5 => ?_) (fun q5 => ?_)
   ·
    simp (decide := true) only [W, Pr_prog, t_fldD_43_1, t_szD_9, t_aggD_9, t_fldD_43_2, q1, q4, q5, rdD, ↓reduceIte, Int.reduceToNat]
    refine CallK.pure (c_r_word c.v (by have := hc.2.2; omega)) rfl rfl (by simp [-List.map_take]) ?_
    simp (decide := true) only [W, Pr_prog, q1, q4, q5, rdD, ↓reduceIte, Int.reduceToNat]
    refine hK _ _ ?_
    clear hK K
    refine WP.ret ?_
    exact Ends.pure (.inr rfl) rfl (Le.of_eq (by first | (simp (decide := true) only [St.get, lk, W, possB, numF, q1, q4, q5, ↓reduceIte]; done) | (simp [St.get, lk, W, bne, possB, numF, q1, q4, q5]; done) | (simp_all [St.get, lk, W, LN, bne, possB, numF]; done) | (simp_all [St.get, lk, W, LN, bne, possB, numF]; intros; first | omega | (rw [Bool.eq_iff_iff]; simp; try omega)))) (by simp)
   ·
    refine runOps.take 5 fun J hJ => ?_
    simp (decide := true) only [W, Pr_prog, t_fldD_43_1, t_szD_9, t_aggD_9, q1, q4, q5, rdD, ↓reduceIte, Int.reduceToNat]
    refine hJ _ _ ?_
    clear hJ J
    refine runOps.part 19 rfl (fun q6 => ?_) (fun q6 => ?_)
    ·
     simp (decide := true) only [W, Pr_prog, t_fldD_43_2, t_szD_9, t_aggD_9, q1, q4, q5, q6, rdD, ↓reduceIte, Int.reduceToNat]
     refine CallK.pure (c_r_word c.v (by have := hc.2.2; omega)) rfl rfl (by simp [-List.map_take]) ?_
     simp (decide := true) only [W, Pr_prog, q1, q4, q5, q6, rdD, ↓reduceIte, Int.reduceToNat]
     refine hK _ _ ?_
     clear hK K
     refine WP.ret ?_
     exact Ends.pure (.inr rfl) rfl (Le.of_eq (by first | (simp (decide := true) only [St.get, lk, W, possB, numF, q1, q4, q5, q6, ↓reduceIte]; done) | (simp [St.get, lk, W, bne, possB, numF, q1, q4, q5, q6]; done) | (simp_all [St.get, lk, W, LN, bne, possB, numF]; done) | (simp_all [St.get, lk, W, LN, bne, possB, numF]; intros; first | omega | (rw [Bool.eq_iff_iff]; simp; try omega)))) (by simp)
    ·
     simp (decide := true) only [W, Pr_prog, t_fldD_43_2, t_szD_9, t_aggD_9, q1, q4, q5, q6, rdD, ↓reduceIte, Int.reduceToNat]
     refine hK _ _ ?_
     clear hK K
     refine WP.ret ?_
     exact Ends.pure (.inr rfl) rfl (Le.of_eq (by first | (simp (decide := true) only [St.get, lk, W, possB, numF, q1, q4, q5, q6, ↓reduceIte]; done) | (simp [St.get, lk, W, bne, possB, numF, q1, q4, q5, q6]; done) | (simp_all [St.get, lk, W, LN, bne, possB, numF]; done) | (simp_all [St.get, lk, W, LN, bne, possB, numF]; intros; first | omega | (rw [Bool.eq_iff_iff]; simp; try omega)))) (by simp)
  ·
   refine WP.region (by kernel_rfl) fun K hK => ?_
   simp (decide := true) only [W, Pr_prog, q1, q4, rdD, ↓reduceIte, Int.reduceToNat]
   refine hK _ _ ?_
   clear hK K
   show WP _ _ _ _ _ _
   refine WP.cond (b := _) rfl (fun q7 => ?_) (fun q7 => ?_)
   ·
    refine WP.sr [2] (by kernel_rfl) fun K hK => ?_
    refine runOps.take 4 fun J hJ => ?_
    simp (decide := true) only [W, Pr_prog, t_fldD_43_1, t_szD_9, t_aggD_9, q1, q4, q7, rdD, ↓reduceIte, Int.reduceToNat]
    refine hJ _ _ ?_
    clear hJ J
    refine runOps.part 14 rfl (fun q8 => ?_) (fun q8 => ?_)
    ·
     simp (decide := true) only [W, Pr_prog, t_fldD_43_1, t_szD_9, t_aggD_9, t_fldD_43_2, q1, q4, q7, q8, rdD, ↓reduceIte, Int.reduceToNat]
     refine CallK.pure (c_r_word c.v (by have := hc.2.2; omega)) rfl rfl (by simp [-List.map_take]) ?_
     simp (decide := true) only [W, Pr_prog, q1, q4, q7, q8, rdD, ↓reduceIte, Int.reduceToNat]
     refine hK _ _ ?_
     clear hK K
     refine WP.ret ?_
     exact Ends.pure (.inr rfl) rfl (Le.of_eq (by first | (simp (decide := true) only [St.get, lk, W, possB, numF, q1, q4, q7, q8, ↓reduceIte]; done) | (simp [St.get, lk, W, bne, possB, numF, q1, q4, q7, q8]; done) | (simp_all [St.get, lk, W, LN, bne, possB, numF]; done) | (simp_all [St.get, lk, W, LN, bne, possB, numF]; intros; first | omega | (rw [Bool.eq_iff_iff]; simp; try omega)))) (by simp)
    ·
     refine runOps.take 5 fun J hJ => ?_
     simp (decide := true) only [W, Pr_prog, t_fldD_43_1, t_szD_9, t_aggD_9, q1, q4, q7, q8, rdD, ↓reduceIte, Int.reduceToNat]
     refine hJ _ _ ?_
     clear hJ J
     refine runOps.part 19 rfl (fun q9 => ?_) (fun q9 => ?_)
     ·
      simp (decide := true) only [W, Pr_prog, t_fldD_43_2, t_szD_9, t_aggD_9, q1, q4, q7, q8, q9, rdD, ↓reduceIte, Int.reduceToNat]
      refine CallK.pure (c_r_word c.v (by have := hc.2.2; omega)) rfl rfl (by simp [-List.map_take]) ?_
      simp (decide := true) only [W, Pr_prog, q1, q4, q7, q8, q9, rdD, ↓reduceIte, Int.reduceToNat]
      refine hK _ _ ?_
      clear hK K
      refine WP.ret ?_
      exact Ends.pure (.inr rfl) rfl (Le.of_eq (by first | (simp (decide := true) only [St.get, lk, W, possB, numF, q1, q4, q7, q8, q9, ↓reduceIte]; done) | (simp [St.get, lk, W, bne, possB, numF, q1, q4, q7, q8, q9]; done) | (simp_all [St.get, lk, W, LN, bne, possB, numF]; done) | (simp_all [St.get, lk, W, LN, bne, possB, numF]; intros; first | omega | (rw [Bool.eq_iff_iff]; simp; try omega)))) (by simp)
     ·
      simp (decide := true) only [W, Pr_prog, t_fldD_43_2, t_szD_9, t_aggD_9, q1, q4, q7, q8, q9, rdD, ↓reduceIte, Int.reduceToNat]
      refine hK _ _ ?_
      clear hK K
      refine WP.ret ?_
      exact Ends.pure (.inr rfl) rfl (Le.of_eq (by first | (simp (decide := true) only [St.get, lk, W, possB, numF, q1, q4, q7, q8, q9, ↓reduceIte]; done) | (simp [St.get, lk, W, bne, possB, numF, q1, q4, q7, q8, q9]; done) | (simp_all [St.get, lk, W, LN, bne, possB, numF]; done) | (simp_all [St.get, lk, W, LN, bne, possB, numF]; intros; first | omega | (rw [Bool.eq_iff_iff]; simp; try omega)))) (by simp)
   ·
    refine WP.sr [1, 6, 24] (by kernel_rfl) fun K hK => ?_
    simp (decide := true) only [W, Pr_prog, q1, q4, q7, rdD, ↓reduceIte, Int.reduceToNat]
    refine hK _ _ ?_
    clear hK K
    refine WP.cond (b := _) rfl (fun q10 => ?_) (fun q10 => ?_)
    ·
     refine WP.sr [2] (by kernel_rfl) fun K hK => ?_
     refine runOps.take 4 fun J hJ => ?_
     simp (decide := true) only [W, Pr_prog, t_fldD_43_1, t_szD_9, t_aggD_9, q1, q4, q7, q10, rdD, ↓reduceIte, Int.reduceToNat]
     refine hJ _ _ ?_
     clear hJ J
     refine runOps.part 29 rfl (fun q11 => ?_) (fun q11 => ?_)
     ·
      simp (decide := true) only [W, Pr_prog, t_fldD_43_1, t_szD_9, t_aggD_9, t_fldD_43_2, q1, q4, q7, q10, q11, rdD, ↓reduceIte, Int.reduceToNat]
      refine CallK.pure (c_r_clean c.v (by have := hc.2.2; omega)) rfl rfl (by simp [-List.map_take]) ?_
      simp (decide := true) only [W, Pr_prog, q1, q4, q7, q10, q11, rdD, ↓reduceIte, Int.reduceToNat]
      refine hK _ _ ?_
      clear hK K
      refine WP.ret ?_
      exact Ends.pure (.inr rfl) rfl (Le.of_eq (by first | (simp (decide := true) only [St.get, lk, W, possB, numF, q1, q4, q7, q10, q11, ↓reduceIte]; done) | (simp [St.get, lk, W, bne, possB, numF, q1, q4, q7, q10, q11]; done) | (simp_all [St.get, lk, W, LN, bne, possB, numF]; done) | (simp_all [St.get, lk, W, LN, bne, possB, numF]; intros; first | omega | (rw [Bool.eq_iff_iff]; simp; try omega)))) (by simp)
     ·
      refine runOps.take 5 fun J hJ => ?_
      simp (decide := true) only [W, Pr_prog, t_fldD_43_1, t_szD_9, t_aggD_9, q1, q4, q7, q10, q11, rdD, ↓reduceIte, Int.reduceToNat]
      refine hJ _ _ ?_
      clear hJ J
      refine runOps.part 34 rfl (fun q12 => ?_) (fun q12 => ?_)
      ·
       simp (decide := true) only [W, Pr_prog, t_fldD_43_2, t_szD_9, t_aggD_9, q1, q4, q7, q10, q11, q12, rdD, ↓reduceIte, Int.reduceToNat]
       refine CallK.pure (c_r_clean c.v (by have := hc.2.2; omega)) rfl rfl (by simp [-List.map_take]) ?_
       simp (decide := true) only [W, Pr_prog, q1, q4, q7, q10, q11, q12, rdD, ↓reduceIte, Int.reduceToNat]
       refine hK _ _ ?_
       clear hK K
       refine WP.ret ?_
       exact Ends.pure (.inr rfl) rfl (Le.of_eq (by first | (simp (decide := true) only [St.get, lk, W, possB, numF, q1, q4, q7, q10, q11, q12, ↓reduceIte]; done) | (simp [St.get, lk, W, bne, possB, numF, q1, q4, q7, q10, q11, q12]; done) | (simp_all [St.get, lk, W, LN, bne, possB, numF]; done) | (simp_all [St.get, lk, W, LN, bne, possB, numF]; intros; first | omega | (rw [Bool.eq_iff_iff]; simp; try omega)))) (by simp)
      ·
       simp (decide := true) only [W, Pr_prog, t_fldD_43_2, t_szD_9, t_aggD_9, q1, q4, q7, q10, q11, q12, rdD, ↓reduceIte, Int.reduceToNat]
       refine hK _ _ ?_
       clear hK K
       refine WP.ret ?_
       exact Ends.pure (.inr rfl) rfl (Le.of_eq (by first | (simp (decide := true) only [St.get, lk, W, possB, numF, q1, q4, q7, q10, q11, q12, ↓reduceIte]; done) | (simp [St.get, lk, W, bne, possB, numF, q1, q4, q7, q10, q11, q12]; done) | (simp_all [St.get, lk, W, LN, bne, possB, numF]; done) | (simp_all [St.get, lk, W, LN, bne, possB, numF]; intros; first | omega | (rw [Bool.eq_iff_iff]; simp; try omega)))) (by simp)
    ·
     refine WP.sr [1, 6, 39] (by kernel_rfl) fun K hK => ?_
     simp (decide := true) only [W, Pr_prog, q1, q4, q7, q10, rdD, ↓reduceIte, Int.reduceToNat]
     refine hK _ _ ?_
     clear hK K
     refine WP.cond (b := _) rfl (fun q13 => ?_) (fun q13 => ?_)
     ·
      refine WP.sr [2] (by kernel_rfl) fun K hK => ?_
      refine runOps.take 4 fun J hJ => ?_
      simp (decide := true) only [W, Pr_prog, t_fldD_43_1, t_szD_9, t_aggD_9, q1, q4, q7, q10, q13, rdD, ↓reduceIte, Int.reduceToNat]
      refine hJ _ _ ?_
      clear hJ J
      refine runOps.part 44 rfl (fun q14 => ?_) (fun q14 => ?_)
      ·
       simp (decide := true) only [W, Pr_prog, t_fldD_43_1, t_szD_9, t_aggD_9, t_fldD_43_2, t_elemD_34, t_okElem_9, q1, q4, q7, q10, q13, q14, rdD, ↓reduceIte, Int.reduceToNat]
       refine CallK.pure (c_r_sc_check [c.v] false (by simp) nofun (by have := hc.2.2; simp; omega)) rfl rfl (by simp [-List.map_take]) ?_
       simp (decide := true) only [W, Pr_prog, q1, q4, q7, q10, q13, q14, rdD, ↓reduceIte, Int.reduceToNat]
       refine hK _ _ ?_
       clear hK K
       refine WP.ret ?_
       exact Ends.pure (.inr rfl) rfl (Le.of_eq (by first | (simp (decide := true) only [St.get, lk, W, possB, numF, q1, q4, q7, q10, q13, q14, ↓reduceIte]; done) | (simp [St.get, lk, W, bne, possB, numF, q1, q4, q7, q10, q13, q14]; done) | (simp_all [St.get, lk, W, LN, bne, possB, numF]; done) | (simp_all [St.get, lk, W, LN, bne, possB, numF]; intros; first | omega | (rw [Bool.eq_iff_iff]; simp; try omega)))) (by simp)
      ·
       refine runOps.take 5 fun J hJ => ?_
       simp (decide := true) only [W, Pr_prog, t_fldD_43_1, t_szD_9, t_aggD_9, q1, q4, q7, q10, q13, q14, rdD, ↓reduceIte, Int.reduceToNat]
       refine hJ _ _ ?_
       clear hJ J
       refine runOps.part 49 rfl (fun q15 => ?_) (fun q15 => ?_)
       ·
        simp (decide := true) only [W, Pr_prog, t_fldD_43_2, t_szD_9, t_aggD_9, t_elemD_34, t_okElem_9, q1, q4, q7, q10, q13, q14, q15, rdD, ↓reduceIte, Int.reduceToNat]
        refine CallK.pure (c_r_sc_check [c.v] false (by simp) nofun (by have := hc.2.2; simp; omega)) rfl rfl (by simp [-List.map_take]) ?_
        simp (decide := true) only [W, Pr_prog, q1, q4, q7, q10, q13, q14, q15, rdD, ↓reduceIte, Int.reduceToNat]
        refine hK _ _ ?_
        clear hK K
        refine WP.ret ?_
        exact Ends.pure (.inr rfl) rfl (Le.of_eq (by first | (simp (decide := true) only [St.get, lk, W, possB, numF, q1, q4, q7, q10, q13, q14, q15, ↓reduceIte]; done) | (simp [St.get, lk, W, bne, possB, numF, q1, q4, q7, q10, q13, q14, q15]; done) | (simp_all [St.get, lk, W, LN, bne, possB, numF]; done) | (simp_all [St.get, lk, W, LN, bne, possB, numF]; intros; first | omega | (rw [Bool.eq_iff_iff]; simp; try omega)))) (by simp)
       ·
        simp (decide := true) only [W, Pr_prog, t_fldD_43_2, t_szD_9, t_aggD_9, t_elemD_34, t_okElem_9, q1, q4, q7, q10, q13, q14, q15, rdD, ↓reduceIte, Int.reduceToNat]
        refine hK _ _ ?_
        clear hK K
        refine WP.ret ?_
        exact Ends.pure (.inr rfl) rfl (Le.of_eq (by first | (simp (decide := true) only [St.get, lk, W, possB, numF, q1, q4, q7, q10, q13, q14, q15, ↓reduceIte]; done) | (simp [St.get, lk, W, bne, possB, numF, q1, q4, q7, q10, q13, q14, q15]; done) | (simp_all [St.get, lk, W, LN, bne, possB, numF]; done) | (simp_all [St.get, lk, W, LN, bne, possB, numF]; intros; first | omega | (rw [Bool.eq_iff_iff]; simp; try omega)))) (by simp)
     ·
      refine WP.sr [1, 56] (by kernel_rfl) fun K hK => ?_
      simp (decide := true) only [W, Pr_prog, q1, q4, q7, q10, q13, rdD, ↓reduceIte, Int.reduceToNat]
      refine hK _ _ ?_
      clear hK K
      refine WP.cond (b := _) rfl (fun q16 => ?_) (fun q16 => ?_)
      ·
       refine WP.sr [2] (by kernel_rfl) fun K hK => ?_
       refine runOps.take 4 fun J hJ => ?_
       simp (decide := true) only [W, Pr_prog, t_fldD_43_1, t_szD_9, t_aggD_9, q1, q4, q7, q10, q13, q16, rdD, ↓reduceIte, Int.reduceToNat]
       refine hJ _ _ ?_
       clear hJ J
       refine runOps.part 61 rfl (fun q17 => ?_) (fun q17 => ?_)
       ·
        refine runOps.take 4 fun J hJ => ?_
        simp (decide := true) only [W, Pr_prog, t_fldD_43_2, t_szD_9, t_aggD_9, q1, q4, q7, q10, q13, q16, q17, rdD, ↓reduceIte, Int.reduceToNat]
        refine hJ _ _ ?_
        clear hJ J
        refine runOps.part 65 rfl (fun q18 => ?_) (fun q18 => ?_)
        ·
         simp (decide := true) only [W, Pr_prog, t_fldD_43_2, t_szD_9, t_aggD_9, q1, q4, q7, q10, q13, q16, q17, q18, rdD, ↓reduceIte, Int.reduceToNat]
         refine hK _ _ ?_
         clear hK K
         refine WP.ret ?_
         exact Ends.pure (.inr rfl) rfl (Le.of_eq (by first | (simp (decide := true) only [St.get, lk, W, possB, numF, q1, q4, q7, q10, q13, q16, q17, q18, ↓reduceIte]; done) | (simp [St.get, lk, W, bne, possB, numF, q1, q4, q7, q10, q13, q16, q17, q18]; done) | (simp_all [St.get, lk, W, LN, bne, possB, numF]; done) | (simp_all [St.get, lk, W, LN, bne, possB, numF]; intros; first | omega | (rw [Bool.eq_iff_iff]; simp; try omega)))) (by simp)
        ·
         simp (decide := true) only [W, Pr_prog, t_fldD_43_2, t_szD_9, t_aggD_9, q1, q4, q7, q10, q13, q16, q17, q18, rdD, ↓reduceIte, Int.reduceToNat]
         refine hK _ _ ?_
         clear hK K
         refine WP.ret ?_
         exact Ends.pure (.inr rfl) rfl (Le.of_eq (by first | (simp (decide := true) only [St.get, lk, W, possB, numF, q1, q4, q7, q10, q13, q16, q17, q18, ↓reduceIte]; done) | (simp [St.get, lk, W, bne, possB, numF, q1, q4, q7, q10, q13, q16, q17, q18]; done) | (simp_all [St.get, lk, W, LN, bne, possB, numF]; done) | (simp_all [St.get, lk, W, LN, bne, possB, numF]; intros; first | omega | (rw [Bool.eq_iff_iff]; simp; try omega)))) (by simp)
       ·
        simp (decide := true) only [W, Pr_prog, t_fldD_43_2, t_szD_9, t_aggD_9, q1, q4, q7, q10, q13, q16, q17, rdD, ↓reduceIte, Int.reduceToNat]
        refine hK _ _ ?_
        clear hK K
        refine WP.ret ?_
        exact Ends.pure (.inr rfl) rfl (Le.of_eq (by first | (simp (decide := true) only [St.get, lk, W, possB, numF, q1, q4, q7, q10, q13, q16, q17, ↓reduceIte]; done) | (simp [St.get, lk, W, bne, possB, numF, q1, q4, q7, q10, q13, q16, q17]; done) | (simp_all [St.get, lk, W, LN, bne, possB, numF]; done) | (simp_all [St.get, lk, W, LN, bne, possB, numF]; intros; first | omega | (rw [Bool.eq_iff_iff]; simp; try omega)))) (by simp)
      ·
       refine WP.skip ?_
       show WP _ _ _ _ _ _
       refine WP.sr [1, 4] (by kernel_rfl) fun K hK => ?_
       simp (decide := true) only [W, Pr_prog, t_fldD_43_2, t_szD_9, t_aggD_9, q1, q4, q7, q10, q13, q16, rdD, ↓reduceIte, Int.reduceToNat]
       refine CallK.pure (c_r_readint c.v hc.2.2) rfl rfl (by simp [-List.map_take]) ?_
       simp (decide := true) only [W, Pr_prog, q1, q4, q7, q10, q13, q16, rdD, ↓reduceIte, Int.reduceToNat]
       refine hK _ _ ?_
       clear hK K
       refine WP.sr [2] (by kernel_rfl) fun K hK => ?_
       simp (decide := true) only [W, Pr_prog, t_fldD_43_0, t_szD_9, t_aggD_9, q1, q4, q7, q10, q13, q16, rdD, ↓reduceIte, Int.reduceToNat]
       refine CallK.pure (c_r_number c.f) rfl rfl (by simp [-List.map_take]) ?_
       refine runOps.take 1 fun J hJ => ?_
       simp (decide := true) only [W, Pr_prog, q1, q4, q7, q10, q13, q16, rdD, ↓reduceIte, Int.reduceToNat]
       refine hJ _ _ ?_
       clear hJ J
       refine runOps.part 80 rfl (fun q19 => ?_) (fun q19 => ?_)
       ·
        refine runOps.take 4 fun J hJ => ?_
        simp (decide := true) only [W, Pr_prog, t_fldD_43_1, t_szD_9, t_aggD_9, q1, q4, q7, q10, q13, q16, q19, rdD, ↓reduceIte, Int.reduceToNat]
        refine hJ _ _ ?_
        clear hJ J
        refine runOps.part 84 rfl (fun q20 => ?_) (fun q20 => ?_)
        ·
         simp (decide := true) only [W, Pr_prog, t_fldD_43_1, t_szD_9, t_aggD_9, q1, q4, q7, q10, q13, q16, q19, q20, rdD, ↓reduceIte, Int.reduceToNat]
         refine hK _ _ ?_
         clear hK K
         refine WP.ret ?_
         exact Ends.pure (.inr rfl) rfl (Le.of_eq (by first | (simp (decide := true) only [St.get, lk, W, possB, numF, q1, q4, q7, q10, q13, q16, q19, q20, ↓reduceIte]; done) | (simp [St.get, lk, W, bne, possB, numF, q1, q4, q7, q10, q13, q16, q19, q20]; done) | (simp_all [St.get, lk, W, LN, bne, possB, numF]; done) | (simp_all [St.get, lk, W, LN, bne, possB, numF]; intros; first | omega | (rw [Bool.eq_iff_iff]; simp; try omega)))) (by simp)
        ·
         refine runOps.take 6 fun J hJ => ?_
         simp (decide := true) only [W, Pr_prog, t_fldD_43_1, t_szD_9, t_aggD_9, q1, q4, q7, q10, q13, q16, q19, q20, rdD, ↓reduceIte, Int.reduceToNat]
         refine hJ _ _ ?_
         clear hJ J
         refine runOps.part 90 rfl (fun q21 => ?_) (fun q21 => ?_)
         ·
          simp (decide := true) only [W, Pr_prog, q1, q4, q7, q10, q13, q16, q19, q20, q21, rdD, ↓reduceIte, Int.reduceToNat]
          refine hK _ _ ?_
          clear hK K
          refine WP.ret ?_
          exact Ends.pure (.inr rfl) rfl (Le.of_eq (by first | (simp (decide := true) only [St.get, lk, W, possB, numF, q1, q4, q7, q10, q13, q16, q19, q20, q21, ↓reduceIte]; done) | (simp [St.get, lk, W, bne, possB, numF, q1, q4, q7, q10, q13, q16, q19, q20, q21]; done) | (simp_all [St.get, lk, W, LN, bne, possB, numF]; done) | (simp_all [St.get, lk, W, LN, bne, possB, numF]; intros; first | omega | (rw [Bool.eq_iff_iff]; simp; try omega)))) (by simp)
         ·
          simp (decide := true) only [W, Pr_prog, q1, q4, q7, q10, q13, q16, q19, q20, q21, rdD, ↓reduceIte, Int.reduceToNat]
          refine hK _ _ ?_
          clear hK K
          refine WP.ret ?_
          exact Ends.pure (.inr rfl) rfl (Le.of_eq (by first | (simp (decide := true) only [St.get, lk, W, possB, numF, q1, q4, q7, q10, q13, q16, q19, q20, q21, ↓reduceIte]; done) | (simp [St.get, lk, W, bne, possB, numF, q1, q4, q7, q10, q13, q16, q19, q20, q21]; done) | (simp_all [St.get, lk, W, LN, bne, possB, numF]; done) | (simp_all [St.get, lk, W, LN, bne, possB, numF]; intros; first | omega | (rw [Bool.eq_iff_iff]; simp; try omega)))) (by simp)
       ·
        simp (decide := true) only [W, Pr_prog, t_fldD_43_1, t_szD_9, t_aggD_9, q1, q4, q7, q10, q13, q16, q19, rdD, ↓reduceIte, Int.reduceToNat]
        refine hK _ _ ?_
        clear hK K
        refine WP.ret ?_
        exact Ends.pure (.inr rfl) rfl (Le.of_eq (by first | (simp (decide := true) only [St.get, lk, W, possB, numF, q1, q4, q7, q10, q13, q16, q19, ↓reduceIte]; done) | (simp [St.get, lk, W, bne, possB, numF, q1, q4, q7, q10, q13, q16, q19]; done) | (simp_all [St.get, lk, W, LN, bne, possB, numF]; done) | (simp_all [St.get, lk, W, LN, bne, possB, numF]; intros; first | omega | (rw [Bool.eq_iff_iff]; simp; try omega)))) (by simp)
theorem c_pword (f : List UInt8) (r : Req) : CallP Pr 51 [.str f, .agg [.str r.user, .str r.client, .str r.tenant, .slice 1 r.ng (r.groups.map fun x => [.str x]) none, .slice 1 r.ns (r.scopes.map fun x => [.str x]) none, .int .i64 r.risk, .bool r.trusted, .int .i64 r.level, .int .i64 r.auth, .int .i64 r.now]] (.str (wordR f r)) := by
 refine CallP.of_wp Tryz.func51 rfl (by kernel_rfl) Tryz.ntmps51 (by simp) ?_
 simp only [frameOf, Nat.reduceAdd, Nat.zero_add]
 refine WP.sr [0, 3] (by kernel_rfl) fun K hK => ?_
 simp (decide := true) only [W, Pr_prog, ↓reduceIte, Int.reduceToNat]
 refine hK _ _ ?_
 clear hK K
 refine WP.seq ?_
 refine WP.sr [3, 5] (by kernel_rfl) fun K hK => ?_
 simp (decide := true) only [W, Pr_prog, ↓reduceIte, Int.reduceToNat]
 refine hK _ _ ?_
 clear hK K
 refine WP.block ?_
 refine WP.sr [3, 5, 6] (by kernel_rfl) fun K hK => ?_
 simp (decide := true) only [W, Pr_prog, ↓reduceIte, Int.reduceToNat]
 refine hK _ _ ?_
 clear hK K
 refine WP.cond (b := _) rfl (fun q1 => ?_) (fun q1 => ?_)
 ·
  refine WP.sr [4] (by kernel_rfl) fun K hK => ?_
  simp (decide := true) only [W, Pr_prog, t_fldD_38_0, t_szD_9, t_aggD_9, q1, ↓reduceIte, Int.reduceToNat]
  refine hK _ _ ?_
  clear hK K
  refine WP.ret ?_
  exact Ends.pure (.inr rfl) rfl (Le.of_eq (by first | (simp (decide := true) only [St.get, lk, W, wordR, q1, ↓reduceIte]; done) | (simp [St.get, lk, W, bne, wordR, q1]; done) | (simp_all [St.get, lk, W, LN, bne, wordR]; done) | (simp_all [St.get, lk, W, LN, bne, wordR]; intros; first | omega | (rw [Bool.eq_iff_iff]; simp; try omega)))) (by simp)
 ·
  refine WP.sr [3, 5, 10] (by kernel_rfl) fun K hK => ?_
  simp (decide := true) only [W, Pr_prog, q1, ↓reduceIte, Int.reduceToNat]
  refine hK _ _ ?_
  clear hK K
  refine WP.cond (b := _) rfl (fun q2 => ?_) (fun q2 => ?_)
  ·
   refine WP.sr [4] (by kernel_rfl) fun K hK => ?_
   simp (decide := true) only [W, Pr_prog, t_fldD_38_1, t_szD_9, t_aggD_9, q1, q2, ↓reduceIte, Int.reduceToNat]
   refine hK _ _ ?_
   clear hK K
   refine WP.ret ?_
   exact Ends.pure (.inr rfl) rfl (Le.of_eq (by first | (simp (decide := true) only [St.get, lk, W, wordR, q1, q2, ↓reduceIte]; done) | (simp [St.get, lk, W, bne, wordR, q1, q2]; done) | (simp_all [St.get, lk, W, LN, bne, wordR]; done) | (simp_all [St.get, lk, W, LN, bne, wordR]; intros; first | omega | (rw [Bool.eq_iff_iff]; simp; try omega)))) (by simp)
  ·
   refine WP.sr [3, 14] (by kernel_rfl) fun K hK => ?_
   simp (decide := true) only [W, Pr_prog, q1, q2, ↓reduceIte, Int.reduceToNat]
   refine hK _ _ ?_
   clear hK K
   refine WP.cond (b := _) rfl (fun q3 => ?_) (fun q3 => ?_)
   ·
    refine WP.sr [4] (by kernel_rfl) fun K hK => ?_
    simp (decide := true) only [W, Pr_prog, t_fldD_38_2, t_szD_9, t_aggD_9, q1, q2, q3, ↓reduceIte, Int.reduceToNat]
    refine hK _ _ ?_
    clear hK K
    refine WP.ret ?_
    exact Ends.pure (.inr rfl) rfl (Le.of_eq (by first | (simp (decide := true) only [St.get, lk, W, wordR, q1, q2, q3, ↓reduceIte]; done) | (simp [St.get, lk, W, bne, wordR, q1, q2, q3]; done) | (simp_all [St.get, lk, W, LN, bne, wordR]; done) | (simp_all [St.get, lk, W, LN, bne, wordR]; intros; first | omega | (rw [Bool.eq_iff_iff]; simp; try omega)))) (by simp)
   ·
    refine WP.skip ?_
    show WP _ _ _ _ _ _
    refine WP.seq ?_
    refine WP.sr [19] (by kernel_rfl) fun K hK => ?_
    simp (decide := true) only [W, Pr_prog, t_fldD_38_6, t_szD_4, t_aggD_4, q1, q2, q3, ↓reduceIte, Int.reduceToNat]
    refine hK _ _ ?_
    clear hK K
    refine WP.cond (b := _) rfl (fun q4 => ?_) (fun q4 => ?_)
    ·
     refine WP.sr [4] (by kernel_rfl) fun K hK => ?_
     simp (decide := true) only [W, Pr_prog, q1, q2, q3, q4, ↓reduceIte, Int.reduceToNat]
     refine hK _ _ ?_
     clear hK K
     refine WP.ret ?_
     exact Ends.pure (.inr rfl) rfl (Le.of_eq (by first | (simp (decide := true) only [St.get, lk, W, wordR, q1, q2, q3, q4, ↓reduceIte]; done) | (simp [St.get, lk, W, bne, wordR, q1, q2, q3, q4]; done) | (simp_all [St.get, lk, W, LN, bne, wordR]; done) | (simp_all [St.get, lk, W, LN, bne, wordR]; intros; first | omega | (rw [Bool.eq_iff_iff]; simp; try omega)))) (by simp)
    ·
     refine WP.skip ?_
     show WP _ _ _ _ _ _
     refine WP.sr [4] (by kernel_rfl) fun K hK => ?_
     simp (decide := true) only [W, Pr_prog, q1, q2, q3, q4, ↓reduceIte, Int.reduceToNat]
     refine hK _ _ ?_
     clear hK K
     refine WP.ret ?_
     exact Ends.pure (.inr rfl) rfl (Le.of_eq (by first | (simp (decide := true) only [St.get, lk, W, wordR, q1, q2, q3, q4, ↓reduceIte]; done) | (simp [St.get, lk, W, bne, wordR, q1, q2, q3, q4]; done) | (simp_all [St.get, lk, W, LN, bne, wordR]; done) | (simp_all [St.get, lk, W, LN, bne, wordR]; intros; first | omega | (rw [Bool.eq_iff_iff]; simp; try omega)))) (by simp)
theorem c_members (f : List UInt8) (r : Req) : CallP Pr 53 [.str f, .agg [.str r.user, .str r.client, .str r.tenant, .slice 1 r.ng (r.groups.map fun x => [.str x]) none, .slice 1 r.ns (r.scopes.map fun x => [.str x]) none, .int .i64 r.risk, .bool r.trusted, .int .i64 r.level, .int .i64 r.auth, .int .i64 r.now]] (.slice 1 (nmembR f r) ((membR f r).map fun x => [.str x]) none) := by
 refine CallP.of_wp Tryz.func53 rfl (by kernel_rfl) Tryz.ntmps53 (by simp) ?_
 simp only [frameOf, Nat.reduceAdd, Nat.zero_add]
 refine WP.sr [0, 3] (by kernel_rfl) fun K hK => ?_
 simp (decide := true) only [W, Pr_prog, ↓reduceIte, Int.reduceToNat]
 refine hK _ _ ?_
 clear hK K
 refine WP.seq ?_
 refine WP.sr [3, 6] (by kernel_rfl) fun K hK => ?_
 simp (decide := true) only [W, Pr_prog, ↓reduceIte, Int.reduceToNat]
 refine hK _ _ ?_
 clear hK K
 refine WP.cond (b := _) rfl (fun q1 => ?_) (fun q1 => ?_)
 ·
  refine WP.sr [4] (by kernel_rfl) fun K hK => ?_
  simp (decide := true) only [W, Pr_prog, t_fldD_38_3, t_szD_34, t_aggD_34, q1, ↓reduceIte, Int.reduceToNat]
  refine hK _ _ ?_
  clear hK K
  refine WP.ret ?_
  exact Ends.pure (.inr rfl) rfl (Le.of_eq (by first | (simp (decide := true) only [St.get, lk, W, membR, nmembR, q1, ↓reduceIte]; done) | (simp [St.get, lk, W, bne, membR, nmembR, q1]; done) | (simp_all [St.get, lk, W, LN, bne, membR, nmembR]; done) | (simp_all [St.get, lk, W, LN, bne, membR, nmembR]; intros; first | omega | (rw [Bool.eq_iff_iff]; simp; try omega)))) (by simp)
 ·
  refine WP.skip ?_
  show WP _ _ _ _ _ _
  refine WP.sr [4] (by kernel_rfl) fun K hK => ?_
  simp (decide := true) only [W, Pr_prog, t_fldD_38_4, t_szD_34, t_aggD_34, q1, ↓reduceIte, Int.reduceToNat]
  refine hK _ _ ?_
  clear hK K
  refine WP.ret ?_
  exact Ends.pure (.inr rfl) rfl (Le.of_eq (by first | (simp (decide := true) only [St.get, lk, W, membR, nmembR, q1, ↓reduceIte]; done) | (simp [St.get, lk, W, bne, membR, nmembR, q1]; done) | (simp_all [St.get, lk, W, LN, bne, membR, nmembR]; done) | (simp_all [St.get, lk, W, LN, bne, membR, nmembR]; intros; first | omega | (rw [Bool.eq_iff_iff]; simp; try omega)))) (by simp)
theorem c_measure (f : List UInt8) (r : Req) : CallP Pr 54 [.str f, .agg [.str r.user, .str r.client, .str r.tenant, .slice 1 r.ng (r.groups.map fun x => [.str x]) none, .slice 1 r.ns (r.scopes.map fun x => [.str x]) none, .int .i64 r.risk, .bool r.trusted, .int .i64 r.level, .int .i64 r.auth, .int .i64 r.now]] (.int .i64 (measR f r)) := by
 refine CallP.of_wp Tryz.func54 rfl (by kernel_rfl) Tryz.ntmps54 (by simp) ?_
 simp only [frameOf, Nat.reduceAdd, Nat.zero_add]
 refine WP.sr [0, 3] (by kernel_rfl) fun K hK => ?_
 simp (decide := true) only [W, Pr_prog, lim_0, wrap_3600, ↓reduceIte, Int.reduceToNat]
 refine hK _ _ ?_
 clear hK K
 refine WP.seq ?_
 refine WP.sr [3, 5] (by kernel_rfl) fun K hK => ?_
 simp (decide := true) only [W, Pr_prog, lim_0, wrap_3600, ↓reduceIte, Int.reduceToNat]
 refine hK _ _ ?_
 clear hK K
 refine WP.block ?_
 refine WP.sr [3, 5, 6] (by kernel_rfl) fun K hK => ?_
 simp (decide := true) only [W, Pr_prog, lim_0, wrap_3600, ↓reduceIte, Int.reduceToNat]
 refine hK _ _ ?_
 clear hK K
 refine WP.cond (b := _) rfl (fun q1 => ?_) (fun q1 => ?_)
 ·
  refine WP.sr [4] (by kernel_rfl) fun K hK => ?_
  simp (decide := true) only [W, Pr_prog, t_fldD_38_5, t_szD_3, t_aggD_3, q1, lim_0, wrap_3600, ↓reduceIte, Int.reduceToNat]
  refine hK _ _ ?_
  clear hK K
  refine WP.ret ?_
  exact Ends.pure (.inr rfl) rfl (Le.of_eq (by first | (simp (decide := true) only [St.get, lk, W, measR, q1, ↓reduceIte]; done) | (simp [St.get, lk, W, bne, measR, q1]; done) | (simp_all [St.get, lk, W, LN, bne, measR]; done) | (simp_all [St.get, lk, W, LN, bne, measR]; intros; first | omega | (rw [Bool.eq_iff_iff]; simp; try omega)))) (by simp)
 ·
  refine WP.sr [3, 5, 10] (by kernel_rfl) fun K hK => ?_
  simp (decide := true) only [W, Pr_prog, q1, lim_0, wrap_3600, ↓reduceIte, Int.reduceToNat]
  refine hK _ _ ?_
  clear hK K
  refine WP.cond (b := _) rfl (fun q2 => ?_) (fun q2 => ?_)
  ·
   refine WP.sr [4] (by kernel_rfl) fun K hK => ?_
   simp (decide := true) only [W, Pr_prog, t_fldD_38_7, t_szD_3, t_aggD_3, q1, q2, lim_0, wrap_3600, ↓reduceIte, Int.reduceToNat]
   refine hK _ _ ?_
   clear hK K
   refine WP.ret ?_
   exact Ends.pure (.inr rfl) rfl (Le.of_eq (by first | (simp (decide := true) only [St.get, lk, W, measR, q1, q2, ↓reduceIte]; done) | (simp [St.get, lk, W, bne, measR, q1, q2]; done) | (simp_all [St.get, lk, W, LN, bne, measR]; done) | (simp_all [St.get, lk, W, LN, bne, measR]; intros; first | omega | (rw [Bool.eq_iff_iff]; simp; try omega)))) (by simp)
  ·
   refine WP.sr [3, 14] (by kernel_rfl) fun K hK => ?_
   simp (decide := true) only [W, Pr_prog, q1, q2, lim_0, wrap_3600, ↓reduceIte, Int.reduceToNat]
   refine hK _ _ ?_
   clear hK K
   refine WP.cond (b := _) rfl (fun q3 => ?_) (fun q3 => ?_)
   ·
    refine WP.sr [4] (by kernel_rfl) fun K hK => ?_
    simp (decide := true) only [W, Pr_prog, t_fldD_38_9, t_szD_3, t_aggD_3, q1, q2, q3, lim_0, wrap_3600, ↓reduceIte, Int.reduceToNat]
    refine CallK.pure (c_clock_add _ _) rfl rfl (by simp [-List.map_take]) ?_
    simp (decide := true) only [W, Pr_prog, q1, q2, q3, lim_0, wrap_3600, ↓reduceIte, Int.reduceToNat]
    refine hK _ _ ?_
    clear hK K
    refine WP.ret ?_
    exact Ends.pure (.inr rfl) rfl (Le.of_eq (by first | (simp (decide := true) only [St.get, lk, W, measR, q1, q2, q3, ↓reduceIte]; done) | (simp [St.get, lk, W, bne, measR, q1, q2, q3]; done) | (simp_all [St.get, lk, W, LN, bne, measR]; done) | (simp_all [St.get, lk, W, LN, bne, measR]; intros; first | omega | (rw [Bool.eq_iff_iff]; simp; try omega)))) (by simp)
   ·
    refine WP.skip ?_
    show WP _ _ _ _ _ _
    refine WP.sr [4] (by kernel_rfl) fun K hK => ?_
    simp (decide := true) only [W, Pr_prog, t_fldD_38_9, t_szD_3, t_aggD_3, t_fldD_38_8, q1, q2, q3, lim_0, wrap_3600, ↓reduceIte, Int.reduceToNat]
    refine CallK.pure (c_clock_sub _ _) rfl rfl (by simp [-List.map_take]) ?_
    simp (decide := true) only [W, Pr_prog, q1, q2, q3, lim_0, wrap_3600, ↓reduceIte, Int.reduceToNat]
    refine hK _ _ ?_
    clear hK K
    refine WP.ret ?_
    exact Ends.pure (.inr rfl) rfl (Le.of_eq (by first | (simp (decide := true) only [St.get, lk, W, measR, q1, q2, q3, ↓reduceIte]; done) | (simp [St.get, lk, W, bne, measR, q1, q2, q3]; done) | (simp_all [St.get, lk, W, LN, bne, measR]; done) | (simp_all [St.get, lk, W, LN, bne, measR]; intros; first | omega | (rw [Bool.eq_iff_iff]; simp; try omega)))) (by simp)
theorem c_r_amount (f : List UInt8) (r : Req) : CallP Pr 57 [.str f, .agg [.str r.user, .str r.client, .str r.tenant, .slice 1 r.ng (r.groups.map fun x => [.str x]) none, .slice 1 r.ns (r.scopes.map fun x => [.str x]) none, .int .i64 r.risk, .bool r.trusted, .int .i64 r.level, .int .i64 r.auth, .int .i64 r.now]] (.int .i64 (measR f r)) := by
 refine CallP.of_wp Tryz.func57 rfl (by kernel_rfl) Tryz.ntmps57 (by simp) ?_
 simp only [frameOf, Nat.reduceAdd, Nat.zero_add]
 refine WP.sr [0, 3] (by kernel_rfl) fun K hK => ?_
 simp (decide := true) only [W, Pr_prog, wrap_3600, ↓reduceIte, Int.reduceToNat]
 refine hK _ _ ?_
 clear hK K
 refine WP.seq ?_
 refine WP.sr [3, 5] (by kernel_rfl) fun K hK => ?_
 simp (decide := true) only [W, Pr_prog, wrap_3600, ↓reduceIte, Int.reduceToNat]
 refine hK _ _ ?_
 clear hK K
 refine WP.block ?_
 refine WP.sr [3, 5, 6] (by kernel_rfl) fun K hK => ?_
 simp (decide := true) only [W, Pr_prog, wrap_3600, ↓reduceIte, Int.reduceToNat]
 refine hK _ _ ?_
 clear hK K
 refine WP.cond (b := _) rfl (fun q1 => ?_) (fun q1 => ?_)
 ·
  refine WP.sr [4] (by kernel_rfl) fun K hK => ?_
  simp (decide := true) only [W, Pr_prog, t_fldD_38_5, t_szD_3, t_aggD_3, q1, wrap_3600, ↓reduceIte, Int.reduceToNat]
  refine hK _ _ ?_
  clear hK K
  refine WP.ret ?_
  exact Ends.pure (.inr rfl) rfl (Le.of_eq (by first | (simp (decide := true) only [St.get, lk, W, measR, q1, ↓reduceIte]; done) | (simp [St.get, lk, W, bne, measR, q1]; done) | (simp_all [St.get, lk, W, LN, bne, measR]; done) | (simp_all [St.get, lk, W, LN, bne, measR]; intros; first | omega | (rw [Bool.eq_iff_iff]; simp; try omega)))) (by simp)
 ·
  refine WP.sr [3, 5, 10] (by kernel_rfl) fun K hK => ?_
  simp (decide := true) only [W, Pr_prog, q1, wrap_3600, ↓reduceIte, Int.reduceToNat]
  refine hK _ _ ?_
  clear hK K
  refine WP.cond (b := _) rfl (fun q2 => ?_) (fun q2 => ?_)
  ·
   refine WP.sr [4] (by kernel_rfl) fun K hK => ?_
   simp (decide := true) only [W, Pr_prog, t_fldD_38_7, t_szD_3, t_aggD_3, q1, q2, wrap_3600, ↓reduceIte, Int.reduceToNat]
   refine hK _ _ ?_
   clear hK K
   refine WP.ret ?_
   exact Ends.pure (.inr rfl) rfl (Le.of_eq (by first | (simp (decide := true) only [St.get, lk, W, measR, q1, q2, ↓reduceIte]; done) | (simp [St.get, lk, W, bne, measR, q1, q2]; done) | (simp_all [St.get, lk, W, LN, bne, measR]; done) | (simp_all [St.get, lk, W, LN, bne, measR]; intros; first | omega | (rw [Bool.eq_iff_iff]; simp; try omega)))) (by simp)
  ·
   refine WP.sr [3, 14] (by kernel_rfl) fun K hK => ?_
   simp (decide := true) only [W, Pr_prog, q1, q2, wrap_3600, ↓reduceIte, Int.reduceToNat]
   refine hK _ _ ?_
   clear hK K
   refine WP.cond (b := _) rfl (fun q3 => ?_) (fun q3 => ?_)
   ·
    refine WP.sr [4] (by kernel_rfl) fun K hK => ?_
    simp (decide := true) only [W, Pr_prog, t_fldD_38_9, t_szD_3, t_aggD_3, q1, q2, q3, wrap_3600, ↓reduceIte, Int.reduceToNat]
    refine CallK.pure (c_r_limit _) rfl rfl (by simp [-List.map_take]) ?_
    simp (decide := true) only [W, Pr_prog, q1, q2, q3, wrap_3600, ↓reduceIte, Int.reduceToNat]
    refine hK _ _ ?_
    clear hK K
    refine WP.ret ?_
    exact Ends.pure (.inr rfl) rfl (Le.of_eq (by first | (simp (decide := true) only [St.get, lk, W, measR, q1, q2, q3, ↓reduceIte]; done) | (simp [St.get, lk, W, bne, measR, q1, q2, q3]; done) | (simp_all [St.get, lk, W, LN, bne, measR]; done) | (simp_all [St.get, lk, W, LN, bne, measR]; intros; first | omega | (rw [Bool.eq_iff_iff]; simp; try omega)))) (by simp)
   ·
    refine WP.skip ?_
    show WP _ _ _ _ _ _
    refine WP.sr [4] (by kernel_rfl) fun K hK => ?_
    simp (decide := true) only [W, Pr_prog, t_fldD_38_9, t_szD_3, t_aggD_3, t_fldD_38_8, q1, q2, q3, wrap_3600, ↓reduceIte, Int.reduceToNat]
    refine CallK.pure (c_r_clock_sub _ _) rfl rfl (by simp [-List.map_take]) ?_
    simp (decide := true) only [W, Pr_prog, q1, q2, q3, wrap_3600, ↓reduceIte, Int.reduceToNat]
    refine hK _ _ ?_
    clear hK K
    refine WP.ret ?_
    exact Ends.pure (.inr rfl) rfl (Le.of_eq (by first | (simp (decide := true) only [St.get, lk, W, measR, q1, q2, q3, ↓reduceIte]; done) | (simp [St.get, lk, W, bne, measR, q1, q2, q3]; done) | (simp_all [St.get, lk, W, LN, bne, measR]; done) | (simp_all [St.get, lk, W, LN, bne, measR]; intros; first | omega | (rw [Bool.eq_iff_iff]; simp; try omega)))) (by simp)
end Go.Proofs

set_option linter.unusedSimpArgs false
set_option linter.unusedVariables false
namespace Go.Proofs
open Go Go.Id
structure Rule where
  name : List UInt8
  deny : Bool
  conds : List Cond
  nc : Bool
  scopes : List (List UInt8)
  ns : Bool
  lvl : Int
  age : Int
def Rule.cs (p : Rule) : List D := [.str p.name, .bool p.deny, .slice 3 p.nc (p.conds.map Cond.cs) none, .slice 1 p.ns (p.scopes.map fun x => [.str x]) none, .int .i64 p.lvl, .int .i64 p.age]
@[simp] theorem clo_cond {S : Nat → Prop} (l : List Cond) : (∀ e ∈ l.map Cond.cs, ∀ d ∈ e, Clo S d) ↔ True := by
  simp only [iff_true]
  intro e he d hd
  simp only [List.mem_map] at he
  obtain ⟨c, _, rfl⟩ := he
  simp only [Cond.cs, List.mem_cons, List.mem_nil_iff, or_false] at hd
  rcases hd with rfl | rfl | rfl <;> simp
@[simp] theorem clo_cs {S : Nat → Prop} (l : List Cond) : (∀ a ∈ l, ∀ d ∈ a.cs, Clo S d) ↔ True := by
  simp only [iff_true]
  intro c _ d hd
  simp only [Cond.cs, List.mem_cons, List.mem_nil_iff, or_false] at hd
  rcases hd with rfl | rfl | rfl <;> simp
@[simp] theorem clo_rs {S : Nat → Prop} (l : List Rule) : (∀ a ∈ l, ∀ d ∈ a.cs, Clo S d) ↔ True := by
  simp only [iff_true]
  intro c _ d hd
  simp only [Rule.cs, List.mem_cons, List.mem_nil_iff, or_false] at hd
  rcases hd with rfl | rfl | rfl | rfl | rfl | rfl <;> simp
/-- Sizes. -/
def Rule.ok0 (p : Rule) : Prop := p.conds.length ≤ 1099511627776 ∧ (p.nc = true → p.conds = []) ∧ p.scopes.length ≤ 1099511627776 ∧ (p.ns = true → p.scopes = [])
def Rule.ok (p : Rule) : Prop := p.ok0 ∧ p.name.length ≤ 1099511627776 ∧ (∀ c ∈ p.conds, c.ok) ∧ (∀ s ∈ p.scopes, s.length ≤ 1099511627776)
theorem wrapBig {k n : Nat} (h : k < n) (hn : n ≤ 9223372036854775807) : IntKind.wrap .i64 ((k : Int) + 1) = ((k + 1 : Nat) : Int) := by
  rw [wrap_i64 (by omega) (by omega)]; rfl
def Rule.big (p : Rule) : Prop := p.conds.length ≤ 9223372036854775807 ∧ (p.nc = true → p.conds = []) ∧ p.scopes.length ≤ 9223372036854775807 ∧ (p.ns = true → p.scopes = [])
def Req.big (r : Req) : Prop := r.groups.length ≤ 9223372036854775807 ∧ (r.ng = true → r.groups = []) ∧ r.scopes.length ≤ 9223372036854775807 ∧ (r.ns = true → r.scopes = [])
def shortB (ls : List (List UInt8)) (n : Int) : Bool := ls.all (fun x => decide ((x.length : Int) ≤ 300)) && decide ((ls.length : Int) ≤ n)
def ruleB (p : Rule) : Bool := p.conds.all (fun c => decide ((c.f.length : Int) ≤ 300) && decide ((c.op.length : Int) ≤ 300) && decide ((c.v.length : Int) ≤ 300)) && decide ((p.conds.length : Int) ≤ 10) && shortB p.scopes 20 && decide ((p.name.length : Int) ≤ 300)
def fewB (l : List Rule) : Bool := l.all ruleB && decide ((l.length : Int) ≤ 70)
def askedB (r : Req) : Bool := decide ((r.user.length : Int) ≤ 300) && decide ((r.client.length : Int) ≤ 300) && decide ((r.tenant.length : Int) ≤ 300) && shortB r.groups 20 && shortB r.scopes 20
def mentB (a b : List UInt8) (l : List Cond) : Bool := l.any fun c => c.f == a || c.f == b
theorem memb_len (f : List UInt8) (r : Req) (h : r.ok) : (membR f r).length ≤ 1099511627776 ∧ (nmembR f r = true → membR f r = []) := by
  unfold membR nmembR
  split
  · exact ⟨h.1, h.2.1⟩
  · exact ⟨h.2.2.1, h.2.2.2⟩
end Go.Proofs
