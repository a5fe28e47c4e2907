/- Gaps is as specified, and an instant of the window lies in a gap exactly if no key signs at it. Conditions: none, the given statement. -/
import Derived.Test.YtabkoicelflhcaaGreatDoorG11
import Derived.Test.YtabkoicelflhcaaGreatDoorG09
import Derived.Test.YtabkoicelflhcaaGreatDoorG10
import Derived.ChangeMaps5
set_option linter.unusedSimpArgs false
set_option linter.unusedVariables false
set_option maxRecDepth 10000
namespace Go.Proofs
open Go Go.Id
set_option maxHeartbeats 4000000
theorem c_l_gaps (l : List Key) (nl : Bool) (hn : l.length ≤ 9223372036854775807) (hnl : nl = true → l = []) (f u t : Int) : CallP Pr 9 [.slice 6 nl (l.map Key.cs) none, .agg [.int .i64 f, .int .i64 u], .int .i64 t] (.bool true) := by
 have hgl := gapsK_len l f u
 refine CallP.of_wp Tryz.func9 rfl (by kernel_rfl) Tryz.ntmps9 (by simp) ?_
 simp only [frameOf, Nat.reduceAdd, Nat.zero_add]
 refine WP.sr [0, 2, 4] (by kernel_rfl) fun K hK => ?_
 simp (decide := true) only [TF, EV, ↓reduceIte, Int.reduceToNat]
 refine hK _ _ ?_; clear hK K
 refine WP.seq ?_
 refine WP.sr [0, 2, 4, 15] (by kernel_rfl) fun K hK => ?_
 simp (decide := true) only [TF, EV, ↓reduceIte, Int.reduceToNat]
 refine CallK.pure (c_great l nl 20 hn hnl) rfl rfl (by simp [-List.map_take]) ?_
 simp (decide := true) only [TF, EV, ↓reduceIte, Int.reduceToNat]
 refine hK _ _ ?_; clear hK K
 refine WP.cond (b := _) rfl (fun q1 => ?_) (fun q1 => ?_)
 ·
  refine WP.sr [6] (by kernel_rfl) fun K hK => ?_
  simp (decide := true) only [TF, EV, q1, ↓reduceIte, Int.reduceToNat]
  refine CallK.pure (c_live) rfl rfl (by simp [-List.map_take]) ?_
  simp (decide := true) only [TF, EV, q1, ↓reduceIte, Int.reduceToNat]
  refine hK _ _ ?_; clear hK K
  refine WP.ret ?_
  exact Ends.pure (.inr rfl) rfl (Le.of_eq (by simp [St.get, lk, W, Pr_prog, q1])) (by simp)
 ·
  have hgr : greatB l ((20 : Nat) : Int) = false := by simpa using q1
  obtain ⟨hlen, hok⟩ := great_no hgr
  refine WP.skip ?_
  show WP _ _ _ _ _ _
  refine WP.sd [0, 2, 4, 7, 8] (by kernel_rfl) (by kernel_rfl) fun K hK => ?_
  simp (decide := true) only [TF, EV, q1, ↓reduceIte, Int.reduceToNat]
  refine CallK.pure (c_gaps l nl f u (by omega) hnl) rfl rfl (by simp [-List.map_take]) ?_
  simp (decide := true) only [TF, EV, q1, ↓reduceIte, Int.reduceToNat]
  refine CallK.pure (c_r_gaps l nl f u (by omega) hnl) rfl rfl (by simp [-List.map_take]) ?_
  simp (decide := true) only [TF, EV, q1, ↓reduceIte, Int.reduceToNat]
  refine hK _ _ (by kernel_rfl) ?_
  clear hK K
  refine WP.seq ?_
  refine WP.sr [0, 2, 4, 7, 8, 31] (by kernel_rfl) fun K hK => ?_
  simp (decide := true) only [TF, EV, q1, ↓reduceIte, Int.reduceToNat]
  refine CallK.pure (c_live) rfl rfl (by simp [-List.map_take]) ?_
  simp (decide := true) only [TF, EV, q1, ↓reduceIte, Int.reduceToNat]
  refine hK _ _ ?_; clear hK K
  refine WP.cond (b := false) (by rfl) nofun (fun _ => ?_)
  refine WP.skip ?_
  show WP _ _ _ _ _ _
  refine WP.seq ?_
  refine WP.sr [0, 2, 4, 7, 8, 33, 34] (by kernel_rfl) fun K hK => ?_
  simp (decide := true) only [TF, EV, q1, ↓reduceIte, Int.reduceToNat]
  refine hK _ _ ?_; clear hK K
  refine WP.block ?_
  refine WP.lp [0, 2, 4, 7, 8, 33] (X := {k : Nat // k ≤ (gapsK l f u).length}) (fun x => match x with | ⟨(k), _⟩ => [(34, .int .i64 k)]) (fun x => match x with | ⟨(k), _⟩ => [(0, .box 29 [.int .i64 f, .int .i64 u])]) (fun x => match x with | ⟨(k), _⟩ => (gapsK l f u).length - k) (by simp (decide := true) only [W, ↓reduceIte, Int.reduceToNat]; rfl) ?_ ⟨(0), Nat.zero_le _⟩ ?_
  rotate_left
  · exact Weak.store (by simp [St.get, lk, W, Le.refl, q1]) (by simp [lk, W, q1]) (by simp [lk, W]) (by simp [BClo, lk]) (by simp [lk])
  rintro ⟨k, hk⟩
  dsimp only
  simp only [List.cons_append, List.nil_append]
  refine WP.sr [0, 2, 4, 7, 8, 33, 34, 35] (by kernel_rfl) fun K hK => ?_
  simp (decide := true) only [TF, EV, q1, ↓reduceIte, Int.reduceToNat]
  refine hK _ _ ?_; clear hK K
  refine WP.seq ?_
  refine WP.cond (b := _) rfl (fun q2 => ?_) (fun q2 => ?_)
  ·
   have hlt := lt_of_q q2
   have hg : ((gapsK l f u).map Win.cs)[k]? = some [.int .i64 (gapsK l f u)[k].f, .int .i64 (gapsK l f u)[k].u] := getM hlt
   have hnf : (gapsK l f u).isEmpty = false := isE3 _ (by intro e; rw [e] at hlt; simp at hlt)
   have hgr2 := gap_real k hlt
   refine WP.skip ?_
   show WP _ _ _ _ _ _
   refine WP.seq ?_
   refine WP.block ?_
   refine WP.sr [0, 2, 4, 7, 8, 9, 33, 34] (by kernel_rfl) fun K hK => ?_
   simp (decide := true) only [TF, EV, q1, q2, hg, hnf, hgr2, ↓reduceIte, Int.reduceToNat]
   refine hK _ _ ?_; clear hK K
   refine WP.sd [0, 2, 4, 7, 8, 33, 34, 76] (by kernel_rfl) (by kernel_rfl) fun K hK => ?_
   refine runOps.take 26 fun J hJ => ?_
   simp (decide := true) only [TF, EV, q1, q2, hg, hnf, hgr2, ↓reduceIte, Int.reduceToNat]
   refine hJ _ _ ?_; clear hJ J
   refine runOps.part 62 rfl (fun q3 => ?_) (fun q3 => ?_)
   ·
    have hk0 : 0 < k := by have := of_decide_eq_true q3; omega
    have hwk : IntKind.wrap .i64 ((k : Int) - 1) = ((k - 1 : Nat) : Int) := by rw [wrap_i64 (by omega) (by omega)]; omega
    have hgp : ((gapsK l f u).map Win.cs)[k - 1]? = some [.int .i64 (gapsK l f u)[k - 1].f, .int .i64 (gapsK l f u)[k - 1].u] := getM (by omega)
    have hnx := gap_next k hlt hk0
    simp (decide := true) only [TF, EV, q1, q2, hg, hnf, hgr2, q3, hwk, hgp, hnx, ↓reduceIte, Int.reduceToNat]
    refine hK _ _ (by kernel_rfl) ?_
    clear hK K
    refine WP.cond (b := false) (by rfl) nofun (fun _ => ?_)
    refine WP.skip ?_
    show WP _ _ _ _ _ _
    refine WP.region (by kernel_rfl) fun K hK => ?_
    simp (decide := true) only [TF, EV, q1, q2, hg, hnf, hgr2, q3, hwk, hgp, hnx, ↓reduceIte, Int.reduceToNat]
    refine hK _ _ ?_; clear hK K
    show ∃ y, _ ∧ Weak _ _ _
    refine ⟨⟨k + 1, ?_⟩, ?_, ?_⟩
    · omega
    · dsimp only; omega
    · exact Weak.store (by simp [St.get, lk, W, Le.refl, q1, q2, hg, hnf, hgr2, q3, hwk, hgp, hnx, wrapS hlt (show (gapsK l f u).length ≤ 140737488355328 by omega)]) (by simp [lk, W, q1, q2, hg, hnf, hgr2, q3, hwk, hgp, hnx, wrapS hlt (show (gapsK l f u).length ≤ 140737488355328 by omega)]) (by simp [lk, W]) (by simp [BClo, lk]) (by simp [lk])
   ·
    simp (decide := true) only [TF, EV, q1, q2, hg, hnf, hgr2, q3, ↓reduceIte, Int.reduceToNat]
    refine hK _ _ (by kernel_rfl) ?_
    clear hK K
    refine WP.cond (b := false) (by rfl) nofun (fun _ => ?_)
    refine WP.skip ?_
    show WP _ _ _ _ _ _
    refine WP.region (by kernel_rfl) fun K hK => ?_
    simp (decide := true) only [TF, EV, q1, q2, hg, hnf, hgr2, q3, ↓reduceIte, Int.reduceToNat]
    refine hK _ _ ?_; clear hK K
    show ∃ y, _ ∧ Weak _ _ _
    refine ⟨⟨k + 1, ?_⟩, ?_, ?_⟩
    · omega
    · dsimp only; omega
    · exact Weak.store (by simp [St.get, lk, W, Le.refl, q1, q2, hg, hnf, hgr2, q3, wrapS hlt (show (gapsK l f u).length ≤ 140737488355328 by omega)]) (by simp [lk, W, q1, q2, hg, hnf, hgr2, q3, wrapS hlt (show (gapsK l f u).length ≤ 140737488355328 by omega)]) (by simp [lk, W]) (by simp [BClo, lk]) (by simp [lk])
  ·
   have hge := ge_of_q q2
   refine WP.exit ?_
   show WP _ _ _ _ _ _
   refine WP.seq ?_
   refine WP.sr [0, 2, 7, 89] (by kernel_rfl) fun K hK => ?_
   refine runOps.take 3 fun J hJ => ?_
   simp (decide := true) only [TF, EV, q1, q2, ↓reduceIte, Int.reduceToNat]
   refine hJ _ _ ?_; clear hJ J
   refine runOps.part 80 rfl (fun q4 => ?_) (fun q4 => ?_)
   ·
    simp (decide := true) only [TF, EV, q1, q2, q4, ↓reduceIte, Int.reduceToNat]
    refine hK _ _ ?_; clear hK K
    refine WP.cond (b := true) (by rfl) (fun _ => ?_) nofun
    refine WP.sr [6] (by kernel_rfl) fun K hK => ?_
    simp (decide := true) only [TF, EV, q1, q2, q4, ↓reduceIte, Int.reduceToNat]
    refine hK _ _ ?_; clear hK K
    refine WP.ret ?_
    exact Ends.pure (.inr rfl) rfl (Le.of_eq (by simp [St.get, lk, W, Pr_prog, q1, q2, q4])) (by simp)
   ·
    have hz0 := of_decide_eq_false q4
    refine runOps.take 4 fun J hJ => ?_
    simp (decide := true) only [TF, EV, q1, q2, q4, ↓reduceIte, Int.reduceToNat]
    refine hJ _ _ ?_; clear hJ J
    refine runOps.part 84 rfl (fun q5 => ?_) (fun q5 => ?_)
    ·
     simp (decide := true) only [TF, EV, q1, q2, q4, q5, ↓reduceIte, Int.reduceToNat]
     refine hK _ _ ?_; clear hK K
     refine WP.cond (b := true) (by rfl) (fun _ => ?_) nofun
     refine WP.sr [6] (by kernel_rfl) fun K hK => ?_
     simp (decide := true) only [TF, EV, q1, q2, q4, q5, ↓reduceIte, Int.reduceToNat]
     refine hK _ _ ?_; clear hK K
     refine WP.ret ?_
     exact Ends.pure (.inr rfl) rfl (Le.of_eq (by simp [St.get, lk, W, Pr_prog, q1, q2, q4, q5])) (by simp)
    ·
     have hz1 := of_decide_eq_false q5
     simp (decide := true) only [TF, EV, q1, q2, q4, q5, ↓reduceIte, Int.reduceToNat]
     refine CallK.pure (c_c_in _ _ _) rfl rfl (by simp [-List.map_take]) ?_
     simp (decide := true) only [TF, EV, q1, q2, q4, q5, ↓reduceIte, Int.reduceToNat]
     refine hK _ _ ?_; clear hK K
     refine WP.cond (b := _) rfl (fun q6 => ?_) (fun q6 => ?_)
     ·
      refine WP.sr [6] (by kernel_rfl) fun K hK => ?_
      simp (decide := true) only [TF, EV, q1, q2, q4, q5, q6, ↓reduceIte, Int.reduceToNat]
      refine hK _ _ ?_; clear hK K
      refine WP.ret ?_
      exact Ends.pure (.inr rfl) rfl (Le.of_eq (by simp [St.get, lk, W, Pr_prog, q1, q2, q4, q5, q6])) (by simp)
     ·
      have hin : inB f u t = true := by simpa using q6
      have hfin := gap_law (l := l) hz0 hz1 hin
      refine WP.skip ?_
      show WP _ _ _ _ _ _
      refine WP.sr [0, 2, 7, 10, 11] (by kernel_rfl) fun K hK => ?_
      simp (decide := true) only [TF, EV, q1, q2, q4, q5, q6, ↓reduceIte, Int.reduceToNat]
      refine hK _ _ ?_; clear hK K
      refine WP.seq ?_
      refine WP.sr [0, 2, 7, 10, 11, 91, 92] (by kernel_rfl) fun K hK => ?_
      simp (decide := true) only [TF, EV, q1, q2, q4, q5, q6, ↓reduceIte, Int.reduceToNat]
      refine hK _ _ ?_; clear hK K
      refine WP.block ?_
      refine WP.lp [0, 2, 7, 11, 91] (X := {k : Nat // k ≤ (gapsK l f u).length}) (fun x => match x with | ⟨(k), _⟩ => [(10, .bool (anyIn t ((gapsK l f u).take k))), (92, .int .i64 k)]) (fun x => match x with | ⟨(k), _⟩ => []) (fun x => match x with | ⟨(k), _⟩ => (gapsK l f u).length - k) (by simp (decide := true) only [W, ↓reduceIte, Int.reduceToNat]; rfl) ?_ ⟨(0), Nat.zero_le _⟩ ?_
      rotate_left
      · exact Weak.nil (by simp [St.get, lk, W, Le.refl, q1, q2, q4, q5, q6, anyIn]) (by simp [W])
      rintro ⟨k, hk⟩
      dsimp only
      simp only [List.cons_append, List.nil_append]
      refine WP.sr [0, 2, 7, 10, 11, 91, 92, 93] (by kernel_rfl) fun K hK => ?_
      simp (decide := true) only [TF, EV, q1, q2, q4, q5, q6, ↓reduceIte, Int.reduceToNat]
      refine hK _ _ ?_; clear hK K
      refine WP.seq ?_
      refine WP.cond (b := _) rfl (fun q7 => ?_) (fun q7 => ?_)
      ·
       have hlt := lt_of_q q7
       have hg : ((gapsK l f u).map Win.cs)[k]? = some [.int .i64 (gapsK l f u)[k].f, .int .i64 (gapsK l f u)[k].u] := getM hlt
       have hnf : (gapsK l f u).isEmpty = false := isE3 _ (by intro e; rw [e] at hlt; simp at hlt)
       have hnx := any_next t _ k hlt
       refine WP.skip ?_
       show WP _ _ _ _ _ _
       refine WP.seq ?_
       refine WP.block ?_
       refine WP.sr [0, 2, 7, 10, 11, 12, 91, 92] (by kernel_rfl) fun K hK => ?_
       simp (decide := true) only [TF, EV, q1, q2, q4, q5, q6, q7, hg, hnf, hnx, ↓reduceIte, Int.reduceToNat]
       refine hK _ _ ?_; clear hK K
       refine WP.region (by kernel_rfl) fun K hK => ?_
       refine runOps.take 2 fun J hJ => ?_
       simp (decide := true) only [TF, EV, q1, q2, q4, q5, q6, q7, hg, hnf, hnx, ↓reduceIte, Int.reduceToNat]
       refine hJ _ _ ?_; clear hJ J
       refine runOps.part 96 rfl (fun q8 => ?_) (fun q8 => ?_)
       ·
        simp (decide := true) only [TF, EV, q1, q2, q4, q5, q6, q7, hg, hnf, hnx, q8, ↓reduceIte, Int.reduceToNat]
        refine hK _ _ ?_; clear hK K
        show WP _ _ _ _ _ _
        refine WP.region (by kernel_rfl) fun K hK => ?_
        simp (decide := true) only [TF, EV, q1, q2, q4, q5, q6, q7, hg, hnf, hnx, q8, ↓reduceIte, Int.reduceToNat]
        refine hK _ _ ?_; clear hK K
        show ∃ y, _ ∧ Weak _ _ _
        refine ⟨⟨k + 1, ?_⟩, ?_, ?_⟩
        · omega
        · dsimp only; omega
        · exact Weak.nil (by simp [St.get, lk, W, Le.refl, q1, q2, q4, q5, q6, q7, hg, hnf, hnx, q8, wrapS hlt (show (gapsK l f u).length ≤ 140737488355328 by omega)]) (by simp [W])
       ·
        simp (decide := true) only [TF, EV, q1, q2, q4, q5, q6, q7, hg, hnf, hnx, q8, ↓reduceIte, Int.reduceToNat]
        refine CallK.pure (c_c_in _ _ _) rfl rfl (by simp [-List.map_take]) ?_
        simp (decide := true) only [TF, EV, q1, q2, q4, q5, q6, q7, hg, hnf, hnx, q8, ↓reduceIte, Int.reduceToNat]
        refine hK _ _ ?_; clear hK K
        show WP _ _ _ _ _ _
        refine WP.region (by kernel_rfl) fun K hK => ?_
        simp (decide := true) only [TF, EV, q1, q2, q4, q5, q6, q7, hg, hnf, hnx, q8, ↓reduceIte, Int.reduceToNat]
        refine hK _ _ ?_; clear hK K
        show ∃ y, _ ∧ Weak _ _ _
        refine ⟨⟨k + 1, ?_⟩, ?_, ?_⟩
        · omega
        · dsimp only; omega
        · exact Weak.nil (by simp [St.get, lk, W, Le.refl, q1, q2, q4, q5, q6, q7, hg, hnf, hnx, q8, wrapS hlt (show (gapsK l f u).length ≤ 140737488355328 by omega)]) (by simp [W])
      ·
       have hge := ge_of_q q7
       have hT1 : (gapsK l f u).take k = (gapsK l f u) := List.take_of_length_le hge
       rw [← hT1] at hfin
       refine WP.exit ?_
       show WP _ _ _ _ _ _
       refine WP.seq ?_
       refine WP.sr [0, 2, 10, 11, 106, 107] (by kernel_rfl) fun K hK => ?_
       simp (decide := true) only [TF, EV, q1, q2, q4, q5, q6, q7, ↓reduceIte, Int.reduceToNat]
       refine hK _ _ ?_; clear hK K
       refine WP.block ?_
       refine WP.lp [0, 2, 10, 106] (X := {k : Nat // k ≤ l.length}) (fun x => match x with | ⟨(k), _⟩ => [(11, .bool (anyIn t ((l.map Key.sw).take k))), (107, .int .i64 k)]) (fun x => match x with | ⟨(k), _⟩ => []) (fun x => match x with | ⟨(k), _⟩ => l.length - k) (by simp (decide := true) only [W, ↓reduceIte, Int.reduceToNat]; rfl) ?_ ⟨(0), Nat.zero_le _⟩ ?_
       rotate_left
       · exact Weak.nil (by simp [St.get, lk, W, Le.refl, q1, q2, q4, q5, q6, q7, anyIn]) (by simp [W])
       rintro ⟨k, hk⟩
       dsimp only
       simp only [List.cons_append, List.nil_append]
       refine WP.sr [0, 2, 10, 11, 106, 107, 108] (by kernel_rfl) fun K hK => ?_
       simp (decide := true) only [TF, EV, q1, q2, q4, q5, q6, q7, ↓reduceIte, Int.reduceToNat]
       refine hK _ _ ?_; clear hK K
       refine WP.seq ?_
       refine WP.cond (b := _) rfl (fun q9 => ?_) (fun q9 => ?_)
       ·
        have hlt := lt_of_q q9
        have hg : (l.map Key.cs)[k]? = some [.str l[k].id, .str l[k].sec, .int .i64 l[k].sf, .int .i64 l[k].su, .int .i64 l[k].af, .int .i64 l[k].au] := getM hlt
        have hnf := nl_false hnl hlt
        have hnx := any_next t (l.map Key.sw) k (by simpa using hlt)
        simp only [List.getElem_map, Key.sw] at hnx
        refine WP.skip ?_
        show WP _ _ _ _ _ _
        refine WP.seq ?_
        refine WP.block ?_
        refine WP.sr [0, 2, 10, 11, 13, 106, 107] (by kernel_rfl) fun K hK => ?_
        simp (decide := true) only [TF, EV, q1, q2, q4, q5, q6, q7, q9, hg, hnf, hnx, ↓reduceIte, Int.reduceToNat]
        refine hK _ _ ?_; clear hK K
        refine WP.region (by kernel_rfl) fun K hK => ?_
        refine runOps.take 2 fun J hJ => ?_
        simp (decide := true) only [TF, EV, q1, q2, q4, q5, q6, q7, q9, hg, hnf, hnx, ↓reduceIte, Int.reduceToNat]
        refine hJ _ _ ?_; clear hJ J
        refine runOps.part 111 rfl (fun q10 => ?_) (fun q10 => ?_)
        ·
         simp (decide := true) only [TF, EV, q1, q2, q4, q5, q6, q7, q9, hg, hnf, hnx, q10, ↓reduceIte, Int.reduceToNat]
         refine hK _ _ ?_; clear hK K
         show WP _ _ _ _ _ _
         refine WP.region (by kernel_rfl) fun K hK => ?_
         simp (decide := true) only [TF, EV, q1, q2, q4, q5, q6, q7, q9, hg, hnf, hnx, q10, ↓reduceIte, Int.reduceToNat]
         refine hK _ _ ?_; clear hK K
         show ∃ y, _ ∧ Weak _ _ _
         refine ⟨⟨k + 1, ?_⟩, ?_, ?_⟩
         · omega
         · dsimp only; omega
         · exact Weak.nil (by simp [St.get, lk, W, Le.refl, q1, q2, q4, q5, q6, q7, q9, hg, hnf, hnx, q10, wrapS hlt (show l.length ≤ 140737488355328 by omega)]) (by simp [W])
        ·
         simp (decide := true) only [TF, EV, q1, q2, q4, q5, q6, q7, q9, hg, hnf, hnx, q10, ↓reduceIte, Int.reduceToNat]
         refine CallK.pure (c_c_in _ _ _) rfl rfl (by simp [-List.map_take]) ?_
         simp (decide := true) only [TF, EV, q1, q2, q4, q5, q6, q7, q9, hg, hnf, hnx, q10, ↓reduceIte, Int.reduceToNat]
         refine hK _ _ ?_; clear hK K
         show WP _ _ _ _ _ _
         refine WP.region (by kernel_rfl) fun K hK => ?_
         simp (decide := true) only [TF, EV, q1, q2, q4, q5, q6, q7, q9, hg, hnf, hnx, q10, ↓reduceIte, Int.reduceToNat]
         refine hK _ _ ?_; clear hK K
         show ∃ y, _ ∧ Weak _ _ _
         refine ⟨⟨k + 1, ?_⟩, ?_, ?_⟩
         · omega
         · dsimp only; omega
         · exact Weak.nil (by simp [St.get, lk, W, Le.refl, q1, q2, q4, q5, q6, q7, q9, hg, hnf, hnx, q10, wrapS hlt (show l.length ≤ 140737488355328 by omega)]) (by simp [W])
       ·
        have hge := ge_of_q q9
        rw [← List.take_of_length_le (show (l.map Key.sw).length ≤ k by simpa using hge)] at hfin
        refine WP.exit ?_
        show WP _ _ _ _ _ _
        refine WP.sr [6] (by kernel_rfl) fun K hK => ?_
        simp (decide := true) only [TF, EV, q1, q2, q4, q5, q6, q7, q9, ↓reduceIte, Int.reduceToNat]
        refine hK _ _ ?_; clear hK K
        refine WP.ret ?_
        exact Ends.pure (.inr rfl) rfl (Le.of_eq (by simp (decide := true) only [St.get, lk, W, ↓reduceIte, Option.getD_some]; exact congrArg D.bool hfin)) (by simp)
end Go.Proofs
set_option linter.unusedVariables false
set_option maxRecDepth 100000
namespace Go.Proofs.YtabkoicelflhcaaGreatDoor.RwGaps
open Go Go.Id Go.Proofs Go.ChangeShapes Go.ChangeMaps Go.WideShapes Go.ChangeAt Go.RowKit Go.Proofs.YtabkoicelflhcaaGreatDoor.Rw
theorem contract (H : Type) (enc : TypeId × Value → H) (W : World) (base : Nat) (args : Array Value) (ds gs : List (DataW H)) (before : List MemPlace)
    (hval : ∀ (j : Nat) t v, Tryz.f9.params[j]? = some t → args[j]? = some v → Value.okWide Tryz.prog W .any base t v)
    (hW : DataW.Whole enc Tryz.prog Tryz.f9.params.toList Rows.keysGapsSpec.vars false W args.toList ds gs before) (hL : laidMetH Tryz.prog laidL W) (hS : W.ShapedOpen Tryz.prog) :
    Calls Tryz.prog 9 args W fun e W' => ∃ v, e = .returned v ∧ Rows.keysGapsSpec.post enc Tryz.prog Tryz.f9 false true false false W args v W' := by
  have hW' := hW
  obtain ⟨p, q, hA0, hV, rfl, hfz, hnd⟩ := hW
  have hA : DataW.TrodAll enc Tryz.prog W 0 (fun _ => true) true Tryz.f9.params.toList args.toList ds p := hA0
  rw [Tryz.params9] at hA hval
  obtain ⟨al⟩ := args
  dsimp only at hA
  obtain ⟨v0, _, d0, _, p_0, _, rfl, rfl, rfl, h0, hA⟩ := trodAll_cons hA
  obtain ⟨v1, _, d1, _, p_1, _, rfl, rfl, rfl, h1, hA⟩ := trodAll_cons hA
  obtain ⟨v2, _, d2, _, p_2, _, rfl, rfl, rfl, h2, hA⟩ := trodAll_cons hA
  obtain ⟨rfl, rfl, rfl⟩ := trodAll_nil hA
  obtain ⟨rfl, rfl⟩ := trodVars_none hV
  obtain ⟨l0, nl0, hn0, hnl0, r0⟩ := arg_keys (hval 0 22 v0 rfl rfl) h0
  obtain ⟨f1, u1, r1⟩ := arg_win (hval 1 29 v1 rfl rfl) h1
  obtain ⟨n2, r2⟩ := arg_int (hval 2 3 v2 rfl rfl) h2
  refine (CallP.run (c_l_gaps l0 nl0 hn0 hnl0 f1 u1 n2) W (polI_of hL hS) (heap_of hS) [v0, v1, v2] rfl (Rw.consR r0 (Rw.consR r1 (Rw.one r2)))).mono ?_
  rintro e W' ⟨v, rfl, hr, hb⟩
  cases hr
  exact ⟨_, rfl, post_all hW' rfl hb (of_decide_eq_true (by kernel_rfl)) (by kernel_rfl) rfl rfl rfl⟩
abbrev wit : Array Value := #[.slice none 0 0, .agg #[.int .i64 0, .int .i64 0], .int .i64 0]
theorem reads (os : Os) {H : Type} (enc : TypeId × Value → H) : (DataW.whole enc Tryz.prog (memW os wit) Tryz.f9.params.toList Rows.keysGapsSpec.vars false wit.toList 8).map (fun x => (x.1, x.2.1)) = some ([.nil, .agg [.lit (.int .i64 0), .lit (.int .i64 0)], .lit (.int .i64 0)], []) := by kernel_rfl
theorem lifted (os : Os) (started : os.Started) (H : Type) (enc : TypeId × Value → H) (F : Stop.Interp) :
    ReturnsInHanded {} Tryz.checked os 9 .any ((OpenSpec.ofChange Rows.keysGapsSpec).preRow enc Tryz.prog Tryz.f9 Rows.keysGapsRow.domain false Rows.keysGapsRow.laid) (((OpenSpec.ofChange Rows.keysGapsSpec).at F).post enc Tryz.prog Tryz.f9 false true false false) := by
  obtain ⟨⟨x1, x2, x3⟩, hx, hx1⟩ := Option.map_eq_some_iff.1 (reads os enc)
  simp only [Prod.mk.injEq] at hx1
  obtain ⟨rfl, rfl⟩ := hx1
  refine returnsInHanded_of_row (C := Tryz.checked) (s := OpenSpec.ofChange Rows.keysGapsSpec) own started (by kernel_rfl) Tryz.func9
    (witness_row_atRef (enc := enc) (C := Tryz.checked) false (laidWorld os) wit rfl (by kernel_rfl) (by kernel_rfl) (by kernel_rfl)
      (OpenSpec.preRow_of_cond 8 hx (by kernel_rfl) (fun k hk => by cases hk) (by kernel_rfl) (laid_met os _))) ?_
  intro W base args ds gs before hval hW _ _ _ hL hS _
  exact contract H enc W base args ds gs before hval hW hL hS
theorem said : Rows.KeysGapsSaid :=
  OpenClaim.holds_of_cond 9 Tryz.f9 rfl rfl rfl rfl rfl rfl rfl ⟨rfl, rfl, rfl, rfl, rfl⟩ rfl rfl rfl rfl rfl (by kernel_rfl) Tryz.func9 (by kernel_rfl)
    (of_decide_eq_true (by kernel_rfl)) (by unfold Func.isWrapper; first | (rw [if_pos (by decide +kernel)]; kernel_rfl) | (rw [if_neg (by decide +kernel)]; exact ⟨rfl, rfl⟩))
    (fun os started H enc _ F => by rw [OpenClaim.pre_eq_preRow]; exact lifted os started H enc F)
theorem plain (f : FuncId) (fn : Func) (hf : Tryz.pinned.checked.prog.funcNamed Rows.keysGapsRow.func = some f) (hfn : Tryz.pinned.checked.prog.funcs[f]? = some fn) :
    true = Tryz.pinned.checked.prog.looks [] ∧ ∀ (j : Nat) t, fn.params[j]? = some t → Tryz.pinned.checked.prog.wantsStandIn t = false := by
  obtain rfl : f = 9 := Option.some.inj ((show Tryz.prog.funcNamed Rows.keysGapsRow.func = some 9 by kernel_rfl).symm.trans hf) |>.symm
  obtain rfl : fn = Tryz.f9 := (Option.some.inj (Tryz.func9.symm.trans hfn)).symm
  refine ⟨by kernel_rfl, fun j t ht => ?_⟩
  have hall : (Tryz.f9.params.toList.all fun t => Tryz.prog.wantsStandIn t == false) = true := by kernel_rfl
  exact eq_of_beq (List.all_eq_true.1 hall t (by simpa using Array.mem_of_getElem? ht))
theorem card : Rows.KeysGapsCardSaid :=
  Claim7.holds_tied_plain_at .later [] _ _ _ _ said (fun _ h => by cases h) (by kernel_rfl) (fun _ h => by cases h) keysGaps_row_tie rfl ⟨rfl, rfl⟩ (by kernel_rfl) rfl plain (by kernel_rfl)
end Go.Proofs.YtabkoicelflhcaaGreatDoor.RwGaps
#print axioms Go.Proofs.YtabkoicelflhcaaGreatDoor.RwGaps.card
