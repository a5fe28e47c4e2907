import Derived.Test.YtabkoicelflhcaaGreatDoorG03
import Derived.Test.YtabkoicelflhcaaGreatDoorG07
import Derived.Lib.SplitLaws
import Derived.Lib.Join
import Derived.Lib.ItoaLen
import Derived.Shelf.SlSortCmp.WholeK
import Derived.Test.YtabkoicelflhcaaGreatDoorG04
import Derived.Test.YtabkoicelflhcaaGreatDoorG02
set_option linter.unusedVariables false
set_option linter.unusedSimpArgs false
set_option linter.unusedSimpArgs false
set_option linter.unusedVariables false
set_option maxRecDepth 10000
namespace Go.Proofs
open Go Go.Id
set_option maxHeartbeats 4000000
theorem c_clone_et : CallE Pr 45 [.slice 6 false [] none] [] (.slice 6 false [] (some 0)) [(0, .tip 31 6 0)] := by
 refine CallE.of_wp Tryz.func45 rfl (by kernel_rfl) Tryz.ntmps45 (by simp) ?_
 simp only [frameOf, Nat.reduceAdd, Nat.zero_add, List.map_cons, List.map_nil]
 refine WP.sr [0] (by kernel_rfl) fun K hK => ?_
 simp (decide := true) only [TF, ↓reduceIte, Int.reduceToNat]
 refine hK _ _ ?_; clear hK K
 refine WP.seq ?_
 refine WP.sr [0, 4] (by kernel_rfl) fun K hK => ?_
 simp (decide := true) only [TF, ↓reduceIte, Int.reduceToNat]
 refine hK _ _ ?_; clear hK K
 refine WP.cond (b := false) (by rfl) nofun (fun _ => ?_)
 refine WP.skip ?_
 show WP _ _ _ _ _ _
 refine WP.sr [2] (by kernel_rfl) fun K hK => ?_
 simp (decide := true) only [TF, ↓reduceIte, Int.reduceToNat]
 refine hK _ _ ?_; clear hK K
 refine WP.ret ?_
 refine Ends.imp (.inr rfl) rfl (Le.of_eq (by simp (decide := true) only [St.get, lk, W, ↓reduceIte])) ?_ ?_ ?_
 · simp [lk]
 · simp [St.get, lk, W, BClo, W]
 · simp [lk]
theorem c_rotate_e (l : List Key) (nl : Bool) (id sec : List UInt8) (now life grace : Int) (hn : l.length ≤ 1099511627776) (hnl : nl = true → l = []) (hl : ∀ k ∈ l, k.ok) (hid : id.length ≤ 1099511627776) (hsec : sec.length ≤ 1099511627776) (he : l = []) : CallP Pr 19 [.slice 6 nl (l.map Key.cs) none, .str id, .str sec, .int .i64 now, .int .i64 life, .int .i64 grace] ((rotD l id sec now life grace)) := by
 have hid47 : id.length ≤ 140737488355328 := by omega
 have hsec47 : sec.length ≤ 140737488355328 := by omega
 refine CallP.of_wp Tryz.func19 rfl (by kernel_rfl) Tryz.ntmps19 (by simp) ?_
 simp only [frameOf, Nat.reduceAdd, Nat.zero_add]
 refine WP.sr [0, 1, 2, 3, 4, 5] (by kernel_rfl) fun K hK => ?_
 simp (decide := true) only [TF, lim_lim, List.map_nil, List.nil_append, reduceCtorEq, and_false, List.isEmpty_cons, Bool.and_false, ↓reduceIte, Int.reduceToNat]
 refine hK _ _ ?_; clear hK K
 refine WP.sr [0, 1, 2, 3, 4, 5] (by kernel_rfl) fun K hK => ?_
 simp (decide := true) only [TF, lim_lim, List.map_nil, List.nil_append, reduceCtorEq, and_false, List.isEmpty_cons, Bool.and_false, ↓reduceIte, Int.reduceToNat]
 refine CallK.pure (c_k_limited _) rfl rfl (by simp [-List.map_take]) ?_
 simp (decide := true) only [TF, lim_lim, List.map_nil, List.nil_append, reduceCtorEq, and_false, List.isEmpty_cons, Bool.and_false, ↓reduceIte, Int.reduceToNat]
 refine CallK.pure (c_k_limited _) rfl rfl (by simp [-List.map_take]) ?_
 simp (decide := true) only [TF, lim_lim, List.map_nil, List.nil_append, reduceCtorEq, and_false, List.isEmpty_cons, Bool.and_false, ↓reduceIte, Int.reduceToNat]
 refine CallK.pure (c_k_limited _) rfl rfl (by simp [-List.map_take]) ?_
 simp (decide := true) only [TF, lim_lim, List.map_nil, List.nil_append, reduceCtorEq, and_false, List.isEmpty_cons, Bool.and_false, ↓reduceIte, Int.reduceToNat]
 refine hK _ _ ?_; clear hK K
 refine WP.sr [0, 1, 2, 3, 5, 14] (by kernel_rfl) fun K hK => ?_
 simp (decide := true) only [TF, lim_lim, List.map_nil, List.nil_append, reduceCtorEq, and_false, List.isEmpty_cons, Bool.and_false, ↓reduceIte, Int.reduceToNat]
 refine CallK.pure (c_clock_add _ _) rfl rfl (by simp [-List.map_take]) ?_
 simp (decide := true) only [TF, lim_lim, List.map_nil, List.nil_append, reduceCtorEq, and_false, List.isEmpty_cons, Bool.and_false, ↓reduceIte, Int.reduceToNat]
 refine hK _ _ ?_; clear hK K
 refine WP.sr [0, 1, 2, 3, 5, 14, 15] (by kernel_rfl) fun K hK => ?_
 simp (decide := true) only [TF, lim_lim, List.map_nil, List.nil_append, reduceCtorEq, and_false, List.isEmpty_cons, Bool.and_false, ↓reduceIte, Int.reduceToNat]
 refine CallK.pure (c_k_check l _ hn hnl hl) rfl rfl (by simp [-List.map_take]) ?_
 simp (decide := true) only [TF, lim_lim, List.map_nil, List.nil_append, reduceCtorEq, and_false, List.isEmpty_cons, Bool.and_false, ↓reduceIte, Int.reduceToNat]
 refine hK _ _ ?_; clear hK K
 refine WP.seq ?_
 refine WP.block ?_
 refine WP.sr [0, 1, 2, 3, 5, 14, 15, 30] (by kernel_rfl) fun K hK => ?_
 simp (decide := true) only [TF, lim_lim, List.map_nil, List.nil_append, reduceCtorEq, and_false, List.isEmpty_cons, Bool.and_false, ↓reduceIte, Int.reduceToNat]
 refine hK _ _ ?_; clear hK K
 refine WP.cond (b := _) rfl (fun q1 => ?_) (fun q1 => ?_)
 ·
  have hz := q1
  have hR := rotD_no grace _ (show rotE l id sec now life = checkK l by simp only [rotE, hz, if_true]) (by simpa using hz)
  refine WP.sr [12, 13] (by kernel_rfl) fun K hK => ?_
  simp (decide := true) only [TF, q1, hR, lim_lim, List.map_nil, List.nil_append, reduceCtorEq, and_false, List.isEmpty_cons, Bool.and_false, ↓reduceIte, Int.reduceToNat]
  refine hK _ _ ?_; clear hK K
  refine WP.ret ?_
  exact Ends.pure (d := .tup [_, _]) (.inr rfl) rfl ((by rw [hR]; simp (decide := true) only [mapN, List.isEmpty_cons, Bool.and_false, St.get, lk, W, Pr_prog, q1, hR, ↓reduceIte, Int.reduceToNat]; first | exact Le.nil2 | exact Le.fg _)) (by simp)
 ·
  have h0 := q1
  refine WP.sr [0, 1, 2, 3, 5, 14, 34] (by kernel_rfl) fun K hK => ?_
  simp (decide := true) only [TF, q1, lim_lim, List.map_nil, List.nil_append, reduceCtorEq, and_false, List.isEmpty_cons, Bool.and_false, ↓reduceIte, Int.reduceToNat]
  refine CallK.pure (c_word _ (by assumption)) rfl rfl (by simp [-List.map_take]) ?_
  simp (decide := true) only [TF, q1, lim_lim, List.map_nil, List.nil_append, reduceCtorEq, and_false, List.isEmpty_cons, Bool.and_false, ↓reduceIte, Int.reduceToNat]
  refine hK _ _ ?_; clear hK K
  refine WP.cond (b := _) rfl (fun q2 => ?_) (fun q2 => ?_)
  ·
   have hz := q2
   have hR := rotD_no grace 5 (show rotE l id sec now life = 5 by simp [rotE, h0, hz]) (by decide)
   refine WP.sr [12, 13] (by kernel_rfl) fun K hK => ?_
   simp (decide := true) only [TF, q1, q2, hR, lim_lim, List.map_nil, List.nil_append, reduceCtorEq, and_false, List.isEmpty_cons, Bool.and_false, ↓reduceIte, Int.reduceToNat]
   refine hK _ _ ?_; clear hK K
   refine WP.ret ?_
   exact Ends.pure (d := .tup [_, _]) (.inr rfl) rfl ((by rw [hR]; simp (decide := true) only [mapN, List.isEmpty_cons, Bool.and_false, St.get, lk, W, Pr_prog, q1, q2, hR, ↓reduceIte, Int.reduceToNat]; first | exact Le.nil2 | exact Le.fg _)) (by simp)
  ·
   have h1 := q2
   refine WP.sr [0, 1, 2, 3, 5, 14, 38] (by kernel_rfl) fun K hK => ?_
   simp (decide := true) only [TF, q1, q2, lim_lim, List.map_nil, List.nil_append, reduceCtorEq, and_false, List.isEmpty_cons, Bool.and_false, ↓reduceIte, Int.reduceToNat]
   refine CallK.pure (c_clean _ (by assumption)) rfl rfl (by simp [-List.map_take]) ?_
   simp (decide := true) only [TF, q1, q2, lim_lim, List.map_nil, List.nil_append, reduceCtorEq, and_false, List.isEmpty_cons, Bool.and_false, ↓reduceIte, Int.reduceToNat]
   refine hK _ _ ?_; clear hK K
   refine WP.cond (b := _) rfl (fun q3 => ?_) (fun q3 => ?_)
   ·
    have hz := q3
    have hR := rotD_no grace 4 (show rotE l id sec now life = 4 by simp [rotE, h0, h1, hz]) (by decide)
    refine WP.sr [12, 13] (by kernel_rfl) fun K hK => ?_
    simp (decide := true) only [TF, q1, q2, q3, hR, lim_lim, List.map_nil, List.nil_append, reduceCtorEq, and_false, List.isEmpty_cons, Bool.and_false, ↓reduceIte, Int.reduceToNat]
    refine hK _ _ ?_; clear hK K
    refine WP.ret ?_
    exact Ends.pure (d := .tup [_, _]) (.inr rfl) rfl ((by rw [hR]; simp (decide := true) only [mapN, List.isEmpty_cons, Bool.and_false, St.get, lk, W, Pr_prog, q1, q2, q3, hR, ↓reduceIte, Int.reduceToNat]; first | exact Le.nil2 | exact Le.fg _)) (by simp)
   ·
    have h2 := q3
    refine WP.sr [0, 1, 2, 3, 5, 14, 42] (by kernel_rfl) fun K hK => ?_
    simp (decide := true) only [TF, q1, q2, q3, lim_lim, List.map_nil, List.nil_append, reduceCtorEq, and_false, List.isEmpty_cons, Bool.and_false, ↓reduceIte, Int.reduceToNat]
    refine CallK.pure (c_find l _ id hn hnl) rfl rfl (by simp [-List.map_take]) ?_
    simp (decide := true) only [TF, q1, q2, q3, lim_lim, List.map_nil, List.nil_append, reduceCtorEq, and_false, List.isEmpty_cons, Bool.and_false, ↓reduceIte, Int.reduceToNat]
    refine hK _ _ ?_; clear hK K
    refine WP.cond (b := _) rfl (fun q4 => ?_) (fun q4 => ?_)
    ·
     have hJ := q4
     rw [ixP_any0] at hJ
     have hR := rotD_no grace 7 (show rotE l id sec now life = 7 by simp [rotE, h0, h1, h2, hJ]) (by decide)
     refine WP.sr [12, 13] (by kernel_rfl) fun K hK => ?_
     simp (decide := true) only [TF, q1, q2, q3, q4, hR, lim_lim, List.map_nil, List.nil_append, reduceCtorEq, and_false, List.isEmpty_cons, Bool.and_false, ↓reduceIte, Int.reduceToNat]
     refine hK _ _ ?_; clear hK K
     refine WP.ret ?_
     exact Ends.pure (d := .tup [_, _]) (.inr rfl) rfl ((by rw [hR]; simp (decide := true) only [mapN, List.isEmpty_cons, Bool.and_false, St.get, lk, W, Pr_prog, q1, q2, q3, q4, hR, ↓reduceIte, Int.reduceToNat]; first | exact Le.nil2 | exact Le.fg _)) (by simp)
    ·
     have hJ := q4
     rw [ixP_any0] at hJ
     refine WP.sr [0, 1, 2, 3, 5, 14, 47] (by kernel_rfl) fun K hK => ?_
     simp (decide := true) only [TF, q1, q2, q3, q4, lim_lim, List.map_nil, List.nil_append, reduceCtorEq, and_false, List.isEmpty_cons, Bool.and_false, ↓reduceIte, Int.reduceToNat]
     refine hK _ _ ?_; clear hK K
     refine WP.cond (b := _) rfl (fun q5 => ?_) (fun q5 => ?_)
     ·
      have hz := q5
      have hR := rotD_no grace 2 (show rotE l id sec now life = 2 by simp [rotE, h0, h1, h2, hJ, hz]) (by decide)
      refine WP.sr [12, 13] (by kernel_rfl) fun K hK => ?_
      simp (decide := true) only [TF, q1, q2, q3, q4, q5, hR, lim_lim, List.map_nil, List.nil_append, reduceCtorEq, and_false, List.isEmpty_cons, Bool.and_false, ↓reduceIte, Int.reduceToNat]
      refine hK _ _ ?_; clear hK K
      refine WP.ret ?_
      exact Ends.pure (d := .tup [_, _]) (.inr rfl) rfl ((by rw [hR]; simp (decide := true) only [mapN, List.isEmpty_cons, Bool.and_false, St.get, lk, W, Pr_prog, q1, q2, q3, q4, q5, hR, ↓reduceIte, Int.reduceToNat]; first | exact Le.nil2 | exact Le.fg _)) (by simp)
     ·
      have h3 := q5
      refine WP.sr [0, 1, 2, 3, 5, 14, 51] (by kernel_rfl) fun K hK => ?_
      simp (decide := true) only [TF, q1, q2, q3, q4, q5, lim_lim, List.map_nil, List.nil_append, reduceCtorEq, and_false, List.isEmpty_cons, Bool.and_false, ↓reduceIte, Int.reduceToNat]
      refine hK _ _ ?_; clear hK K
      refine WP.cond (b := _) rfl (fun q6 => ?_) (fun q6 => ?_)
      ·
       have hz := q6
       have hR := rotD_no grace 3 (show rotE l id sec now life = 3 by simp [rotE, h0, h1, h2, hJ, h3, hz]) (by decide)
       refine WP.sr [12, 13] (by kernel_rfl) fun K hK => ?_
       simp (decide := true) only [TF, q1, q2, q3, q4, q5, q6, hR, lim_lim, List.map_nil, List.nil_append, reduceCtorEq, and_false, List.isEmpty_cons, Bool.and_false, ↓reduceIte, Int.reduceToNat]
       refine hK _ _ ?_; clear hK K
       refine WP.ret ?_
       exact Ends.pure (d := .tup [_, _]) (.inr rfl) rfl ((by rw [hR]; simp (decide := true) only [mapN, List.isEmpty_cons, Bool.and_false, St.get, lk, W, Pr_prog, q1, q2, q3, q4, q5, q6, hR, ↓reduceIte, Int.reduceToNat]; first | exact Le.nil2 | exact Le.fg _)) (by simp)
      ·
       have hz := q6
       have hR := rotD_ok grace (show rotE l id sec now life = 0 by simp [rotE, h0, h1, h2, hJ, h3, hz])
       refine WP.skip ?_
       show WP _ _ _ _ _ _
       rcases nl with _ | _
       ·
        subst he
        simp only [List.map_nil]
        refine WP.sr [1, 2, 3, 5, 14, 16] (by kernel_rfl) fun K hK => ?_
        simp (decide := true) only [TF, q1, q2, q3, q4, q5, q6, hR, lim_lim, List.map_nil, List.nil_append, reduceCtorEq, and_false, List.isEmpty_cons, Bool.and_false, ↓reduceIte, Int.reduceToNat]
        refine CallK.imp (c_clone_et) rfl rfl (by simp [lk, BClo]) (by simp [lk]) (by simp [lk]) ?_
        simp (decide := true) only [TF, q1, q2, q3, q4, q5, q6, hR, lim_lim, List.map_nil, List.nil_append, reduceCtorEq, and_false, List.isEmpty_cons, Bool.and_false, ↓reduceIte, Int.reduceToNat]
        refine hK _ _ ?_; clear hK K
        refine WP.seq ?_
        refine WP.sr [1, 2, 3, 5, 14, 16, 58, 59] (by kernel_rfl) fun K hK => ?_
        simp (decide := true) only [TF, q1, q2, q3, q4, q5, q6, hR, lim_lim, List.map_nil, List.nil_append, reduceCtorEq, and_false, List.isEmpty_cons, Bool.and_false, ↓reduceIte, Int.reduceToNat]
        refine hK _ _ ?_; clear hK K
        refine WP.block ?_
        refine WP.lp [1, 2, 3, 5, 14, 16, 58] (X := {k : Nat // k = 0}) (fun x => match x with | ⟨(k), _⟩ => [(59, .int .i64 k)]) (fun x => match x with | ⟨(k), _⟩ => [(0, .tip 31 6 0)]) (fun x => match x with | ⟨(k), _⟩ => 1) (by simp (decide := true) only [W, ↓reduceIte, Int.reduceToNat]; rfl) ?_ ⟨(0), rfl⟩ ?_
        rotate_left
        · exact Weak.store (by simp [St.get, lk, W, Le.refl, q1, q2, q3, q4, q5, q6, hR]) (by simp [lk, W, q1, q2, q3, q4, q5, q6, hR]) (by simp [lk, W]) (by simp [BClo, lk]) (by simp [lk])
        rintro ⟨k, hk⟩
        dsimp only
        simp only [List.cons_append, List.nil_append]
        subst hk
        refine WP.sr [1, 2, 3, 5, 14, 16, 58, 59, 60] (by kernel_rfl) fun K hK => ?_
        simp (decide := true) only [TF, q1, q2, q3, q4, q5, q6, hR, lim_lim, List.map_nil, List.nil_append, reduceCtorEq, and_false, List.isEmpty_cons, Bool.and_false, ↓reduceIte, Int.reduceToNat]
        refine hK _ _ ?_; clear hK K
        refine WP.seq ?_
        refine WP.cond (b := _) rfl (fun q7 => ?_) (fun q7 => ?_)
        ·
         exact absurd q7 (by simp)
        ·
         refine WP.exit ?_
         show WP _ _ _ _ _ _
         refine WP.sr [12, 13] (by kernel_rfl) fun K hK => ?_
         simp (decide := true) only [TF, q1, q2, q3, q4, q5, q6, hR, q7, lim_lim, List.map_nil, List.nil_append, reduceCtorEq, and_false, List.isEmpty_cons, Bool.and_false, ↓reduceIte, Int.reduceToNat]
         refine CallK.pure (c_clock_add _ _) rfl rfl (by simp [-List.map_take]) ?_
         simp (decide := true) only [TF, q1, q2, q3, q4, q5, q6, hR, q7, lim_lim, List.map_nil, List.nil_append, reduceCtorEq, and_false, List.isEmpty_cons, Bool.and_false, ↓reduceIte, Int.reduceToNat]
         refine hK _ _ ?_; clear hK K
         refine WP.ret ?_
         exact Ends.pure (d := .tup [_, _]) (.inr rfl) rfl ((by rw [hR]; simp (decide := true) only [mapN, List.isEmpty_cons, Bool.and_false, St.get, lk, W, Pr_prog, q1, q2, q3, q4, q5, q6, hR, q7, ↓reduceIte, Int.reduceToNat]; first | exact Le.nil2 | exact Le.fg _)) (by simp)
       ·
        subst he
        simp only [List.map_nil]
        refine WP.sr [1, 2, 3, 5, 14, 16] (by kernel_rfl) fun K hK => ?_
        simp (decide := true) only [TF, q1, q2, q3, q4, q5, q6, hR, lim_lim, List.map_nil, List.nil_append, reduceCtorEq, and_false, List.isEmpty_cons, Bool.and_false, ↓reduceIte, Int.reduceToNat]
        refine CallK.pure (c_clone_e true) rfl rfl (by simp [-List.map_take]) ?_
        simp (decide := true) only [TF, q1, q2, q3, q4, q5, q6, hR, lim_lim, List.map_nil, List.nil_append, reduceCtorEq, and_false, List.isEmpty_cons, Bool.and_false, ↓reduceIte, Int.reduceToNat]
        refine hK _ _ ?_; clear hK K
        refine WP.seq ?_
        refine WP.sr [1, 2, 3, 5, 14, 16, 58, 59] (by kernel_rfl) fun K hK => ?_
        simp (decide := true) only [TF, q1, q2, q3, q4, q5, q6, hR, lim_lim, List.map_nil, List.nil_append, reduceCtorEq, and_false, List.isEmpty_cons, Bool.and_false, ↓reduceIte, Int.reduceToNat]
        refine hK _ _ ?_; clear hK K
        refine WP.block ?_
        refine WP.lp [1, 2, 3, 5, 14, 16, 58] (X := {k : Nat // k = 0}) (fun x => match x with | ⟨(k), _⟩ => [(59, .int .i64 k)]) (fun x => match x with | ⟨(k), _⟩ => []) (fun x => match x with | ⟨(k), _⟩ => 1) (by simp (decide := true) only [W, ↓reduceIte, Int.reduceToNat]; rfl) ?_ ⟨(0), rfl⟩ ?_
        rotate_left
        · exact Weak.store (by simp [St.get, lk, W, Le.refl, q1, q2, q3, q4, q5, q6, hR]) (by simp [lk, W, q1, q2, q3, q4, q5, q6, hR]) (by simp [lk, W]) (by simp [BClo, lk]) (by simp [lk])
        rintro ⟨k, hk⟩
        dsimp only
        simp only [List.cons_append, List.nil_append]
        subst hk
        refine WP.sr [1, 2, 3, 5, 14, 16, 58, 59, 60] (by kernel_rfl) fun K hK => ?_
        simp (decide := true) only [TF, q1, q2, q3, q4, q5, q6, hR, lim_lim, List.map_nil, List.nil_append, reduceCtorEq, and_false, List.isEmpty_cons, Bool.and_false, ↓reduceIte, Int.reduceToNat]
        refine hK _ _ ?_; clear hK K
        refine WP.seq ?_
        refine WP.cond (b := _) rfl (fun q8 => ?_) (fun q8 => ?_)
        ·
         exact absurd q8 (by simp)
        ·
         refine WP.exit ?_
         show WP _ _ _ _ _ _
         refine WP.sr [12, 13] (by kernel_rfl) fun K hK => ?_
         simp (decide := true) only [TF, q1, q2, q3, q4, q5, q6, hR, q8, lim_lim, List.map_nil, List.nil_append, reduceCtorEq, and_false, List.isEmpty_cons, Bool.and_false, ↓reduceIte, Int.reduceToNat]
         refine CallK.pure (c_clock_add _ _) rfl rfl (by simp [-List.map_take]) ?_
         simp (decide := true) only [TF, q1, q2, q3, q4, q5, q6, hR, q8, lim_lim, List.map_nil, List.nil_append, reduceCtorEq, and_false, List.isEmpty_cons, Bool.and_false, ↓reduceIte, Int.reduceToNat]
         refine hK _ _ ?_; clear hK K
         refine WP.ret ?_
         exact Ends.pure (d := .tup [_, _]) (.inr rfl) rfl ((by rw [hR]; simp (decide := true) only [mapN, List.isEmpty_cons, Bool.and_false, St.get, lk, W, Pr_prog, q1, q2, q3, q4, q5, q6, hR, q8, ↓reduceIte, Int.reduceToNat]; first | exact Le.nil2 | exact Le.fg _)) (by simp)
theorem c_rotate_n (l : List Key) (nl : Bool) (id sec : List UInt8) (now life grace : Int) (hn : l.length ≤ 1099511627776) (hnl : nl = true → l = []) (hl : ∀ k ∈ l, k.ok) (hid : id.length ≤ 1099511627776) (hsec : sec.length ≤ 1099511627776) (hne : l ≠ []) : CallP Pr 19 [.slice 6 nl (l.map Key.cs) none, .str id, .str sec, .int .i64 now, .int .i64 life, .int .i64 grace] ((rotD l id sec now life grace)) := by
 have hid47 : id.length ≤ 140737488355328 := by omega
 have hsec47 : sec.length ≤ 140737488355328 := by omega
 have hnf : nl = false := by cases nl with | false => rfl | true => exact absurd (hnl rfl) hne
 subst hnf
 have hnf : (false : Bool) = false := rfl
 refine CallP.of_wp Tryz.func19 rfl (by kernel_rfl) Tryz.ntmps19 (by simp) ?_
 simp only [frameOf, Nat.reduceAdd, Nat.zero_add]
 refine WP.sr [0, 1, 2, 3, 4, 5] (by kernel_rfl) fun K hK => ?_
 simp (decide := true) only [TF, lim_lim, ↓reduceIte, Int.reduceToNat]
 refine hK _ _ ?_; clear hK K
 refine WP.sr [0, 1, 2, 3, 4, 5] (by kernel_rfl) fun K hK => ?_
 simp (decide := true) only [TF, lim_lim, ↓reduceIte, Int.reduceToNat]
 refine CallK.pure (c_k_limited _) rfl rfl (by simp [-List.map_take]) ?_
 simp (decide := true) only [TF, lim_lim, ↓reduceIte, Int.reduceToNat]
 refine CallK.pure (c_k_limited _) rfl rfl (by simp [-List.map_take]) ?_
 simp (decide := true) only [TF, lim_lim, ↓reduceIte, Int.reduceToNat]
 refine CallK.pure (c_k_limited _) rfl rfl (by simp [-List.map_take]) ?_
 simp (decide := true) only [TF, lim_lim, ↓reduceIte, Int.reduceToNat]
 refine hK _ _ ?_; clear hK K
 refine WP.sr [0, 1, 2, 3, 5, 14] (by kernel_rfl) fun K hK => ?_
 simp (decide := true) only [TF, lim_lim, ↓reduceIte, Int.reduceToNat]
 refine CallK.pure (c_clock_add _ _) rfl rfl (by simp [-List.map_take]) ?_
 simp (decide := true) only [TF, lim_lim, ↓reduceIte, Int.reduceToNat]
 refine hK _ _ ?_; clear hK K
 refine WP.sr [0, 1, 2, 3, 5, 14, 15] (by kernel_rfl) fun K hK => ?_
 simp (decide := true) only [TF, lim_lim, ↓reduceIte, Int.reduceToNat]
 refine CallK.pure (c_k_check l _ hn hnl hl) rfl rfl (by simp [-List.map_take]) ?_
 simp (decide := true) only [TF, lim_lim, ↓reduceIte, Int.reduceToNat]
 refine hK _ _ ?_; clear hK K
 refine WP.seq ?_
 refine WP.block ?_
 refine WP.sr [0, 1, 2, 3, 5, 14, 15, 30] (by kernel_rfl) fun K hK => ?_
 simp (decide := true) only [TF, lim_lim, ↓reduceIte, Int.reduceToNat]
 refine hK _ _ ?_; clear hK K
 refine WP.cond (b := _) rfl (fun q1 => ?_) (fun q1 => ?_)
 ·
  have hz := q1
  have hR := rotD_no grace _ (show rotE l id sec now life = checkK l by simp only [rotE, hz, if_true]) (by simpa using hz)
  refine WP.sr [12, 13] (by kernel_rfl) fun K hK => ?_
  simp (decide := true) only [TF, q1, hR, lim_lim, ↓reduceIte, Int.reduceToNat]
  refine hK _ _ ?_; clear hK K
  refine WP.ret ?_
  exact Ends.pure (d := .tup [_, _]) (.inr rfl) rfl ((by rw [hR]; simp (decide := true) only [mapN, List.isEmpty_cons, Bool.and_false, St.get, lk, W, Pr_prog, q1, hR, ↓reduceIte, Int.reduceToNat]; first | exact Le.nil2 | exact Le.fg _)) (by simp)
 ·
  have h0 := q1
  refine WP.sr [0, 1, 2, 3, 5, 14, 34] (by kernel_rfl) fun K hK => ?_
  simp (decide := true) only [TF, q1, lim_lim, ↓reduceIte, Int.reduceToNat]
  refine CallK.pure (c_word _ (by assumption)) rfl rfl (by simp [-List.map_take]) ?_
  simp (decide := true) only [TF, q1, lim_lim, ↓reduceIte, Int.reduceToNat]
  refine hK _ _ ?_; clear hK K
  refine WP.cond (b := _) rfl (fun q2 => ?_) (fun q2 => ?_)
  ·
   have hz := q2
   have hR := rotD_no grace 5 (show rotE l id sec now life = 5 by simp [rotE, h0, hz]) (by decide)
   refine WP.sr [12, 13] (by kernel_rfl) fun K hK => ?_
   simp (decide := true) only [TF, q1, q2, hR, lim_lim, ↓reduceIte, Int.reduceToNat]
   refine hK _ _ ?_; clear hK K
   refine WP.ret ?_
   exact Ends.pure (d := .tup [_, _]) (.inr rfl) rfl ((by rw [hR]; simp (decide := true) only [mapN, List.isEmpty_cons, Bool.and_false, St.get, lk, W, Pr_prog, q1, q2, hR, ↓reduceIte, Int.reduceToNat]; first | exact Le.nil2 | exact Le.fg _)) (by simp)
  ·
   have h1 := q2
   refine WP.sr [0, 1, 2, 3, 5, 14, 38] (by kernel_rfl) fun K hK => ?_
   simp (decide := true) only [TF, q1, q2, lim_lim, ↓reduceIte, Int.reduceToNat]
   refine CallK.pure (c_clean _ (by assumption)) rfl rfl (by simp [-List.map_take]) ?_
   simp (decide := true) only [TF, q1, q2, lim_lim, ↓reduceIte, Int.reduceToNat]
   refine hK _ _ ?_; clear hK K
   refine WP.cond (b := _) rfl (fun q3 => ?_) (fun q3 => ?_)
   ·
    have hz := q3
    have hR := rotD_no grace 4 (show rotE l id sec now life = 4 by simp [rotE, h0, h1, hz]) (by decide)
    refine WP.sr [12, 13] (by kernel_rfl) fun K hK => ?_
    simp (decide := true) only [TF, q1, q2, q3, hR, lim_lim, ↓reduceIte, Int.reduceToNat]
    refine hK _ _ ?_; clear hK K
    refine WP.ret ?_
    exact Ends.pure (d := .tup [_, _]) (.inr rfl) rfl ((by rw [hR]; simp (decide := true) only [mapN, List.isEmpty_cons, Bool.and_false, St.get, lk, W, Pr_prog, q1, q2, q3, hR, ↓reduceIte, Int.reduceToNat]; first | exact Le.nil2 | exact Le.fg _)) (by simp)
   ·
    have h2 := q3
    refine WP.sr [0, 1, 2, 3, 5, 14, 42] (by kernel_rfl) fun K hK => ?_
    simp (decide := true) only [TF, q1, q2, q3, lim_lim, ↓reduceIte, Int.reduceToNat]
    refine CallK.pure (c_find l _ id hn hnl) rfl rfl (by simp [-List.map_take]) ?_
    simp (decide := true) only [TF, q1, q2, q3, lim_lim, ↓reduceIte, Int.reduceToNat]
    refine hK _ _ ?_; clear hK K
    refine WP.cond (b := _) rfl (fun q4 => ?_) (fun q4 => ?_)
    ·
     have hJ := q4
     rw [ixP_any0] at hJ
     have hR := rotD_no grace 7 (show rotE l id sec now life = 7 by simp [rotE, h0, h1, h2, hJ]) (by decide)
     refine WP.sr [12, 13] (by kernel_rfl) fun K hK => ?_
     simp (decide := true) only [TF, q1, q2, q3, q4, hR, lim_lim, ↓reduceIte, Int.reduceToNat]
     refine hK _ _ ?_; clear hK K
     refine WP.ret ?_
     exact Ends.pure (d := .tup [_, _]) (.inr rfl) rfl ((by rw [hR]; simp (decide := true) only [mapN, List.isEmpty_cons, Bool.and_false, St.get, lk, W, Pr_prog, q1, q2, q3, q4, hR, ↓reduceIte, Int.reduceToNat]; first | exact Le.nil2 | exact Le.fg _)) (by simp)
    ·
     have hJ := q4
     rw [ixP_any0] at hJ
     refine WP.sr [0, 1, 2, 3, 5, 14, 47] (by kernel_rfl) fun K hK => ?_
     simp (decide := true) only [TF, q1, q2, q3, q4, lim_lim, ↓reduceIte, Int.reduceToNat]
     refine hK _ _ ?_; clear hK K
     refine WP.cond (b := _) rfl (fun q5 => ?_) (fun q5 => ?_)
     ·
      have hz := q5
      have hR := rotD_no grace 2 (show rotE l id sec now life = 2 by simp [rotE, h0, h1, h2, hJ, hz]) (by decide)
      refine WP.sr [12, 13] (by kernel_rfl) fun K hK => ?_
      simp (decide := true) only [TF, q1, q2, q3, q4, q5, hR, lim_lim, ↓reduceIte, Int.reduceToNat]
      refine hK _ _ ?_; clear hK K
      refine WP.ret ?_
      exact Ends.pure (d := .tup [_, _]) (.inr rfl) rfl ((by rw [hR]; simp (decide := true) only [mapN, List.isEmpty_cons, Bool.and_false, St.get, lk, W, Pr_prog, q1, q2, q3, q4, q5, hR, ↓reduceIte, Int.reduceToNat]; first | exact Le.nil2 | exact Le.fg _)) (by simp)
     ·
      have h3 := q5
      refine WP.sr [0, 1, 2, 3, 5, 14, 51] (by kernel_rfl) fun K hK => ?_
      simp (decide := true) only [TF, q1, q2, q3, q4, q5, lim_lim, ↓reduceIte, Int.reduceToNat]
      refine hK _ _ ?_; clear hK K
      refine WP.cond (b := _) rfl (fun q6 => ?_) (fun q6 => ?_)
      ·
       have hz := q6
       have hR := rotD_no grace 3 (show rotE l id sec now life = 3 by simp [rotE, h0, h1, h2, hJ, h3, hz]) (by decide)
       refine WP.sr [12, 13] (by kernel_rfl) fun K hK => ?_
       simp (decide := true) only [TF, q1, q2, q3, q4, q5, q6, hR, lim_lim, ↓reduceIte, Int.reduceToNat]
       refine hK _ _ ?_; clear hK K
       refine WP.ret ?_
       exact Ends.pure (d := .tup [_, _]) (.inr rfl) rfl ((by rw [hR]; simp (decide := true) only [mapN, List.isEmpty_cons, Bool.and_false, St.get, lk, W, Pr_prog, q1, q2, q3, q4, q5, q6, hR, ↓reduceIte, Int.reduceToNat]; first | exact Le.nil2 | exact Le.fg _)) (by simp)
      ·
       have hz := q6
       have hR := rotD_ok grace (show rotE l id sec now life = 0 by simp [rotE, h0, h1, h2, hJ, h3, hz])
       refine WP.skip ?_
       show WP _ _ _ _ _ _
       refine WP.sr [1, 2, 3, 5, 14, 16] (by kernel_rfl) fun K hK => ?_
       simp (decide := true) only [TF, q1, q2, q3, q4, q5, q6, hR, lim_lim, ↓reduceIte, Int.reduceToNat]
       refine CallK.imp (c_clone_at 0 l hne hn) rfl rfl (by simp [lk, BClo]) (by simp [lk]) (by simp [lk]) ?_
       simp (decide := true) only [TF, q1, q2, q3, q4, q5, q6, hR, lim_lim, ↓reduceIte, Int.reduceToNat]
       refine hK _ _ ?_; clear hK K
       refine WP.seq ?_
       refine WP.sr [1, 2, 3, 5, 14, 16, 58, 59] (by kernel_rfl) fun K hK => ?_
       simp (decide := true) only [TF, q1, q2, q3, q4, q5, q6, hR, lim_lim, ↓reduceIte, Int.reduceToNat]
       refine hK _ _ ?_; clear hK K
       refine WP.meetQ ⟨[(16, .slice 6 false ((l.map (cutK (limB now))).map Key.cs) (some 0)), (14, .int .i64 (limB (limB now + limB life))), (5, .int .i64 (limB grace)), (3, .int .i64 (limB now)), (1, .str id), (2, .str sec)], [(0, .tip 31 6 l.length)]⟩ ?_ ?_
       ·
        refine WP.block ?_
        refine WP.lp [1, 2, 3, 5, 14, 16, 58] (X := {k : Nat // k ≤ l.length}) (fun x => match x with | ⟨(k), _⟩ => [(59, .int .i64 k)]) (fun x => match x with | ⟨(k), _⟩ => [(0, .arr 31 (flatK (rtM (limB now) l k)))]) (fun x => match x with | ⟨(k), _⟩ => l.length - k) (by simp (decide := true) only [W, ↓reduceIte, Int.reduceToNat]; rfl) ?_ ⟨(0), Nat.zero_le _⟩ ?_
        rotate_left
        · exact Weak.store (by simp [St.get, lk, W, Le.refl, q1, q2, q3, q4, q5, q6, hR, rt_0]) (by simp [lk, W, q1, q2, q3, q4, q5, q6, hR, rt_0]) (by simp [lk, W]) (by simp [BClo, lk]) (by simp [lk])
        rintro ⟨k, hk⟩
        dsimp only
        simp only [List.cons_append, List.nil_append]
        refine WP.sr [1, 2, 3, 5, 14, 16, 58, 59, 60] (by kernel_rfl) fun K hK => ?_
        simp (decide := true) only [TF, q1, q2, q3, q4, q5, q6, hR, lim_lim, ↓reduceIte, Int.reduceToNat]
        refine hK _ _ ?_; clear hK K
        refine WP.seq ?_
        refine WP.cond (b := _) rfl (fun q7 => ?_) (fun q7 => ?_)
        ·
         have hlt := lt_of_q q7
         have hg2 := rt_g2 (limB now) l k hlt
         have hg3 := rt_g3 (limB now) l k hlt
         have hput := rt_put2 (limB now) l k hlt
         have hroom := rt_room (limB now) l k hlt
         refine WP.skip ?_
         show WP _ _ _ _ _ _
         refine WP.seq ?_
         refine WP.block ?_
         refine WP.sr [1, 2, 3, 5, 14, 16, 17, 58, 59] (by kernel_rfl) fun K hK => ?_
         simp (decide := true) only [TF, q1, q2, q3, q4, q5, q6, hR, q7, hg2, hg3, hlt, hroom, lim_lim, ↓reduceIte, Int.reduceToNat]
         refine hK _ _ ?_; clear hK K
         refine WP.sr [1, 2, 3, 5, 14, 16, 18, 58, 59] (by kernel_rfl) fun K hK => ?_
         simp (decide := true) only [TF, q1, q2, q3, q4, q5, q6, hR, q7, hg2, hg3, hlt, hroom, lim_lim, ↓reduceIte, Int.reduceToNat]
         refine hK _ _ ?_; clear hK K
         refine WP.drawn (by kernel_rfl) (by kernel_rfl) fun K hK => ?_
         simp (decide := true) only [TF, q1, q2, q3, q4, q5, q6, hR, q7, hg2, hg3, hlt, hroom, lim_lim, ↓reduceIte, Int.reduceToNat]
         refine hK _ _ (by kernel_rfl) ?_
         clear hK K
         show WP _ _ _ _ _ _
         refine WP.region (by kernel_rfl) fun K hK => ?_
         simp (decide := true) only [TF, q1, q2, q3, q4, q5, q6, hR, q7, hg2, hg3, hlt, hroom, lim_lim, ↓reduceIte, Int.reduceToNat]
         refine hK _ _ ?_; clear hK K
         show ∃ y, _ ∧ Weak _ _ _
         refine ⟨⟨k + 1, ?_⟩, ?_, ?_⟩
         · omega
         · dsimp only; omega
         · exact Weak.store (by simp [St.get, lk, W, Le.refl, q1, q2, q3, q4, q5, q6, hR, q7, hg2, hg3, hlt, hroom, hput, wrapS hlt (show l.length ≤ 140737488355328 by omega)]) (by simp [lk, W, q1, q2, q3, q4, q5, q6, hR, q7, hg2, hg3, hlt, hroom, hput, wrapS hlt (show l.length ≤ 140737488355328 by omega)]) (by simp [lk, W]) (by simp [BClo, lk]) (by simp [lk])
        ·
         have hge := ge_of_q q7
         have hend := rt_n (limB now) l k hge
         refine WP.exit ?_
         show Weak _ _ _
         refine Weak.trans (Weak.keep [1, 2, 3, 5, 14, 16]) ?_
         simp only [keep, ins, W, ↓reduceIte, Nat.reduceEqDiff]
         exact Weak.arrTip 0 31 6 ((l.map (cutK (limB now))).map Key.cs) 16 (by simp [St.get, lk, W]) (by simp [lk, W, hend, flatK]) (key_len _) (by simp) (by simp (decide := true) [ArF, ArD, -List.map_map, q1, q2, q3, q4, q5, q6, hR, q7]) (fun x hx => (clo_key _).2 trivial x hx) (by intro i hi; by_cases h0 : i = 0 <;> simp_all [lk]) (by simp [lk]) (by simp [BClo])
       ·
        refine WP.sr [12, 13] (by kernel_rfl) fun K hK => ?_
        simp (decide := true) only [TF, q1, q2, q3, q4, q5, q6, hR, lim_lim, ↓reduceIte, Int.reduceToNat]
        refine CallK.pure (c_clock_add _ _) rfl rfl (by simp [-List.map_take]) ?_
        simp (decide := true) only [TF, q1, q2, q3, q4, q5, q6, hR, lim_lim, ↓reduceIte, Int.reduceToNat]
        refine ⟨⟨by simp only [List.length_append, List.length_map, List.length_cons, List.length_nil]; omega, by simp only [List.length_append, List.length_map, List.length_cons, List.length_nil]; omega⟩, ?_⟩
        refine hK _ _ ?_; clear hK K
        refine WP.ret ?_
        exact Ends.pure (d := .tup [_, _]) (.inr rfl) rfl ((by rw [hR]; simp (decide := true) only [mapN, List.isEmpty_cons, Bool.and_false, St.get, lk, W, Pr_prog, q1, q2, q3, q4, q5, q6, hR, ↓reduceIte, Int.reduceToNat]; first | exact Le.nil2 | exact Le.fg _)) (by simp)
end Go.Proofs

/-
  Plain: the text form of keys. Conditions: as each theorem says.
-/
set_option linter.unusedSimpArgs false
set_option linter.unusedVariables false
namespace Go.Proofs
open Go Go.Id
theorem c_rotate (l : List Key) (nl : Bool) (id sec : List UInt8) (now life grace : Int) (hn : l.length ≤ 1099511627776) (hnl : nl = true → l = []) (hl : ∀ k ∈ l, k.ok) (hid : id.length ≤ 1099511627776) (hsec : sec.length ≤ 1099511627776) :
    CallP Pr 19 [.slice 6 nl (l.map Key.cs) none, .str id, .str sec, .int .i64 now, .int .i64 life, .int .i64 grace] (rotD l id sec now life grace) := by
  by_cases h : l = []
  · exact c_rotate_e l nl id sec now life grace hn hnl hl hid hsec h
  · exact c_rotate_n l nl id sec now life grace hn hnl hl hid hsec h
abbrev Wds := List (List UInt8)
def cutA (c : UInt8) (acc : List UInt8) : List UInt8 → Wds
  | [] => [acc]
  | x :: t => if ((x.toNat : Int) == (c.toNat : Int)) = true then acc :: cutA c [] t else cutA c (acc ++ [x]) t
theorem u8_beq (x c : UInt8) : ((x.toNat : Int) == (c.toNat : Int)) = (x == c) := by
  rw [Bool.eq_iff_iff]
  simp only [beq_iff_eq]
  exact ⟨fun e => UInt8.toNat_inj.1 (by omega), fun e => by rw [e]⟩
theorem cut_index (c : UInt8) : ∀ (s : List UInt8), (Lib.index s [c] = -1 → ∀ acc, cutA c acc s = [acc ++ s]) ∧ (∀ i : Nat, Lib.index s [c] = i → ∀ acc, cutA c acc s = (acc ++ s.take i) :: cutA c [] (s.drop (i + 1)))
  | [] => by
    refine ⟨fun _ acc => by simp [cutA], fun i h => ?_⟩
    simp [Lib.index] at h
  | x :: t => by
    obtain ⟨h1, h2⟩ := cut_index c t
    have hg := Lib.index_ge t [c]
    have e : Lib.index (x :: t) [c] = if (c == x) = true then 0 else if Lib.index t [c] == -1 then -1 else Lib.index t [c] + 1 := by
      rw [Lib.index]; simp [List.isPrefixOf]
    by_cases hx : x = c
    · subst hx
      rw [e]
      refine ⟨fun h => by simp at h, fun i h acc => ?_⟩
      simp at h
      obtain rfl : i = 0 := by omega
      simp [cutA]
    · have hcx : (c == x) = false := by simpa using fun q => hx q.symm
      have hxc : ((x.toNat : Int) == (c.toNat : Int)) = false := by rw [u8_beq]; simpa using hx
      rw [e, hcx]
      simp only [Bool.false_eq_true, if_false]
      by_cases hm : Lib.index t [c] = -1
      · simp only [hm, beq_self_eq_true, if_true]
        refine ⟨fun _ acc => ?_, fun i h => by omega⟩
        rw [cutA, hxc]; simp only [Bool.false_eq_true, if_false]
        rw [h1 hm]; simp
      · have hm' : (Lib.index t [c] == -1) = false := by simpa using hm
        rw [hm']
        simp only [Bool.false_eq_true, if_false]
        refine ⟨fun h => by omega, fun i h acc => ?_⟩
        obtain ⟨j, rfl⟩ : ∃ j, i = j + 1 := ⟨i - 1, by omega⟩
        rw [cutA, hxc]; simp only [Bool.false_eq_true, if_false]
        rw [h2 j (by omega)]; simp
theorem splitK_cut (c : UInt8) : ∀ (k : Nat) (s : List UInt8), Lib.count s [c] = k → Lib.splitK [c] 0 k s = cutA c [] s
  | 0, s, h => by
    rcases Lib.index_spec s [c] with ⟨h1, _⟩ | ⟨i, h1, _⟩
    · rw [(cut_index c s).1 h1]; rfl
    · have := Lib.count_hit (s := s) (sub := [c]) (by simp) h1
      omega
  | k + 1, s, h => by
    rcases Lib.index_spec s [c] with ⟨h1, _⟩ | ⟨i, h1, _⟩
    · have := Lib.count_miss h1; omega
    · have h2 := Lib.count_hit (s := s) (sub := [c]) (by simp) h1
      rw [Lib.splitK]
      have hne : (Lib.index s [c] == -1) = false := by rw [h1]; rw [beq_eq_false_iff_ne]; omega
      rw [hne]
      simp only [Bool.false_eq_true, if_false]
      have hi : (Lib.index s [c]).toNat = i := by omega
      rw [hi, (cut_index c s).2 i h1, List.nil_append]
      simp only [List.length_cons, List.length_nil, Nat.zero_add] at h2 ⊢
      rw [splitK_cut c k _ (by omega)]
      rfl
theorem splitL_cut (s : List UInt8) (c : UInt8) : splitL s [c] = cutA c [] s := by
  unfold splitL
  rw [Lib.splitB_data]
  exact splitK_cut c _ s rfl
theorem cutA_len (c : UInt8) : ∀ (s acc : List UInt8), (cutA c acc s).length ≤ s.length + 1 ∧ 1 ≤ (cutA c acc s).length
  | [], acc => by simp [cutA]
  | x :: t, acc => by
    have h1 := cutA_len c t []
    have h2 := cutA_len c t (acc ++ [x])
    unfold cutA
    split
    · simp only [List.length_cons]; omega
    · simp only [List.length_cons]; omega
theorem cutA_mem (c : UInt8) : ∀ (s acc : List UInt8), ∀ x ∈ cutA c acc s, x.length ≤ acc.length + s.length
  | [], acc, x, h => by simp [cutA] at h; subst h; simp
  | y :: t, acc, x, h => by
    unfold cutA at h
    split at h
    · rcases List.mem_cons.1 h with rfl | h
      · simp
      · have := cutA_mem c t [] x h
        simp at this ⊢; omega
    · have := cutA_mem c t (acc ++ [y]) x h
      simp at this ⊢; omega
theorem lens_le (B : Nat) : ∀ ls : List (List UInt8), (∀ x ∈ ls, x.length ≤ B) → Lib.lens ls ≤ ls.length * B
  | [], _ => by simp [Lib.lens]
  | x :: ls, h => by
    have ih := lens_le B ls (fun y hy => h y (by simp [hy]))
    have hx := h x (by simp)
    simp only [Lib.lens, List.map_cons, List.sum_cons, List.length_cons, Nat.succ_mul] at ih ⊢
    omega
theorem join_le (B : Nat) (ls : List (List UInt8)) (h : ∀ x ∈ ls, x.length ≤ B) : (Lib.join ls [32]).length ≤ ls.length * B + ls.length := by
  cases ls with
  | nil => simp [Lib.join_nil]
  | cons x r =>
    rw [Lib.join_length]
    have := lens_le B (x :: r) h
    simp only [List.length_cons, List.length_nil] at this ⊢
    omega
theorem join_snoc (ls : List (List UInt8)) (x : List UInt8) (h : ls ≠ []) : Lib.join (ls ++ [x]) [32] = Lib.join ls [32] ++ ([32] ++ x) := by
  cases ls with
  | nil => exact absurd rfl h
  | cons a r =>
    rw [List.cons_append, Lib.join_cons, Lib.join_cons]
    simp [Lib.joinTail]
theorem map1 (A : List (List UInt8)) (a : List UInt8) : (A.map fun x => [D.str x]) ++ [[.str a]] = (A ++ [a]).map fun x => [D.str x] := by simp
theorem un_cases (v : List UInt8) : (∃ u, unD (unB v) = .tup [.str u, .int .i64 0] ∧ unB v = some u) ∨ (unD (unB v) = .tup [.str [], .int .i64 4] ∧ unB v = none) := by
  cases h : unB v with
  | none => exact .inr ⟨rfl, rfl⟩
  | some u => exact .inl ⟨u, rfl, rfl⟩
theorem unD_s (u : List UInt8) : unD (some u) = .tup [.str u, .int .i64 0] := rfl
theorem unD_n : unD none = .tup [.str [], .int .i64 4] := rfl
theorem escB_ge : ∀ s : List UInt8, s.length ≤ (escB s).length
  | [] => by simp [escB]
  | c :: s => by
    have h1 : 1 ≤ (escC c).length := by unfold escC; split <;> simp
    have h2 := escB_ge s
    simp only [escB, List.flatMap_cons, List.length_append, List.length_cons] at h2 ⊢
    omega
theorem unB_len {s u : List UInt8} (h : unB s = some u) : u.length ≤ s.length := by
  have := ((unB_unR s.length s (Nat.le_refl _) u).1 h).2
  rw [← this]; exact escB_ge u
theorem unB_get (v : List UInt8) : ((unB v).getD []).length ≤ v.length := by
  cases h : unB v with
  | none => simp
  | some u => exact unB_len h
theorem cut_cases (r : List UInt8) : (∃ a b, Lib.cut r [10] = (a, b, true) ∧ cutA 10 [] r = a :: cutA 10 [] b ∧ a.length + b.length + 1 = r.length) ∨ (Lib.cut r [10] = (r, [], false) ∧ cutA 10 [] r = [r]) := by
  rcases Lib.index_spec r [10] with ⟨h1, _⟩ | ⟨i, h1, hi, ho, _⟩
  · refine .inr ⟨?_, ?_⟩
    · unfold Lib.cut; rw [h1]; rfl
    · rw [(cut_index 10 r).1 h1]; rfl
  · refine .inl ⟨r.take i, r.drop (i + 1), ?_, ?_, ?_⟩
    · unfold Lib.cut; rw [h1, if_pos (by omega)]; rfl
    · rw [(cut_index 10 r).2 i h1]; rfl
    · have : i < r.length := by
        rcases Nat.lt_or_ge i r.length with h | h
        · exact h
        · have e : i = r.length := by omega
          simp [Lib.occAt, e] at ho
      simp; omega
theorem Le.nil3 {z z' : Nat} {t : Option Nat} {a b : D} : Le (.tup [.slice z true [] t, a, b]) (.tup [.slice z' true [] none, a, b]) := by
  intro M γ w v hr
  cases hr with
  | @tup _ vs hl hr =>
    refine .tup (by simpa using hl) fun i d v hd hv => ?_
    match i with
    | 0 =>
      simp at hd; subst hd
      exact Le.nil z z' none M γ w v (rep_fg (hr 0 _ v rfl hv))
    | 1 => simp at hd; subst hd; exact hr 1 _ v rfl hv
    | 2 => simp at hd; subst hd; exact hr 2 _ v rfl hv
    | i + 3 => simp at hd
theorem cutA_ne (c : UInt8) (s : List UInt8) : ∃ a t, cutA c [] s = a :: t := by
  cases h : cutA c [] s with
  | nil => have := (cutA_len c s []).2; rw [h] at this; simp at this
  | cons a t => exact ⟨a, t, rfl⟩
/-! The line of a key. -/
def lineW (k : Key) : Wds := [k.id, escB k.sec, Lib.itoa k.sf, Lib.itoa k.su, Lib.itoa k.af, Lib.itoa k.au]
def lineB (k : Key) : List UInt8 := Lib.join (lineW k) [32]
def textB (l : List Key) : List UInt8 := l.flatMap fun k => lineB k ++ [10]
def textK (l : List Key) : List UInt8 × Int := if (checkK l != 0) = true then ([], checkK l) else if decide (((textB l).length : Int) > 4096) = true then ([], 3) else (textB l, 0)
theorem win_rng {k : Key} (h : windowsB k = true) : (0 ≤ k.sf ∧ k.sf ≤ 1099511627776) ∧ (0 ≤ k.su ∧ k.su ≤ 1099511627776) ∧ (0 ≤ k.af ∧ k.af ≤ 1099511627776) ∧ (0 ≤ k.au ∧ k.au ≤ 1099511627776) := by
  simp only [windowsB, Bool.and_eq_true, decide_eq_true_eq] at h
  omega
theorem chkK_win : ∀ (l seen : List Key), chkK seen l = 0 → ∀ k ∈ l, windowsB k = true
  | [], _, _, k, hk => by simp at hk
  | q :: t, seen, h, k, hk => by
    rw [chkK] at h
    split at h
    · rename_i h1; rw [h] at h1; simp at h1
    · rename_i h1
      rcases List.mem_cons.1 hk with rfl | hk
      · simp only [bne_iff_ne, ne_eq, Decidable.not_not] at h1
        unfold keyE at h1
        repeat' split at h1
        all_goals first | (cases h1; done) | simp_all
      · exact chkK_win t _ h k hk
theorem checkK_win {l : List Key} (h : checkK l = 0) : ∀ k ∈ l, windowsB k = true := by
  rw [checkK] at h
  split at h
  · cases h
  exact chkK_win l [] h
theorem check_16 {l : List Key} (h : checkK l = 0) : l.length ≤ 16 := by
  rw [checkK] at h
  split at h
  · cases h
  · rename_i h1; simp at h1; omega
theorem itoa_20 {n : Int} (h : 0 ≤ n ∧ n ≤ 1099511627776) : (Lib.itoa n).length ≤ 21 := Lib.itoa_length_le n (by omega) (by omega)
theorem lineW_mem (k : Key) (h : k.ok) (hw : windowsB k = true) : ∀ x ∈ lineW k, x.length ≤ 3298534883328 := by
  obtain ⟨h1, h2, h3, h4⟩ := win_rng hw
  have i1 := itoa_20 h1; have i2 := itoa_20 h2; have i3 := itoa_20 h3; have i4 := itoa_20 h4
  have e := escB_len k.sec
  have := h.1; have := h.2
  intro x hx
  simp only [lineW, List.mem_cons, List.mem_nil_iff, or_false] at hx
  rcases hx with rfl | rfl | rfl | rfl | rfl | rfl <;> omega
theorem lineB_len (k : Key) (h : k.ok) (hw : windowsB k = true) : (lineB k).length ≤ 19791209299974 := by
  have := join_le 3298534883328 (lineW k) (lineW_mem k h hw)
  have e : (lineW k).length = 6 := rfl
  rw [e] at this
  exact this
theorem textB_next (l : List Key) (k : Nat) (h : k < l.length) : textB (l.take (k + 1)) = textB (l.take k) ++ (lineB l[k] ++ [10]) := by
  rw [List.take_succ_eq_append_getElem h, textB, List.flatMap_append]; simp only [textB, List.flatMap_cons, List.flatMap_nil, List.append_nil]
theorem textB_len : ∀ (l : List Key), (∀ k ∈ l, k.ok) → (∀ k ∈ l, windowsB k = true) → (textB l).length ≤ l.length * 19791209299975
  | [], _, _ => by simp [textB]
  | k :: t, h, hw => by
    have ih := textB_len t (fun q hq => h q (by simp [hq])) (fun q hq => hw q (by simp [hq]))
    have := lineB_len k (h k (by simp)) (hw k (by simp))
    simp only [textB, List.flatMap_cons, List.length_append, List.length_cons, List.length_nil, Nat.succ_mul] at ih ⊢
    omega
theorem textB_take {l : List Key} (h : ∀ k ∈ l, k.ok) (hw : ∀ k ∈ l, windowsB k = true) (hl : l.length ≤ 16) (i : Nat) : (textB (l.take i)).length ≤ 316659348799600 := by
  have := textB_len (l.take i) (fun q hq => h q (List.mem_of_mem_take hq)) (fun q hq => hw q (List.mem_of_mem_take hq))
  have e : (l.take i).length ≤ 16 := by rw [List.length_take]; omega
  have := Nat.mul_le_mul_right 19791209299975 e
  omega
theorem join_next (ls : Wds) (k : Nat) (h : k < ls.length) (h0 : 0 < k) : Lib.join (ls.take (k + 1)) [32] = Lib.join (ls.take k) [32] ++ ([32] ++ ls[k]) := by
  rw [List.take_succ_eq_append_getElem h, join_snoc]
  intro e
  have := congrArg List.length e
  rw [List.length_take, List.length_nil] at this
  omega
theorem join_0 (ls : Wds) : Lib.join (ls.take 0) [32] = [] := by simp [Lib.join_nil]
theorem join_1 (ls : Wds) (h : 0 < ls.length) : Lib.join (ls.take 1) [32] = ls[0] := by
  cases ls with
  | nil => simp at h
  | cons x t => simp [Lib.join_cons, Lib.joinTail]
theorem join_take_le (ls : Wds) (k : Nat) (h : ∀ x ∈ ls, x.length ≤ 3298534883328) (hn : ls.length ≤ 16) : (Lib.join (ls.take k) [32]).length ≤ 52776558133264 := by
  have := join_le 3298534883328 (ls.take k) (fun x hx => h x (List.mem_of_mem_take hx))
  have e : (ls.take k).length ≤ 16 := by rw [List.length_take]; omega
  have := Nat.mul_le_mul_right 3298534883328 e
  omega
/-- The first place of a byte. -/
def fxB (c : UInt8) : List UInt8 → Int → Int
  | [], _ => -1
  | x :: t, i => if ((x.toNat : Int) == (c.toNat : Int)) = true then i else fxB c t (i + 1)
theorem fxB_cons (c x : UInt8) (t : List UInt8) (i : Int) : fxB c (x :: t) i = if ((x.toNat : Int) == (c.toNat : Int)) = true then i else fxB c t (i + 1) := rfl
theorem fxB_nil (c : UInt8) (i : Int) : fxB c [] i = -1 := rfl
theorem fx_cut (c : UInt8) : ∀ (s : List UInt8) (i : Int), (fxB c s i = -1 ∧ ∀ acc, cutA c acc s = [acc ++ s]) ∨ ∃ j : Nat, fxB c s i = i + j ∧ j < s.length ∧ ∀ acc, cutA c acc s = (acc ++ s.take j) :: cutA c [] (s.drop (j + 1))
  | [], i => .inl ⟨rfl, fun acc => by simp [cutA]⟩
  | x :: t, i => by
    by_cases h : ((x.toNat : Int) == (c.toNat : Int)) = true
    · exact .inr ⟨0, by rw [fxB_cons, if_pos h]; simp, by simp, fun acc => by rw [cutA, if_pos h]; simp⟩
    · rcases fx_cut c t (i + 1) with ⟨h1, h2⟩ | ⟨j, h1, h2, h3⟩
      · exact .inl ⟨by rw [fxB_cons, if_neg h, h1], fun acc => by rw [cutA, if_neg h, h2]; simp⟩
      · exact .inr ⟨j + 1, by rw [fxB_cons, if_neg h, h1]; push_cast; omega, by simpa using h2, fun acc => by rw [cutA, if_neg h, h3]; simp⟩
end Go.Proofs

set_option linter.unusedSimpArgs false
set_option linter.unusedVariables false
set_option maxRecDepth 10000
namespace Go.Proofs
open Go Go.Id
set_option maxHeartbeats 4000000
theorem c_line (k : Key) (hk : k.ok) (hw : windowsB k = true) : CallP Pr 49 [.agg [.str k.id, .str k.sec, .int .i64 k.sf, .int .i64 k.su, .int .i64 k.af, .int .i64 k.au]] (.str (lineB k)) := by
 obtain ⟨r1, r2, r3, r4⟩ := win_rng hw
 have hid := hk.1
 have hsc := hk.2
 refine CallP.of_wp Tryz.func49 rfl (by kernel_rfl) Tryz.ntmps49 (by simp) ?_
 simp only [frameOf, Nat.reduceAdd, Nat.zero_add]
 refine WP.sr [1] (by kernel_rfl) fun K hK => ?_
 simp (decide := true) only [TF, ↓reduceIte, Int.reduceToNat]
 refine hK _ _ ?_; clear hK K
 refine WP.sd [2] (by kernel_rfl) (by kernel_rfl) fun K hK => ?_
 simp (decide := true) only [TF, ↓reduceIte, Int.reduceToNat]
 refine CallK.pure (c_escape k.sec (by omega)) rfl rfl (by simp [-List.map_take]) ?_
 simp (decide := true) only [TF, ↓reduceIte, Int.reduceToNat]
 refine CallK.pure (c_int k.sf (by omega) (by omega)) rfl rfl (by simp [-List.map_take]) ?_
 simp (decide := true) only [TF, ↓reduceIte, Int.reduceToNat]
 refine CallK.pure (c_int k.su (by omega) (by omega)) rfl rfl (by simp [-List.map_take]) ?_
 simp (decide := true) only [TF, ↓reduceIte, Int.reduceToNat]
 refine CallK.pure (c_int k.af (by omega) (by omega)) rfl rfl (by simp [-List.map_take]) ?_
 simp (decide := true) only [TF, ↓reduceIte, Int.reduceToNat]
 refine CallK.pure (c_int k.au (by omega) (by omega)) rfl rfl (by simp [-List.map_take]) ?_
 simp (decide := true) only [TF, ↓reduceIte, Int.reduceToNat]
 refine CallK.pure (lib_join (lineW k) false [32] (by simp [lineW]) (Nat.le_trans (lineB_len k hk hw) (by omega))) rfl rfl (by simp [-List.map_take]) ?_
 simp (decide := true) only [TF, ↓reduceIte, Int.reduceToNat]
 refine hK _ _ (by kernel_rfl) ?_
 clear hK K
 refine WP.ret ?_
 exact Ends.pure (.inr rfl) rfl (Le.of_eq (by simp (decide := true) only [St.get, lk, W, lineB, ↓reduceIte])) (by simp)
theorem c_r_between (ls : Wds) (nl : Bool) (hls : ∀ x ∈ ls, x.length ≤ 3298534883328) (hn : ls.length ≤ 16) (hnl : nl = true → ls = []) : CallP Pr 72 [.slice 1 nl (ls.map fun x => [.str x]) none, .str [32]] (.str (Lib.join ls [32])) := by
 have hjl := fun k => join_take_le ls k hls hn
 refine CallP.of_wp Tryz.func72 rfl (by kernel_rfl) Tryz.ntmps72 (by simp) ?_
 simp only [frameOf, Nat.reduceAdd, Nat.zero_add]
 refine WP.sr [0, 1] (by kernel_rfl) fun K hK => ?_
 simp (decide := true) only [TF, ↓reduceIte, Int.reduceToNat]
 refine hK _ _ ?_; clear hK K
 refine WP.sr [0, 1, 5] (by kernel_rfl) fun K hK => ?_
 simp (decide := true) only [TF, ↓reduceIte, Int.reduceToNat]
 refine hK _ _ ?_; clear hK K
 refine WP.seq ?_
 refine WP.sr [0, 1, 5, 6] (by kernel_rfl) fun K hK => ?_
 simp (decide := true) only [TF, ↓reduceIte, Int.reduceToNat]
 refine hK _ _ ?_; clear hK K
 refine WP.block ?_
 refine WP.lp [0, 1] (X := {k : Nat // k ≤ ls.length}) (fun x => match x with | ⟨(k), _⟩ => [(5, .str (Lib.join (ls.take k) [32])), (6, .int .i64 k)]) (fun x => match x with | ⟨(k), _⟩ => []) (fun x => match x with | ⟨(k), _⟩ => ls.length - k) (by simp (decide := true) only [W, ↓reduceIte, Int.reduceToNat]; rfl) ?_ ⟨(0), Nat.zero_le _⟩ ?_
 rotate_left
 · exact Weak.nil (by simp [St.get, lk, W, Le.refl, Lib.join_nil, W]) (by simp [W])
 rintro ⟨k, hk⟩
 dsimp only
 simp only [List.cons_append, List.nil_append]
 refine WP.seq ?_
 refine WP.sr [0, 1, 5, 6, 10] (by kernel_rfl) fun K hK => ?_
 simp (decide := true) only [TF, hk, ↓reduceIte, Int.reduceToNat]
 refine hK _ _ ?_; clear hK K
 refine WP.cond (b := _) rfl (fun q1 => ?_) (fun q1 => ?_)
 ·
  have hlt := lt_of_q q1
  have hg : (ls.map fun x => [D.str x])[k]? = some [.str ls[k]] := getM hlt
  have hnf := nl_false hnl hlt
  have hb := hls _ (List.getElem_mem hlt)
  have hjk := hjl k
  refine WP.skip ?_
  show WP _ _ _ _ _ _
  refine WP.seq ?_
  refine WP.block ?_
  refine WP.seq ?_
  refine WP.sr [0, 1, 5, 6, 14] (by kernel_rfl) fun K hK => ?_
  simp (decide := true) only [TF, hk, q1, hg, hnf, ↓reduceIte, Int.reduceToNat]
  refine hK _ _ ?_; clear hK K
  refine WP.cond (b := _) rfl (fun q2 => ?_) (fun q2 => ?_)
  ·
   have hk0 : 0 < k := by have := of_decide_eq_true q2; omega
   have hjn := join_next ls k hlt hk0
   refine WP.region (by kernel_rfl) fun K hK => ?_
   simp (decide := true) only [TF, hk, q1, hg, hnf, q2, hjn, ↓reduceIte, Int.reduceToNat]
   refine ⟨by (try simp only [List.length_append, List.length_cons, List.length_nil]); omega, ?_⟩
   refine hK _ _ ?_; clear hK K
   show WP _ _ _ _ _ _
   refine WP.region (by kernel_rfl) fun K hK => ?_
   simp (decide := true) only [TF, hk, q1, hg, hnf, q2, hjn, ↓reduceIte, Int.reduceToNat]
   refine ⟨by (try simp only [List.length_append, List.length_cons, List.length_nil]); omega, ?_⟩
   refine hK _ _ ?_; clear hK K
   show WP _ _ _ _ _ _
   refine WP.region (by kernel_rfl) fun K hK => ?_
   simp (decide := true) only [TF, hk, q1, hg, hnf, q2, hjn, ↓reduceIte, Int.reduceToNat]
   refine hK _ _ ?_; clear hK K
   show ∃ y, _ ∧ Weak _ _ _
   refine ⟨⟨k + 1, ?_⟩, ?_, ?_⟩
   · omega
   · dsimp only; omega
   · exact Weak.nil (by simp [St.get, lk, W, Le.refl, hk, q1, hg, hnf, q2, hjn, wrapS hlt (show ls.length ≤ 140737488355328 by omega)]) (by simp [W])
  ·
   have hk0 : k = 0 := by have := of_decide_eq_false q2; omega
   have hj1 : Lib.join (ls.take (k + 1)) [32] = Lib.join (ls.take k) [32] ++ ls[k] := by subst hk0; rw [join_1 ls hlt, join_0]; rfl
   refine WP.skip ?_
   show WP _ _ _ _ _ _
   refine WP.region (by kernel_rfl) fun K hK => ?_
   simp (decide := true) only [TF, hk, q1, hg, hnf, q2, hj1, ↓reduceIte, Int.reduceToNat]
   refine ⟨by (try simp only [List.length_append, List.length_cons, List.length_nil]); omega, ?_⟩
   refine hK _ _ ?_; clear hK K
   show WP _ _ _ _ _ _
   refine WP.region (by kernel_rfl) fun K hK => ?_
   simp (decide := true) only [TF, hk, q1, hg, hnf, q2, hj1, ↓reduceIte, Int.reduceToNat]
   refine hK _ _ ?_; clear hK K
   show ∃ y, _ ∧ Weak _ _ _
   refine ⟨⟨k + 1, ?_⟩, ?_, ?_⟩
   · omega
   · dsimp only; omega
   · exact Weak.nil (by simp [St.get, lk, W, Le.refl, hk, q1, hg, hnf, q2, hj1, wrapS hlt (show ls.length ≤ 140737488355328 by omega)]) (by simp [W])
 ·
  have hge := ge_of_q q1
  have htk : ls.take k = ls := List.take_of_length_le hge
  refine WP.exit ?_
  show WP _ _ _ _ _ _
  refine WP.sr [4] (by kernel_rfl) fun K hK => ?_
  simp (decide := true) only [TF, hk, q1, ↓reduceIte, Int.reduceToNat]
  refine hK _ _ ?_; clear hK K
  refine WP.ret ?_
  exact Ends.pure (.inr rfl) rfl (Le.of_eq (by simp (decide := true) only [St.get, lk, W, hk, q1, htk, ↓reduceIte])) (by simp)
theorem c_r_line (k : Key) (hk : k.ok) (hw : windowsB k = true) : CallP Pr 50 [.agg [.str k.id, .str k.sec, .int .i64 k.sf, .int .i64 k.su, .int .i64 k.af, .int .i64 k.au]] (.str (lineB k)) := by
 obtain ⟨r1, r2, r3, r4⟩ := win_rng hw
 have hid := hk.1
 have hsc := hk.2
 refine CallP.of_wp Tryz.func50 rfl (by kernel_rfl) Tryz.ntmps50 (by simp) ?_
 simp only [frameOf, Nat.reduceAdd, Nat.zero_add]
 refine WP.sr [1] (by kernel_rfl) fun K hK => ?_
 simp (decide := true) only [TF, ↓reduceIte, Int.reduceToNat]
 refine hK _ _ ?_; clear hK K
 refine WP.sd [3] (by kernel_rfl) (by kernel_rfl) fun K hK => ?_
 simp (decide := true) only [TF, ↓reduceIte, Int.reduceToNat]
 refine CallK.pure (c_r_escape k.sec (by omega)) rfl rfl (by simp [-List.map_take]) ?_
 simp (decide := true) only [TF, ↓reduceIte, Int.reduceToNat]
 refine CallK.pure (c_r_int k.sf (by omega) (by omega)) rfl rfl (by simp [-List.map_take]) ?_
 simp (decide := true) only [TF, ↓reduceIte, Int.reduceToNat]
 refine CallK.pure (c_r_int k.su (by omega) (by omega)) rfl rfl (by simp [-List.map_take]) ?_
 simp (decide := true) only [TF, ↓reduceIte, Int.reduceToNat]
 refine CallK.pure (c_r_int k.af (by omega) (by omega)) rfl rfl (by simp [-List.map_take]) ?_
 simp (decide := true) only [TF, ↓reduceIte, Int.reduceToNat]
 refine CallK.pure (c_r_int k.au (by omega) (by omega)) rfl rfl (by simp [-List.map_take]) ?_
 simp (decide := true) only [TF, ↓reduceIte, Int.reduceToNat]
 refine hK _ _ (by kernel_rfl) ?_
 clear hK K
 refine WP.sr [2] (by kernel_rfl) fun K hK => ?_
 simp (decide := true) only [TF, ↓reduceIte, Int.reduceToNat]
 refine CallK.pure (c_r_between (lineW k) false (lineW_mem k hk hw) (by simp [lineW]) nofun) rfl rfl (by simp [-List.map_take]) ?_
 simp (decide := true) only [TF, ↓reduceIte, Int.reduceToNat]
 refine hK _ _ ?_; clear hK K
 refine WP.ret ?_
 exact Ends.pure (.inr rfl) rfl (Le.of_eq (by simp (decide := true) only [St.get, lk, W, lineB, ↓reduceIte])) (by simp)
end Go.Proofs

set_option linter.unusedSimpArgs false
set_option linter.unusedVariables false
set_option maxRecDepth 10000
namespace Go.Proofs
open Go Go.Id
set_option maxHeartbeats 4000000
theorem c_text (l : List Key) (nl : Bool) (hn : l.length ≤ 1099511627776) (hnl : nl = true → l = []) (hl : ∀ k ∈ l, k.ok) : CallP Pr 26 [.slice 6 nl (l.map Key.cs) none] (.tup [.str (textK l).1, .int .i64 (textK l).2]) := by
 refine CallP.of_wp Tryz.func26 rfl (by kernel_rfl) Tryz.ntmps26 (by simp) ?_
 simp only [frameOf, Nat.reduceAdd, Nat.zero_add]
 refine WP.sr [0] (by kernel_rfl) fun K hK => ?_
 simp (decide := true) only [TF, ↓reduceIte, Int.reduceToNat]
 refine hK _ _ ?_; clear hK K
 refine WP.seq ?_
 refine WP.sr [0, 4] (by kernel_rfl) fun K hK => ?_
 simp (decide := true) only [TF, ↓reduceIte, Int.reduceToNat]
 refine CallK.pure (c_k_check l nl hn hnl hl) rfl rfl (by simp [-List.map_take]) ?_
 simp (decide := true) only [TF, ↓reduceIte, Int.reduceToNat]
 refine hK _ _ ?_; clear hK K
 refine WP.sr [0, 4, 11] (by kernel_rfl) fun K hK => ?_
 simp (decide := true) only [TF, ↓reduceIte, Int.reduceToNat]
 refine hK _ _ ?_; clear hK K
 refine WP.cond (b := _) rfl (fun q1 => ?_) (fun q1 => ?_)
 ·
  have hz := q1
  have hR : textK l = ([], checkK l) := by simp only [textK, hz, if_true]
  refine WP.sr [2, 3] (by kernel_rfl) fun K hK => ?_
  simp (decide := true) only [TF, q1, hR, ↓reduceIte, Int.reduceToNat]
  refine hK _ _ ?_; clear hK K
  refine WP.ret ?_
  exact Ends.pure (d := .tup [_, _]) (.inr rfl) rfl ((by rw [hR]; simp (decide := true) only [St.get, lk, W, Pr_prog, q1, hR, ↓reduceIte, Int.reduceToNat]; exact Le.refl _)) (by simp)
 ·
  have h0 := q1
  have hc0 : checkK l = 0 := by simpa using h0
  have hwin := checkK_win hc0
  have h16 := check_16 hc0
  refine WP.skip ?_
  show WP _ _ _ _ _ _
  refine WP.sr [0, 5] (by kernel_rfl) fun K hK => ?_
  simp (decide := true) only [TF, q1, ↓reduceIte, Int.reduceToNat]
  refine hK _ _ ?_; clear hK K
  refine WP.seq ?_
  refine WP.sr [5, 13, 14, 15] (by kernel_rfl) fun K hK => ?_
  simp (decide := true) only [TF, q1, ↓reduceIte, Int.reduceToNat]
  refine hK _ _ ?_; clear hK K
  refine WP.block ?_
  refine WP.lp [13, 14] (X := {k : Nat // k ≤ l.length}) (fun x => match x with | ⟨(k), _⟩ => [(5, .str (textB (l.take k))), (15, .int .i64 k)]) (fun x => match x with | ⟨(k), _⟩ => []) (fun x => match x with | ⟨(k), _⟩ => l.length - k) (by simp (decide := true) only [W, ↓reduceIte, Int.reduceToNat]; rfl) ?_ ⟨(0), Nat.zero_le _⟩ ?_
  rotate_left
  · exact Weak.nil (by simp [St.get, lk, W, Le.refl, textB, q1]) (by simp [W])
  rintro ⟨k, hk⟩
  dsimp only
  simp only [List.cons_append, List.nil_append]
  refine WP.sr [5, 13, 14, 15, 16] (by kernel_rfl) fun K hK => ?_
  simp (decide := true) only [TF, q1, hk, ↓reduceIte, Int.reduceToNat]
  refine hK _ _ ?_; clear hK K
  refine WP.seq ?_
  refine WP.cond (b := _) rfl (fun q2 => ?_) (fun q2 => ?_)
  ·
   have hlt := lt_of_q q2
   have hg : (l.map Key.cs)[k]? = some [.str l[k].id, .str l[k].sec, .int .i64 l[k].sf, .int .i64 l[k].su, .int .i64 l[k].af, .int .i64 l[k].au] := getM hlt
   have hnf := nl_false hnl hlt
   have hkk := hl _ (List.getElem_mem hlt)
   have hkw := hwin _ (List.getElem_mem hlt)
   have hlb := lineB_len _ hkk hkw
   have htb := textB_take hl hwin h16 k
   have htn := textB_next l k hlt
   refine WP.skip ?_
   show WP _ _ _ _ _ _
   refine WP.seq ?_
   refine WP.block ?_
   refine WP.sr [5, 7, 13, 14, 15] (by kernel_rfl) fun K hK => ?_
   simp (decide := true) only [TF, q1, hk, q2, hg, hnf, htn, ↓reduceIte, Int.reduceToNat]
   refine hK _ _ ?_; clear hK K
   refine WP.region (by kernel_rfl) fun K hK => ?_
   simp (decide := true) only [TF, q1, hk, q2, hg, hnf, htn, ↓reduceIte, Int.reduceToNat]
   refine CallK.pure (c_line l[k] hkk hkw) rfl rfl (by simp [-List.map_take]) ?_
   simp (decide := true) only [TF, q1, hk, q2, hg, hnf, htn, ↓reduceIte, Int.reduceToNat]
   refine ⟨by (try simp only [List.length_append, List.length_cons, List.length_nil]); omega, by (try simp only [List.length_append, List.length_cons, List.length_nil]); omega, ?_⟩
   refine hK _ _ ?_; clear hK K
   show WP _ _ _ _ _ _
   refine WP.region (by kernel_rfl) fun K hK => ?_
   simp (decide := true) only [TF, q1, hk, q2, hg, hnf, htn, ↓reduceIte, Int.reduceToNat]
   refine hK _ _ ?_; clear hK K
   show ∃ y, _ ∧ Weak _ _ _
   refine ⟨⟨k + 1, ?_⟩, ?_, ?_⟩
   · omega
   · dsimp only; omega
   · exact Weak.nil (by simp [St.get, lk, W, Le.refl, q1, hk, q2, hg, hnf, htn, wrapS hlt (show l.length ≤ 140737488355328 by omega)]) (by simp [W])
  ·
   have hge := ge_of_q q2
   have htk : l.take k = l := List.take_of_length_le hge
   refine WP.exit ?_
   show WP _ _ _ _ _ _
   refine WP.seq ?_
   refine WP.sr [5, 27] (by kernel_rfl) fun K hK => ?_
   simp (decide := true) only [TF, q1, hk, q2, ↓reduceIte, Int.reduceToNat]
   refine hK _ _ ?_; clear hK K
   refine WP.cond (b := _) rfl (fun q3 => ?_) (fun q3 => ?_)
   ·
    have hz := q3
    rw [htk] at hz
    have hR : textK l = ([], 3) := by simp only [textK, h0, hz, Bool.false_eq_true, if_false, if_true]
    refine WP.sr [2, 3] (by kernel_rfl) fun K hK => ?_
    simp (decide := true) only [TF, q1, hk, q2, q3, hR, ↓reduceIte, Int.reduceToNat]
    refine hK _ _ ?_; clear hK K
    refine WP.ret ?_
    exact Ends.pure (d := .tup [_, _]) (.inr rfl) rfl ((by rw [hR]; simp (decide := true) only [St.get, lk, W, Pr_prog, q1, hk, q2, q3, hR, ↓reduceIte, Int.reduceToNat]; exact Le.refl _)) (by simp)
   ·
    have hz := q3
    rw [htk] at hz
    have hR : textK l = (textB l, 0) := by simp only [textK, h0, hz, Bool.false_eq_true, if_false]
    refine WP.skip ?_
    show WP _ _ _ _ _ _
    refine WP.sr [2, 3] (by kernel_rfl) fun K hK => ?_
    simp (decide := true) only [TF, q1, hk, q2, q3, htk, hR, ↓reduceIte, Int.reduceToNat]
    refine hK _ _ ?_; clear hK K
    refine WP.ret ?_
    exact Ends.pure (d := .tup [_, _]) (.inr rfl) rfl ((by rw [hR]; simp (decide := true) only [St.get, lk, W, Pr_prog, q1, hk, q2, q3, htk, hR, ↓reduceIte, Int.reduceToNat]; exact Le.refl _)) (by simp)
theorem c_r_text (l : List Key) (nl : Bool) (hn : l.length ≤ 1099511627776) (hnl : nl = true → l = []) (hl : ∀ k ∈ l, k.ok) : CallP Pr 27 [.slice 6 nl (l.map Key.cs) none] (.tup [.str (textK l).1, .int .i64 (textK l).2]) := by
 refine CallP.of_wp Tryz.func27 rfl (by kernel_rfl) Tryz.ntmps27 (by simp) ?_
 simp only [frameOf, Nat.reduceAdd, Nat.zero_add]
 refine WP.sr [0] (by kernel_rfl) fun K hK => ?_
 simp (decide := true) only [TF, ↓reduceIte, Int.reduceToNat]
 refine hK _ _ ?_; clear hK K
 refine WP.sr [0, 4] (by kernel_rfl) fun K hK => ?_
 simp (decide := true) only [TF, ↓reduceIte, Int.reduceToNat]
 refine CallK.pure (c_r_check l nl hn hnl hl) rfl rfl (by simp [-List.map_take]) ?_
 simp (decide := true) only [TF, ↓reduceIte, Int.reduceToNat]
 refine hK _ _ ?_; clear hK K
 refine WP.seq ?_
 refine WP.sr [0, 4, 10] (by kernel_rfl) fun K hK => ?_
 simp (decide := true) only [TF, ↓reduceIte, Int.reduceToNat]
 refine hK _ _ ?_; clear hK K
 refine WP.cond (b := _) rfl (fun q1 => ?_) (fun q1 => ?_)
 ·
  have hz := q1
  have hR : textK l = ([], checkK l) := by simp only [textK, hz, if_true]
  refine WP.sr [2, 3] (by kernel_rfl) fun K hK => ?_
  simp (decide := true) only [TF, q1, hR, ↓reduceIte, Int.reduceToNat]
  refine hK _ _ ?_; clear hK K
  refine WP.ret ?_
  exact Ends.pure (d := .tup [_, _]) (.inr rfl) rfl ((by rw [hR]; simp (decide := true) only [St.get, lk, W, Pr_prog, q1, hR, ↓reduceIte, Int.reduceToNat]; exact Le.refl _)) (by simp)
 ·
  have h0 := q1
  have hc0 : checkK l = 0 := by simpa using h0
  have hwin := checkK_win hc0
  have h16 := check_16 hc0
  refine WP.skip ?_
  show WP _ _ _ _ _ _
  refine WP.sr [0, 5] (by kernel_rfl) fun K hK => ?_
  simp (decide := true) only [TF, q1, ↓reduceIte, Int.reduceToNat]
  refine hK _ _ ?_; clear hK K
  refine WP.seq ?_
  refine WP.sr [0, 5, 6] (by kernel_rfl) fun K hK => ?_
  simp (decide := true) only [TF, q1, ↓reduceIte, Int.reduceToNat]
  refine hK _ _ ?_; clear hK K
  refine WP.block ?_
  refine WP.lp [0] (X := {k : Nat // k ≤ l.length}) (fun x => match x with | ⟨(k), _⟩ => [(5, .str (textB (l.take k))), (6, .int .i64 k)]) (fun x => match x with | ⟨(k), _⟩ => []) (fun x => match x with | ⟨(k), _⟩ => l.length - k) (by simp (decide := true) only [W, ↓reduceIte, Int.reduceToNat]; rfl) ?_ ⟨(0), Nat.zero_le _⟩ ?_
  rotate_left
  · exact Weak.nil (by simp [St.get, lk, W, Le.refl, textB, q1]) (by simp [W])
  rintro ⟨k, hk⟩
  dsimp only
  simp only [List.cons_append, List.nil_append]
  refine WP.seq ?_
  refine WP.sr [0, 5, 6, 15] (by kernel_rfl) fun K hK => ?_
  simp (decide := true) only [TF, q1, hk, ↓reduceIte, Int.reduceToNat]
  refine hK _ _ ?_; clear hK K
  refine WP.cond (b := _) rfl (fun q2 => ?_) (fun q2 => ?_)
  ·
   have hlt := lt_of_q q2
   have hg : (l.map Key.cs)[k]? = some [.str l[k].id, .str l[k].sec, .int .i64 l[k].sf, .int .i64 l[k].su, .int .i64 l[k].af, .int .i64 l[k].au] := getM hlt
   have hnf := nl_false hnl hlt
   have hkk := hl _ (List.getElem_mem hlt)
   have hkw := hwin _ (List.getElem_mem hlt)
   have hlb := lineB_len _ hkk hkw
   have htb := textB_take hl hwin h16 k
   have htn := textB_next l k hlt
   refine WP.skip ?_
   show WP _ _ _ _ _ _
   refine WP.seq ?_
   refine WP.block ?_
   refine WP.region (by kernel_rfl) fun K hK => ?_
   simp (decide := true) only [TF, q1, hk, q2, hg, hnf, htn, ↓reduceIte, Int.reduceToNat]
   refine CallK.pure (c_r_line l[k] hkk hkw) rfl rfl (by simp [-List.map_take]) ?_
   simp (decide := true) only [TF, q1, hk, q2, hg, hnf, htn, ↓reduceIte, Int.reduceToNat]
   refine ⟨by (try simp only [List.length_append, List.length_cons, List.length_nil]); omega, by (try simp only [List.length_append, List.length_cons, List.length_nil]); omega, ?_⟩
   refine hK _ _ ?_; clear hK K
   show WP _ _ _ _ _ _
   refine WP.region (by kernel_rfl) fun K hK => ?_
   simp (decide := true) only [TF, q1, hk, q2, hg, hnf, htn, ↓reduceIte, Int.reduceToNat]
   refine hK _ _ ?_; clear hK K
   show ∃ y, _ ∧ Weak _ _ _
   refine ⟨⟨k + 1, ?_⟩, ?_, ?_⟩
   · omega
   · dsimp only; omega
   · exact Weak.nil (by simp [St.get, lk, W, Le.refl, q1, hk, q2, hg, hnf, htn, wrapS hlt (show l.length ≤ 140737488355328 by omega)]) (by simp [W])
  ·
   have hge := ge_of_q q2
   have htk : l.take k = l := List.take_of_length_le hge
   refine WP.exit ?_
   show WP _ _ _ _ _ _
   refine WP.seq ?_
   refine WP.sr [5, 28] (by kernel_rfl) fun K hK => ?_
   simp (decide := true) only [TF, q1, hk, q2, ↓reduceIte, Int.reduceToNat]
   refine hK _ _ ?_; clear hK K
   refine WP.cond (b := _) rfl (fun q3 => ?_) (fun q3 => ?_)
   ·
    have hz := q3
    rw [htk] at hz
    have hR : textK l = ([], 3) := by simp only [textK, h0, hz, Bool.false_eq_true, if_false, if_true]
    refine WP.sr [2, 3] (by kernel_rfl) fun K hK => ?_
    simp (decide := true) only [TF, q1, hk, q2, q3, hR, ↓reduceIte, Int.reduceToNat]
    refine hK _ _ ?_; clear hK K
    refine WP.ret ?_
    exact Ends.pure (d := .tup [_, _]) (.inr rfl) rfl ((by rw [hR]; simp (decide := true) only [St.get, lk, W, Pr_prog, q1, hk, q2, q3, hR, ↓reduceIte, Int.reduceToNat]; exact Le.refl _)) (by simp)
   ·
    have hz := q3
    rw [htk] at hz
    have hR : textK l = (textB l, 0) := by simp only [textK, h0, hz, Bool.false_eq_true, if_false]
    refine WP.skip ?_
    show WP _ _ _ _ _ _
    refine WP.sr [2, 3] (by kernel_rfl) fun K hK => ?_
    simp (decide := true) only [TF, q1, hk, q2, q3, htk, hR, ↓reduceIte, Int.reduceToNat]
    refine hK _ _ ?_; clear hK K
    refine WP.ret ?_
    exact Ends.pure (d := .tup [_, _]) (.inr rfl) rfl ((by rw [hR]; simp (decide := true) only [St.get, lk, W, Pr_prog, q1, hk, q2, q3, htk, hR, ↓reduceIte, Int.reduceToNat]; exact Le.refl _)) (by simp)
end Go.Proofs

set_option linter.unusedSimpArgs false
set_option linter.unusedVariables false
set_option maxRecDepth 10000
namespace Go.Proofs
open Go Go.Id
set_option maxHeartbeats 4000000
theorem c_r_first (s : List UInt8) (c : UInt8) (hs : s.length ≤ 1099511627776) : CallP Pr 53 [.str s, .int .u8 c.toNat] (.int .i64 (fxB c s 0)) := by
 refine CallP.of_wp Tryz.func53 rfl (by kernel_rfl) Tryz.ntmps53 (by simp) ?_
 simp only [frameOf, Nat.reduceAdd, Nat.zero_add]
 refine WP.sr [0, 1] (by kernel_rfl) fun K hK => ?_
 simp (decide := true) only [TF, ↓reduceIte, Int.reduceToNat]
 refine hK _ _ ?_; clear hK K
 refine WP.seq ?_
 refine WP.sr [0, 1, 5] (by kernel_rfl) fun K hK => ?_
 simp (decide := true) only [TF, ↓reduceIte, Int.reduceToNat]
 refine hK _ _ ?_; clear hK K
 refine WP.block ?_
 refine WP.lp [0, 1] (X := {k : Nat // k ≤ s.length ∧ fxB c s 0 = fxB c (s.drop k) k}) (fun x => match x with | ⟨(k), _⟩ => [(5, .int .i64 k)]) (fun x => match x with | ⟨(k), _⟩ => []) (fun x => match x with | ⟨(k), _⟩ => s.length - k) (by simp (decide := true) only [W, ↓reduceIte, Int.reduceToNat]; rfl) ?_ ⟨(0), ⟨Nat.zero_le _, rfl⟩⟩ ?_
 rotate_left
 · exact Weak.nil (by simp [St.get, lk, W, Le.refl, W]) (by simp [W])
 rintro ⟨k, hk, hI⟩
 dsimp only
 simp only [List.cons_append, List.nil_append]
 refine WP.seq ?_
 refine WP.sr [0, 1, 5, 9] (by kernel_rfl) fun K hK => ?_
 simp (decide := true) only [TF, ↓reduceIte, Int.reduceToNat]
 refine hK _ _ ?_; clear hK K
 refine WP.cond (b := _) rfl (fun q1 => ?_) (fun q1 => ?_)
 ·
  have hlt := lt_of_q q1
  have hg := getE hlt
  rw [dropE hlt, fxB_cons] at hI
  refine WP.skip ?_
  show WP _ _ _ _ _ _
  refine WP.seq ?_
  refine WP.block ?_
  refine WP.sr [0, 1, 5, 16] (by kernel_rfl) fun K hK => ?_
  simp (decide := true) only [TF, q1, hg, ↓reduceIte, Int.reduceToNat]
  refine hK _ _ ?_; clear hK K
  refine WP.cond (b := _) rfl (fun q2 => ?_) (fun q2 => ?_)
  ·
   rw [if_pos q2] at hI
   refine WP.sr [4] (by kernel_rfl) fun K hK => ?_
   simp (decide := true) only [TF, q1, hg, q2, ↓reduceIte, Int.reduceToNat]
   refine hK _ _ ?_; clear hK K
   refine WP.ret ?_
   exact Ends.pure (.inr rfl) rfl (Le.of_eq (by simp (decide := true) only [St.get, lk, W, q1, hg, q2, hI, ↓reduceIte])) (by simp)
  ·
   rw [if_neg (by rw [q2]; decide)] at hI
   refine WP.skip ?_
   show WP _ _ _ _ _ _
   refine WP.region (by kernel_rfl) fun K hK => ?_
   simp (decide := true) only [TF, q1, hg, q2, ↓reduceIte, Int.reduceToNat]
   refine hK _ _ ?_; clear hK K
   show ∃ y, _ ∧ Weak _ _ _
   refine ⟨⟨k + 1, ?_⟩, ?_, ?_⟩
   · exact ⟨by omega, hI⟩
   · dsimp only; omega
   · exact Weak.nil (by simp [St.get, lk, W, Le.refl, q1, hg, q2, wrapS hlt (show s.length ≤ 140737488355328 by omega)]) (by simp [W])
 ·
  have hge := ge_of_q q1
  rw [dropN hge, fxB_nil] at hI
  refine WP.exit ?_
  show WP _ _ _ _ _ _
  refine WP.sr [4] (by kernel_rfl) fun K hK => ?_
  simp (decide := true) only [TF, q1, ↓reduceIte, Int.reduceToNat]
  refine hK _ _ ?_; clear hK K
  refine WP.ret ?_
  exact Ends.pure (.inr rfl) rfl (Le.of_eq (by simp (decide := true) only [St.get, lk, W, q1, hI, ↓reduceIte])) (by simp)
theorem c_r_cut (s : List UInt8) (c : UInt8) (hs : s.length ≤ 1099511627776) : CallP Pr 77 [.str s, .int .u8 c.toNat] (.slice 1 false ((cutA c [] s).map fun x => [D.str x]) none) := by
 refine CallP.of_wp Tryz.func77 rfl (by kernel_rfl) Tryz.ntmps77 (by simp) ?_
 simp only [frameOf, Nat.reduceAdd, Nat.zero_add]
 refine WP.sr [0, 1] (by kernel_rfl) fun K hK => ?_
 simp (decide := true) only [TF, map1, ↓reduceIte, Int.reduceToNat]
 refine hK _ _ ?_; clear hK K
 refine WP.sr [0, 1, 5] (by kernel_rfl) fun K hK => ?_
 simp (decide := true) only [TF, map1, ↓reduceIte, Int.reduceToNat]
 refine hK _ _ ?_; clear hK K
 refine WP.sr [0, 1, 5, 6] (by kernel_rfl) fun K hK => ?_
 simp (decide := true) only [TF, map1, ↓reduceIte, Int.reduceToNat]
 refine hK _ _ ?_; clear hK K
 refine WP.seq ?_
 refine WP.sr [0, 1, 5, 6, 7] (by kernel_rfl) fun K hK => ?_
 simp (decide := true) only [TF, map1, ↓reduceIte, Int.reduceToNat]
 refine hK _ _ ?_; clear hK K
 refine WP.block ?_
 refine WP.lp [0, 1] (X := {x : (Nat) × (Nat) × (Wds) // match x with | (k, f, out) => f ≤ k ∧ out.length ≤ k ∧ k ≤ s.length ∧ cutA c [] s = out ++ cutA c ((s.take k).drop f) (s.drop k)}) (fun x => match x with | ⟨(k, f, out), _⟩ => [(5, .slice 1 out.isEmpty (out.map (fun x => [D.str x])) (some 0)), (6, .int .i64 f), (7, .int .i64 k)]) (fun x => match x with | ⟨(k, f, out), _⟩ => [(0, .tip 9 1 out.length)]) (fun x => match x with | ⟨(k, f, out), _⟩ => s.length - k) (by simp (decide := true) only [W, ↓reduceIte, Int.reduceToNat]; rfl) ?_ ⟨(0, 0, []), ⟨Nat.le_refl _, Nat.le_refl _, Nat.zero_le _, by simp⟩⟩ ?_
 rotate_left
 · refine Weak.trans (Weak.ghost 0 9 1 (F' := [(7, .int .i64 0), (6, .int .i64 0), (5, .slice 1 true [] (some 0)), (0, .str s), (1, .int .u8 c.toNat)]) (σ' := []) (by simp [lk, W]) (by simp [W, keep, ins, UpF, UpD]) (by simp [UpS])) ?_; exact Weak.store (by simp [St.get, lk, W, Le.refl, W]) (by simp [lk, W]) (by simp [lk]) (by simp [BClo, lk]) (by simp [lk])
 rintro ⟨⟨k, f, out⟩, hfk, ho, hks, hI⟩
 dsimp only
 simp only [List.cons_append, List.nil_append]
 refine WP.seq ?_
 refine WP.sr [0, 1, 5, 6, 7, 11] (by kernel_rfl) fun K hK => ?_
 simp (decide := true) only [TF, map1, ↓reduceIte, Int.reduceToNat]
 refine hK _ _ ?_; clear hK K
 refine WP.cond (b := _) rfl (fun q1 => ?_) (fun q1 => ?_)
 ·
  have hlt := lt_of_q q1
  have hg := getE hlt
  rw [dropE hlt, cutA] at hI
  refine WP.skip ?_
  show WP _ _ _ _ _ _
  refine WP.seq ?_
  refine WP.block ?_
  refine WP.sr [0, 1, 5, 6, 7, 18] (by kernel_rfl) fun K hK => ?_
  simp (decide := true) only [TF, q1, hg, hfk, hks, map1, ↓reduceIte, Int.reduceToNat]
  refine hK _ _ ?_; clear hK K
  refine WP.cond (b := _) rfl (fun q2 => ?_) (fun q2 => ?_)
  ·
   have hsc := q2
   refine WP.sr [0, 1, 5, 7] (by kernel_rfl) fun K hK => ?_
   simp (decide := true) only [TF, q1, hg, hfk, hks, q2, map1, ↓reduceIte, Int.reduceToNat]
   refine ⟨⟨by simp only [List.length_append, List.length_map, List.length_cons, List.length_nil]; omega, by simp only [List.length_append, List.length_map, List.length_cons, List.length_nil]; omega⟩, ?_⟩
   refine hK _ _ ?_; clear hK K
   refine WP.region (by kernel_rfl) fun K hK => ?_
   simp (decide := true) only [TF, q1, hg, hfk, hks, q2, map1, ↓reduceIte, Int.reduceToNat]
   refine hK _ _ ?_; clear hK K
   show WP _ _ _ _ _ _
   refine WP.region (by kernel_rfl) fun K hK => ?_
   simp (decide := true) only [TF, q1, hg, hfk, hks, q2, map1, ↓reduceIte, Int.reduceToNat]
   refine hK _ _ ?_; clear hK K
   show ∃ y, _ ∧ Weak _ _ _
   rw [if_pos hsc] at hI
   refine ⟨⟨(k + 1, k + 1, out ++ [(s.take k).drop f]), ?_⟩, ?_, ?_⟩
   · exact ⟨Nat.le_refl _, by simp; omega, by dsimp only; omega, by rw [hI]; simp⟩
   · dsimp only; omega
   · exact Weak.store (by simp [St.get, lk, W, Le.refl, q1, hg, hfk, hks, q2, isE2, wrapS hlt (show s.length ≤ 140737488355328 by omega)]) (by simp [lk, W, isE2]) (by simp [lk, W, or_imp, forall_and]) (by simp [BClo, lk]) (by simp [lk])
  ·
   have hsc := q2
   refine WP.skip ?_
   show WP _ _ _ _ _ _
   refine WP.region (by kernel_rfl) fun K hK => ?_
   simp (decide := true) only [TF, q1, hg, hfk, hks, q2, map1, ↓reduceIte, Int.reduceToNat]
   refine hK _ _ ?_; clear hK K
   show ∃ y, _ ∧ Weak _ _ _
   rw [if_neg (by rw [hsc]; decide)] at hI
   refine ⟨⟨(k + 1, f, out), ?_⟩, ?_, ?_⟩
   · refine ⟨by dsimp only; omega, by dsimp only; omega, by dsimp only; omega, ?_⟩; dsimp only; rw [hI, takeS hlt, List.drop_append_of_le_length (by simp; omega)]
   · dsimp only; omega
   · exact Weak.store (by simp [St.get, lk, W, Le.refl, q1, hg, hfk, hks, q2, isE2, wrapS hlt (show s.length ≤ 140737488355328 by omega)]) (by simp [lk, W, isE2]) (by simp [lk, W, or_imp, forall_and]) (by simp [BClo, lk]) (by simp [lk])
 ·
  have hge := ge_of_q q1
  have hfs : f ≤ s.length := by omega
  rw [dropN hge, List.take_of_length_le hge, cutA] at hI
  refine WP.exit ?_
  show WP _ _ _ _ _ _
  refine WP.sr [4] (by kernel_rfl) fun K hK => ?_
  simp (decide := true) only [TF, q1, hfs, map1, ↓reduceIte, Int.reduceToNat]
  refine ⟨⟨by simp only [List.length_append, List.length_map, List.length_cons, List.length_nil]; omega, by simp only [List.length_append, List.length_map, List.length_cons, List.length_nil]; omega⟩, ?_⟩
  refine hK _ _ ?_; clear hK K
  refine WP.ret ?_
  exact Ends.pure (.inr rfl) rfl (Le.trans (Le.fg _) (Le.of_eq (by rw [hI]; simp [fg, St.get, lk, W, isE2, q1, hfs]))) (by simp)
end Go.Proofs

/-
  Plain: reading the line of a key. Conditions: as each theorem says.
-/
set_option linter.unusedSimpArgs false
set_option linter.unusedVariables false
namespace Go.Proofs
open Go Go.Id
theorem takeMap {α β : Type} (f : α → β) (l : List α) : (l.map f).take l.length = l.map f := by rw [← List.length_map (f := f), List.take_length]
def wdAt (ws : Wds) (i : Nat) : List UInt8 := (ws[i]?).getD []
theorem rdN_err (s : List UInt8) : (rdN s).2 = 0 ∨ (rdN s).2 = 4 ∨ (rdN s).2 = 27 := by
  unfold rdN
  split
  · exact .inr (.inl rfl)
  · repeat' split
    all_goals first | exact .inl rfl | exact .inr (.inl rfl) | exact .inr (.inr rfl)
def anF (r : Wds) : Bool := r.any fun x => (rdN x).2 == 4
def anW (r : Wds) : Bool := r.any fun x => (rdN x).2 == 27
def erF (e : Int) (r : Wds) : Int := if anF r then 4 else e
/-- The error of a line, by the error of its secret. -/
def erK (e : Int) (r : Wds) : Int := if (erF e r == 0 && anW r) = true then 27 else erF e r
def ueB (w : List UInt8) : Int := if (unB w).isSome then 0 else 4
def keyR (w0 w1 : List UInt8) (r : Wds) : Key := ⟨w0, (unB w1).getD [], (rdN (wdAt r 0)).1, (rdN (wdAt r 1)).1, (rdN (wdAt r 2)).1, (rdN (wdAt r 3)).1⟩
def rdK (ws : Wds) : Key × Int :=
  match ws with
  | w0 :: w1 :: r => if r.length = 4 then (if erK (ueB w1) r = 0 then (keyR w0 w1 r, 0) else (zeroK, erK (ueB w1) r)) else (zeroK, 4)
  | _ => (zeroK, 4)
theorem anF_next (r : Wds) (k : Nat) (h : k < r.length) : anF (r.take (k + 1)) = (anF (r.take k) || ((rdN r[k]).2 == 4)) := by
  rw [anF, List.take_succ_eq_append_getElem h, List.any_append]; simp [anF]
theorem anW_next (r : Wds) (k : Nat) (h : k < r.length) : anW (r.take (k + 1)) = (anW (r.take k) || ((rdN r[k]).2 == 27)) := by
  rw [anW, List.take_succ_eq_append_getElem h, List.any_append]; simp [anW]
theorem erF_yes (e : Int) (r : Wds) (k : Nat) (h : k < r.length) (h4 : (rdN r[k]).2 = 4) : erF e (r.take (k + 1)) = 4 := by
  simp [erF, anF_next r k h, h4]
theorem erF_no (e : Int) (r : Wds) (k : Nat) (h : k < r.length) (h4 : ((rdN r[k]).2 == 4) = false) : erF e (r.take (k + 1)) = erF e (r.take k) := by
  simp [erF, anF_next r k h, h4]
/-- The four numbers, of which k are read. -/
def arK (r : Wds) (k : Nat) : List D := ((r.take k).map fun x => D.int .i64 (rdN x).1) ++ List.replicate (4 - k) (D.int .i64 0)
theorem arK_0 (r : Wds) : arK r 0 = [D.int .i64 0, D.int .i64 0, D.int .i64 0, D.int .i64 0] := rfl
theorem arK_len (r : Wds) (k : Nat) (h : k ≤ 4) (hr : r.length = 4) : (arK r k).length = 4 := by
  simp [arK, List.length_take]; omega
theorem arK_put (r : Wds) (k : Nat) (h : k < r.length) (hr : r.length = 4) : (arK r k).take k ++ D.int .i64 (rdN r[k]).1 :: (arK r k).drop (k + 1) = arK r (k + 1) := by
  have hl : ((r.take k).map fun x => D.int .i64 (rdN x).1).length = k := by simp [List.length_take]; omega
  have e : 4 - k = 4 - (k + 1) + 1 := by omega
  have eA : arK r k = ((r.take k).map fun x => D.int .i64 (rdN x).1) ++ (D.int .i64 0 :: List.replicate (4 - (k + 1)) (D.int .i64 0)) := by
    rw [arK, e, List.replicate_succ]
  have eB : arK r (k + 1) = ((r.take k).map fun x => D.int .i64 (rdN x).1) ++ (D.int .i64 (rdN r[k]).1 :: List.replicate (4 - (k + 1)) (D.int .i64 0)) := by
    rw [arK, List.take_succ_eq_append_getElem h, List.map_append, List.append_assoc]; rfl
  rw [eA, eB, List.take_append, List.drop_append, hl, List.take_of_length_le (by omega), show ((r.take k).map fun x => D.int .i64 (rdN x).1).drop (k + 1) = [] from List.drop_eq_nil_of_le (by omega), show k - k = 0 by omega, show k + 1 - k = 1 by omega]
  simp
@[simp] theorem clo_arK {S : Nat → Prop} (r : Wds) (k : Nat) : (∀ d ∈ arK r k, Clo S d) ↔ True := by
  simp only [iff_true, arK, List.mem_append, List.mem_map, List.mem_replicate]
  rintro d (⟨x, _, rfl⟩ | ⟨_, rfl⟩) <;> simp
theorem len4 {r : Wds} (h : r.length = 4) : ∃ a b c d, r = [a, b, c, d] := by
  match r, h with
  | [a, b, c, d], _ => exact ⟨a, b, c, d, rfl⟩
theorem len6 {ws : Wds} (h : ws.length = 6) : ∃ w0 w1 r, ws = w0 :: w1 :: r ∧ r.length = 4 := by
  match ws, h with
  | w0 :: w1 :: r, h => exact ⟨w0, w1, r, rfl, by simpa using h⟩
theorem rdK_n {ws : Wds} (h : ws.length ≠ 6) : rdK ws = (zeroK, 4) := by
  match ws, h with
  | [], _ => rfl
  | [_], _ => rfl
  | w0 :: w1 :: r, h => rw [rdK, if_neg (by intro e; apply h; simp [e])]
theorem rdK_e (w0 w1 : List UInt8) {r : Wds} (hr : r.length = 4) {e : Int} (h : erK (ueB w1) r = e) (he : e ≠ 0) : rdK (w0 :: w1 :: r) = (zeroK, e) := by
  rw [rdK, if_pos hr, if_neg (by rw [h]; exact he), h]
theorem rdK_s (w0 w1 : List UInt8) {r : Wds} (hr : r.length = 4) (h : erK (ueB w1) r = 0) : rdK (w0 :: w1 :: r) = (keyR w0 w1 r, 0) := by
  rw [rdK, if_pos hr, if_pos h]
def rdD6 (x : Key × Int) : D := .tup [.agg x.1.cs, .int .i64 x.2]
@[simp] theorem clo_rdD6 {S : Nat → Prop} (x : Key × Int) : Clo S (rdD6 x) ↔ True := by
  simp [rdD6, Key.cs]
end Go.Proofs

set_option linter.unusedSimpArgs false
set_option linter.unusedVariables false
set_option maxRecDepth 10000
namespace Go.Proofs
open Go Go.Id
set_option maxHeartbeats 4000000
theorem c_read (s : List UInt8) (hs : s.length ≤ 4096) : CallP Pr 52 [.str s] (rdD6 (rdK (cutA 32 [] s))) := by
 obtain ⟨ws, hws⟩ : ∃ ws, cutA 32 [] s = ws := ⟨_, rfl⟩
 have hv : ∀ x ∈ ws, x.length ≤ 4096 := fun x hx => by rw [← hws] at hx; have := cutA_mem 32 s [] x hx; simp at this; omega
 rw [hws]
 refine CallP.of_wp Tryz.func52 rfl (by kernel_rfl) Tryz.ntmps52 (by simp) ?_
 simp only [frameOf, Nat.reduceAdd, Nat.zero_add]
 refine WP.sr [0, 2] (by kernel_rfl) fun K hK => ?_
 simp (decide := true) only [TF, rdD, Nat.reduceMul, Nat.mul_one, ↓reduceIte, Int.reduceToNat]
 refine hK _ _ ?_; clear hK K
 refine WP.sr [2, 4] (by kernel_rfl) fun K hK => ?_
 simp (decide := true) only [TF, rdD, Nat.reduceMul, Nat.mul_one, ↓reduceIte, Int.reduceToNat]
 refine CallK.pure (show CallP Pr 74 [.str s, .str [32]] (.slice 1 false (ws.map fun x => [D.str x]) none) from by rw [← hws, ← splitL_cut]; exact lib_split s [32] (by omega) (by simp)) rfl rfl (by simp) ?_
 simp (decide := true) only [TF, rdD, Nat.reduceMul, Nat.mul_one, ↓reduceIte, Int.reduceToNat]
 refine hK _ _ ?_; clear hK K
 refine WP.seq ?_
 refine WP.sr [2, 4, 17] (by kernel_rfl) fun K hK => ?_
 simp (decide := true) only [TF, rdD, Nat.reduceMul, Nat.mul_one, ↓reduceIte, Int.reduceToNat]
 refine hK _ _ ?_; clear hK K
 refine WP.cond (b := _) rfl (fun q1 => ?_) (fun q1 => ?_)
 ·
  have h6 : ws.length ≠ 6 := by intro e; rw [e] at q1; simp at q1
  have hR := rdK_n h6
  refine WP.sr [2, 3] (by kernel_rfl) fun K hK => ?_
  simp (decide := true) only [TF, q1, hR, rdD, Nat.reduceMul, Nat.mul_one, ↓reduceIte, Int.reduceToNat]
  refine hK _ _ ?_; clear hK K
  refine WP.ret ?_
  exact Ends.pure (d := .tup [_, _]) (.inr rfl) rfl (Le.of_eq (by rw [hR]; simp [rdD6, keyR, Key.cs, zeroK, zK, St.get, lk, W, Pr_prog, q1, hR])) (by simp)
 ·
  have h6 : ws.length = 6 := by have := q1; simp at this; omega
  obtain ⟨w0, w1, r, rfl, hr⟩ := len6 h6
  have hvr : ∀ x ∈ r, x.length ≤ 4096 := fun x hx => hv x (by simp [hx])
  have hv1 : w1.length ≤ 4096 := hv w1 (by simp)
  have htm := takeMap (fun x => [D.str x]) r
  have h2l : (2 ≤ r.length + 1 + 1) = True := by simp
  refine WP.skip ?_
  show WP _ _ _ _ _ _
  rcases un_cases w1 with ⟨u, hu, hub⟩ | ⟨hu, hub⟩
  ·
   have hue : ueB w1 = 0 := by simp [ueB, hub]
   have hget : (unB w1).getD [] = u := by simp [hub]
   refine WP.sr [2, 4, 5, 6] (by kernel_rfl) fun K hK => ?_
   simp (decide := true) only [TF, q1, htm, h2l, hu, rdD, Nat.reduceMul, Nat.mul_one, ↓reduceIte, Int.reduceToNat]
   refine CallK.pure (c_unescape w1 (by omega)) rfl rfl (by simp [-List.map_take]) ?_
   simp (decide := true) only [TF, q1, htm, h2l, hu, rdD, Nat.reduceMul, Nat.mul_one, ↓reduceIte, Int.reduceToNat]
   refine hK _ _ ?_; clear hK K
   refine WP.sr [2, 4, 5, 6, 7] (by kernel_rfl) fun K hK => ?_
   simp (decide := true) only [TF, q1, htm, h2l, hu, rdD, Nat.reduceMul, Nat.mul_one, ↓reduceIte, Int.reduceToNat]
   refine hK _ _ ?_; clear hK K
   refine WP.sr [2, 4, 5, 6, 7, 8] (by kernel_rfl) fun K hK => ?_
   simp (decide := true) only [TF, q1, htm, h2l, hu, rdD, Nat.reduceMul, Nat.mul_one, ↓reduceIte, Int.reduceToNat]
   refine hK _ _ ?_; clear hK K
   refine WP.seq ?_
   refine WP.sr [2, 4, 5, 6, 7, 8, 27, 28, 29] (by kernel_rfl) fun K hK => ?_
   simp (decide := true) only [TF, q1, htm, h2l, hu, rdD, Nat.reduceMul, Nat.mul_one, ↓reduceIte, Int.reduceToNat]
   refine hK _ _ ?_; clear hK K
   refine WP.block ?_
   refine WP.lp [2, 4, 5, 7, 27, 28] (X := {k : Nat // k ≤ r.length}) (fun x => match x with | ⟨(k), _⟩ => [(6, .int .i64 (erF (ueB w1) (r.take k))), (8, .bool (anW (r.take k))), (29, .int .i64 k)]) (fun x => match x with | ⟨(k), _⟩ => [(0, .box 31 [.str [], .str [], .int .i64 0, .int .i64 0, .int .i64 0, .int .i64 0]), (1, .box 81 (arK r k))]) (fun x => match x with | ⟨(k), _⟩ => r.length - k) (by simp (decide := true) only [W, ↓reduceIte, Int.reduceToNat]; rfl) ?_ ⟨(0), Nat.zero_le _⟩ ?_
   rotate_left
   · exact Weak.store (by simp [St.get, lk, W, Le.refl, q1, htm, h2l, hu, erF, anF, anW, hue, arK_0]) (by simp [lk, W, q1, htm, h2l, hu, erF, anF, anW, hue, arK_0]) (by simp [lk, W]) (by simp [BClo, lk]) (by simp [lk])
   rintro ⟨k, hk⟩
   dsimp only
   simp only [List.cons_append, List.nil_append]
   refine WP.sr [2, 4, 5, 6, 7, 8, 27, 28, 29, 30] (by kernel_rfl) fun K hK => ?_
   simp (decide := true) only [TF, q1, htm, h2l, hu, rdD, Nat.reduceMul, Nat.mul_one, ↓reduceIte, Int.reduceToNat]
   refine hK _ _ ?_; clear hK K
   refine WP.seq ?_
   refine WP.cond (b := _) rfl (fun q2 => ?_) (fun q2 => ?_)
   ·
    have hlt := lt_of_q q2
    have hg : (r.map fun x => [D.str x])[k]? = some [.str r[k]] := getM hlt
    have hvk := hvr _ (List.getElem_mem hlt)
    have hk4 : k < 4 := by omega
    have hk5 : (k + 1 ≤ 4) = True := by simp; omega
    have hal := arK_len r k (by omega) hr
    have hput := arK_put r k hlt hr
    have hwn := anW_next r k hlt
    refine WP.skip ?_
    show WP _ _ _ _ _ _
    refine WP.seq ?_
    refine WP.block ?_
    refine WP.sr [2, 4, 5, 6, 7, 8, 9, 10, 27, 28, 29] (by kernel_rfl) fun K hK => ?_
    simp (decide := true) only [TF, q1, htm, h2l, hu, q2, hg, hk4, hk5, hal, hput, rdD, Nat.reduceMul, Nat.mul_one, ↓reduceIte, Int.reduceToNat]
    refine hK _ _ ?_; clear hK K
    refine WP.sr [2, 4, 5, 6, 7, 8, 9, 11, 12, 27, 28, 29] (by kernel_rfl) fun K hK => ?_
    simp (decide := true) only [TF, q1, htm, h2l, hu, q2, hg, hk4, hk5, hal, hput, rdD, Nat.reduceMul, Nat.mul_one, ↓reduceIte, Int.reduceToNat]
    refine CallK.pure (c_readint r[k] (by omega)) rfl rfl (by simp [-List.map_take]) ?_
    simp (decide := true) only [TF, q1, htm, h2l, hu, q2, hg, hk4, hk5, hal, hput, rdD, Nat.reduceMul, Nat.mul_one, ↓reduceIte, Int.reduceToNat]
    refine hK _ _ ?_; clear hK K
    refine WP.seq ?_
    refine WP.sr [2, 4, 5, 6, 7, 8, 9, 11, 12, 27, 28, 29, 40] (by kernel_rfl) fun K hK => ?_
    simp (decide := true) only [TF, q1, htm, h2l, hu, q2, hg, hk4, hk5, hal, hput, rdD, Nat.reduceMul, Nat.mul_one, ↓reduceIte, Int.reduceToNat]
    refine hK _ _ ?_; clear hK K
    refine WP.cond (b := _) rfl (fun q3 => ?_) (fun q3 => ?_)
    ·
     have h4 : (rdN r[k]).2 = 4 := by simpa using q3
     have her := erF_yes (ueB w1) r k hlt h4
     refine WP.region (by kernel_rfl) fun K hK => ?_
     simp (decide := true) only [TF, q1, htm, h2l, hu, q2, hg, hk4, hk5, hal, hput, q3, h4, her, rdD, Nat.reduceMul, Nat.mul_one, ↓reduceIte, Int.reduceToNat]
     refine hK _ _ ?_; clear hK K
     show WP _ _ _ _ _ _
     refine WP.sm [2, 4, 5, 6, 7, 9, 11, 27, 28, 29] 8 (.bool (anW (r.take k) || ((rdN r[k]).2 == 27))) (by kernel_rfl) (fun K hK => ?_) ?_
     ·
      refine runOps.take 2 fun J hJ => ?_
      simp (decide := true) only [TF, q1, htm, h2l, hu, q2, hg, hk4, hk5, hal, hput, q3, h4, her, rdD, Nat.reduceMul, Nat.mul_one, ↓reduceIte, Int.reduceToNat]
      refine hJ _ _ ?_; clear hJ J
      refine runOps.part 43 rfl (fun q4 => ?_) (fun q4 => ?_)
      ·
       simp (decide := true) only [TF, q1, htm, h2l, hu, q2, hg, hk4, hk5, hal, hput, q3, h4, her, q4, rdD, Nat.reduceMul, Nat.mul_one, ↓reduceIte, Int.reduceToNat]
       exact hK _ _ (by simp [St.get, lk, W]) rfl (Le.of_eq (by simp [St.get, lk, W, bne, q1, htm, h2l, hu, q2, hg, hk4, hk5, hal, hput, q3, h4, her, q4]))
      ·
       simp (decide := true) only [TF, q1, htm, h2l, hu, q2, hg, hk4, hk5, hal, hput, q3, h4, her, q4, rdD, Nat.reduceMul, Nat.mul_one, ↓reduceIte, Int.reduceToNat]
       exact hK _ _ (by simp [St.get, lk, W]) rfl (Le.of_eq (by simp [St.get, lk, W, bne, q1, htm, h2l, hu, q2, hg, hk4, hk5, hal, hput, q3, h4, her, q4]))
     ·
      refine WP.region (by kernel_rfl) fun K hK => ?_
      simp (decide := true) only [TF, q1, htm, h2l, hu, q2, hg, hk4, hk5, hal, hput, q3, h4, her, rdD, Nat.reduceMul, Nat.mul_one, ↓reduceIte, Int.reduceToNat]
      refine hK _ _ ?_; clear hK K
      show WP _ _ _ _ _ _
      refine WP.region (by kernel_rfl) fun K hK => ?_
      simp (decide := true) only [TF, q1, htm, h2l, hu, q2, hg, hk4, hk5, hal, hput, q3, h4, her, rdD, Nat.reduceMul, Nat.mul_one, ↓reduceIte, Int.reduceToNat]
      refine hK _ _ ?_; clear hK K
      show ∃ y, _ ∧ Weak _ _ _
      refine ⟨⟨k + 1, ?_⟩, ?_, ?_⟩
      · omega
      · dsimp only; omega
      · exact Weak.store (by simp [St.get, lk, W, Le.refl, q1, htm, h2l, hu, q2, hg, hk4, hk5, hal, hput, q3, h4, her, hwn, wrapS hlt (show r.length ≤ 140737488355328 by omega)]) (by simp [lk, W, q1, htm, h2l, hu, q2, hg, hk4, hk5, hal, hput, q3, h4, her, hwn, wrapS hlt (show r.length ≤ 140737488355328 by omega)]) (by simp [lk, W]) (by simp [BClo, lk]) (by simp [lk])
    ·
     have her := erF_no (ueB w1) r k hlt q3
     refine WP.skip ?_
     show WP _ _ _ _ _ _
     refine WP.sm [2, 4, 5, 6, 7, 9, 11, 27, 28, 29] 8 (.bool (anW (r.take k) || ((rdN r[k]).2 == 27))) (by kernel_rfl) (fun K hK => ?_) ?_
     ·
      refine runOps.take 2 fun J hJ => ?_
      simp (decide := true) only [TF, q1, htm, h2l, hu, q2, hg, hk4, hk5, hal, hput, q3, her, rdD, Nat.reduceMul, Nat.mul_one, ↓reduceIte, Int.reduceToNat]
      refine hJ _ _ ?_; clear hJ J
      refine runOps.part 43 rfl (fun q5 => ?_) (fun q5 => ?_)
      ·
       simp (decide := true) only [TF, q1, htm, h2l, hu, q2, hg, hk4, hk5, hal, hput, q3, her, q5, rdD, Nat.reduceMul, Nat.mul_one, ↓reduceIte, Int.reduceToNat]
       exact hK _ _ (by simp [St.get, lk, W]) rfl (Le.of_eq (by simp [St.get, lk, W, bne, q1, htm, h2l, hu, q2, hg, hk4, hk5, hal, hput, q3, her, q5]))
      ·
       simp (decide := true) only [TF, q1, htm, h2l, hu, q2, hg, hk4, hk5, hal, hput, q3, her, q5, rdD, Nat.reduceMul, Nat.mul_one, ↓reduceIte, Int.reduceToNat]
       exact hK _ _ (by simp [St.get, lk, W]) rfl (Le.of_eq (by simp [St.get, lk, W, bne, q1, htm, h2l, hu, q2, hg, hk4, hk5, hal, hput, q3, her, q5]))
     ·
      refine WP.region (by kernel_rfl) fun K hK => ?_
      simp (decide := true) only [TF, q1, htm, h2l, hu, q2, hg, hk4, hk5, hal, hput, q3, her, rdD, Nat.reduceMul, Nat.mul_one, ↓reduceIte, Int.reduceToNat]
      refine hK _ _ ?_; clear hK K
      show WP _ _ _ _ _ _
      refine WP.region (by kernel_rfl) fun K hK => ?_
      simp (decide := true) only [TF, q1, htm, h2l, hu, q2, hg, hk4, hk5, hal, hput, q3, her, rdD, Nat.reduceMul, Nat.mul_one, ↓reduceIte, Int.reduceToNat]
      refine hK _ _ ?_; clear hK K
      show ∃ y, _ ∧ Weak _ _ _
      refine ⟨⟨k + 1, ?_⟩, ?_, ?_⟩
      · omega
      · dsimp only; omega
      · exact Weak.store (by simp [St.get, lk, W, Le.refl, q1, htm, h2l, hu, q2, hg, hk4, hk5, hal, hput, q3, her, hwn, wrapS hlt (show r.length ≤ 140737488355328 by omega)]) (by simp [lk, W, q1, htm, h2l, hu, q2, hg, hk4, hk5, hal, hput, q3, her, hwn, wrapS hlt (show r.length ≤ 140737488355328 by omega)]) (by simp [lk, W]) (by simp [BClo, lk]) (by simp [lk])
   ·
    have hge := ge_of_q q2
    have htk : r.take k = r := List.take_of_length_le hge
    refine WP.exit ?_
    show WP _ _ _ _ _ _
    refine WP.seq ?_
    refine WP.sm [2, 4, 5, 6, 7] 55 (.bool (erF (ueB w1) (r.take k) == 0 && anW (r.take k))) (by kernel_rfl) (fun K hK => ?_) ?_
    ·
     refine runOps.take 3 fun J hJ => ?_
     simp (decide := true) only [TF, q1, htm, h2l, hu, q2, rdD, Nat.reduceMul, Nat.mul_one, ↓reduceIte, Int.reduceToNat]
     refine hJ _ _ ?_; clear hJ J
     refine runOps.part 53 rfl (fun q6 => ?_) (fun q6 => ?_)
     ·
      simp (decide := true) only [TF, q1, htm, h2l, hu, q2, q6, rdD, Nat.reduceMul, Nat.mul_one, ↓reduceIte, Int.reduceToNat]
      exact hK _ _ (by simp [St.get, lk, W]) rfl (Le.of_eq (by simp [St.get, lk, W, bne, q1, htm, h2l, hu, q2, q6]))
     ·
      simp (decide := true) only [TF, q1, htm, h2l, hu, q2, q6, rdD, Nat.reduceMul, Nat.mul_one, ↓reduceIte, Int.reduceToNat]
      exact hK _ _ (by simp [St.get, lk, W]) rfl (Le.of_eq (by simp [St.get, lk, W, bne, q1, htm, h2l, hu, q2, q6]))
    ·
     refine WP.cond (b := _) rfl (fun q7 => ?_) (fun q7 => ?_)
     ·
      rw [htk] at q7
      have hR := rdK_e w0 w1 hr (show erK (ueB w1) r = 27 by rw [erK, if_pos q7]) (by decide)
      refine WP.region (by kernel_rfl) fun K hK => ?_
      simp (decide := true) only [TF, q1, htm, h2l, hu, q2, q7, hR, rdD, Nat.reduceMul, Nat.mul_one, ↓reduceIte, Int.reduceToNat]
      refine hK _ _ ?_; clear hK K
      show WP _ _ _ _ _ _
      refine WP.seq ?_
      refine WP.sr [2, 4, 5, 6, 7, 57] (by kernel_rfl) fun K hK => ?_
      simp (decide := true) only [TF, q1, htm, h2l, hu, q2, q7, hR, rdD, Nat.reduceMul, Nat.mul_one, ↓reduceIte, Int.reduceToNat]
      refine hK _ _ ?_; clear hK K
      refine WP.cond (b := _) rfl (fun q8 => ?_) (fun q8 => ?_)
      ·
       refine WP.sr [2, 3] (by kernel_rfl) fun K hK => ?_
       simp (decide := true) only [TF, q1, htm, h2l, hu, q2, q7, hR, q8, rdD, Nat.reduceMul, Nat.mul_one, ↓reduceIte, Int.reduceToNat]
       refine hK _ _ ?_; clear hK K
       refine WP.ret ?_
       exact Ends.pure (d := .tup [_, _]) (.inr rfl) rfl (Le.of_eq (by rw [hR]; simp [rdD6, keyR, Key.cs, zeroK, zK, St.get, lk, W, Pr_prog, q1, htm, h2l, hu, q2, q7, hR, q8])) (by simp)
      ·
       exact absurd q8 (by decide)
     ·
      rw [htk] at q7
      have hz : erK (ueB w1) r = erF (ueB w1) r := by rw [erK, if_neg (by rw [q7]; decide)]
      refine WP.skip ?_
      show WP _ _ _ _ _ _
      refine WP.seq ?_
      refine WP.sr [2, 4, 5, 6, 7, 57] (by kernel_rfl) fun K hK => ?_
      simp (decide := true) only [TF, q1, htm, h2l, hu, q2, q7, rdD, Nat.reduceMul, Nat.mul_one, ↓reduceIte, Int.reduceToNat]
      refine hK _ _ ?_; clear hK K
      refine WP.cond (b := _) rfl (fun q9 => ?_) (fun q9 => ?_)
      ·
       rw [htk] at q9
       have hR := rdK_e w0 w1 hr hz (by simpa using q9)
       refine WP.sr [2, 3] (by kernel_rfl) fun K hK => ?_
       simp (decide := true) only [TF, q1, htm, h2l, hu, q2, q7, q9, hR, htk, rdD, Nat.reduceMul, Nat.mul_one, ↓reduceIte, Int.reduceToNat]
       refine hK _ _ ?_; clear hK K
       refine WP.ret ?_
       exact Ends.pure (d := .tup [_, _]) (.inr rfl) rfl (Le.of_eq (by rw [hR]; simp [rdD6, keyR, Key.cs, zeroK, zK, St.get, lk, W, Pr_prog, q1, htm, h2l, hu, q2, q7, q9, hR, htk])) (by simp)
      ·
       rw [htk] at q9
       have hR := rdK_s w0 w1 hr (hz.trans (by simpa using q9))
       obtain rfl : k = 4 := by omega
       obtain ⟨a, b, c, d, rfl⟩ := len4 hr
       have har : arK [a, b, c, d] 4 = [D.int .i64 (rdN a).1, D.int .i64 (rdN b).1, D.int .i64 (rdN c).1, D.int .i64 (rdN d).1] := rfl
       have hw0 : wdAt [a, b, c, d] 0 = a := rfl
       have hw1 : wdAt [a, b, c, d] 1 = b := rfl
       have hw2 : wdAt [a, b, c, d] 2 = c := rfl
       have hw3 : wdAt [a, b, c, d] 3 = d := rfl
       refine WP.skip ?_
       show WP _ _ _ _ _ _
       refine WP.sd [2, 3] (by kernel_rfl) (by kernel_rfl) fun K hK => ?_
       simp (decide := true) only [TF, q1, htm, h2l, hu, q2, q7, q9, hR, har, hw0, hw1, hw2, hw3, hget, rdD, Nat.reduceMul, Nat.mul_one, ↓reduceIte, Int.reduceToNat]
       refine hK _ _ (by kernel_rfl) ?_
       clear hK K
       refine WP.ret ?_
       exact Ends.pure (d := .tup [_, _]) (.inr rfl) rfl (Le.of_eq (by rw [hR]; simp [rdD6, keyR, Key.cs, zeroK, zK, St.get, lk, W, Pr_prog, q1, htm, h2l, hu, q2, q7, q9, hR, har, hw0, hw1, hw2, hw3, hget])) (by simp)
  ·
   have hue : ueB w1 = 4 := by simp [ueB, hub]
   have hget : (unB w1).getD [] = [] := by simp [hub]
   refine WP.sr [2, 4, 5, 6] (by kernel_rfl) fun K hK => ?_
   simp (decide := true) only [TF, q1, htm, h2l, hu, rdD, Nat.reduceMul, Nat.mul_one, ↓reduceIte, Int.reduceToNat]
   refine CallK.pure (c_unescape w1 (by omega)) rfl rfl (by simp [-List.map_take]) ?_
   simp (decide := true) only [TF, q1, htm, h2l, hu, rdD, Nat.reduceMul, Nat.mul_one, ↓reduceIte, Int.reduceToNat]
   refine hK _ _ ?_; clear hK K
   refine WP.sr [2, 4, 5, 6, 7] (by kernel_rfl) fun K hK => ?_
   simp (decide := true) only [TF, q1, htm, h2l, hu, rdD, Nat.reduceMul, Nat.mul_one, ↓reduceIte, Int.reduceToNat]
   refine hK _ _ ?_; clear hK K
   refine WP.sr [2, 4, 5, 6, 7, 8] (by kernel_rfl) fun K hK => ?_
   simp (decide := true) only [TF, q1, htm, h2l, hu, rdD, Nat.reduceMul, Nat.mul_one, ↓reduceIte, Int.reduceToNat]
   refine hK _ _ ?_; clear hK K
   refine WP.seq ?_
   refine WP.sr [2, 4, 5, 6, 7, 8, 27, 28, 29] (by kernel_rfl) fun K hK => ?_
   simp (decide := true) only [TF, q1, htm, h2l, hu, rdD, Nat.reduceMul, Nat.mul_one, ↓reduceIte, Int.reduceToNat]
   refine hK _ _ ?_; clear hK K
   refine WP.block ?_
   refine WP.lp [2, 4, 5, 7, 27, 28] (X := {k : Nat // k ≤ r.length}) (fun x => match x with | ⟨(k), _⟩ => [(6, .int .i64 (erF (ueB w1) (r.take k))), (8, .bool (anW (r.take k))), (29, .int .i64 k)]) (fun x => match x with | ⟨(k), _⟩ => [(0, .box 31 [.str [], .str [], .int .i64 0, .int .i64 0, .int .i64 0, .int .i64 0]), (1, .box 81 (arK r k))]) (fun x => match x with | ⟨(k), _⟩ => r.length - k) (by simp (decide := true) only [W, ↓reduceIte, Int.reduceToNat]; rfl) ?_ ⟨(0), Nat.zero_le _⟩ ?_
   rotate_left
   · exact Weak.store (by simp [St.get, lk, W, Le.refl, q1, htm, h2l, hu, erF, anF, anW, hue, arK_0]) (by simp [lk, W, q1, htm, h2l, hu, erF, anF, anW, hue, arK_0]) (by simp [lk, W]) (by simp [BClo, lk]) (by simp [lk])
   rintro ⟨k, hk⟩
   dsimp only
   simp only [List.cons_append, List.nil_append]
   refine WP.sr [2, 4, 5, 6, 7, 8, 27, 28, 29, 30] (by kernel_rfl) fun K hK => ?_
   simp (decide := true) only [TF, q1, htm, h2l, hu, rdD, Nat.reduceMul, Nat.mul_one, ↓reduceIte, Int.reduceToNat]
   refine hK _ _ ?_; clear hK K
   refine WP.seq ?_
   refine WP.cond (b := _) rfl (fun q10 => ?_) (fun q10 => ?_)
   ·
    have hlt := lt_of_q q10
    have hg : (r.map fun x => [D.str x])[k]? = some [.str r[k]] := getM hlt
    have hvk := hvr _ (List.getElem_mem hlt)
    have hk4 : k < 4 := by omega
    have hk5 : (k + 1 ≤ 4) = True := by simp; omega
    have hal := arK_len r k (by omega) hr
    have hput := arK_put r k hlt hr
    have hwn := anW_next r k hlt
    refine WP.skip ?_
    show WP _ _ _ _ _ _
    refine WP.seq ?_
    refine WP.block ?_
    refine WP.sr [2, 4, 5, 6, 7, 8, 9, 10, 27, 28, 29] (by kernel_rfl) fun K hK => ?_
    simp (decide := true) only [TF, q1, htm, h2l, hu, q10, hg, hk4, hk5, hal, hput, rdD, Nat.reduceMul, Nat.mul_one, ↓reduceIte, Int.reduceToNat]
    refine hK _ _ ?_; clear hK K
    refine WP.sr [2, 4, 5, 6, 7, 8, 9, 11, 12, 27, 28, 29] (by kernel_rfl) fun K hK => ?_
    simp (decide := true) only [TF, q1, htm, h2l, hu, q10, hg, hk4, hk5, hal, hput, rdD, Nat.reduceMul, Nat.mul_one, ↓reduceIte, Int.reduceToNat]
    refine CallK.pure (c_readint r[k] (by omega)) rfl rfl (by simp [-List.map_take]) ?_
    simp (decide := true) only [TF, q1, htm, h2l, hu, q10, hg, hk4, hk5, hal, hput, rdD, Nat.reduceMul, Nat.mul_one, ↓reduceIte, Int.reduceToNat]
    refine hK _ _ ?_; clear hK K
    refine WP.seq ?_
    refine WP.sr [2, 4, 5, 6, 7, 8, 9, 11, 12, 27, 28, 29, 40] (by kernel_rfl) fun K hK => ?_
    simp (decide := true) only [TF, q1, htm, h2l, hu, q10, hg, hk4, hk5, hal, hput, rdD, Nat.reduceMul, Nat.mul_one, ↓reduceIte, Int.reduceToNat]
    refine hK _ _ ?_; clear hK K
    refine WP.cond (b := _) rfl (fun q11 => ?_) (fun q11 => ?_)
    ·
     have h4 : (rdN r[k]).2 = 4 := by simpa using q11
     have her := erF_yes (ueB w1) r k hlt h4
     refine WP.region (by kernel_rfl) fun K hK => ?_
     simp (decide := true) only [TF, q1, htm, h2l, hu, q10, hg, hk4, hk5, hal, hput, q11, h4, her, rdD, Nat.reduceMul, Nat.mul_one, ↓reduceIte, Int.reduceToNat]
     refine hK _ _ ?_; clear hK K
     show WP _ _ _ _ _ _
     refine WP.sm [2, 4, 5, 6, 7, 9, 11, 27, 28, 29] 8 (.bool (anW (r.take k) || ((rdN r[k]).2 == 27))) (by kernel_rfl) (fun K hK => ?_) ?_
     ·
      refine runOps.take 2 fun J hJ => ?_
      simp (decide := true) only [TF, q1, htm, h2l, hu, q10, hg, hk4, hk5, hal, hput, q11, h4, her, rdD, Nat.reduceMul, Nat.mul_one, ↓reduceIte, Int.reduceToNat]
      refine hJ _ _ ?_; clear hJ J
      refine runOps.part 43 rfl (fun q12 => ?_) (fun q12 => ?_)
      ·
       simp (decide := true) only [TF, q1, htm, h2l, hu, q10, hg, hk4, hk5, hal, hput, q11, h4, her, q12, rdD, Nat.reduceMul, Nat.mul_one, ↓reduceIte, Int.reduceToNat]
       exact hK _ _ (by simp [St.get, lk, W]) rfl (Le.of_eq (by simp [St.get, lk, W, bne, q1, htm, h2l, hu, q10, hg, hk4, hk5, hal, hput, q11, h4, her, q12]))
      ·
       simp (decide := true) only [TF, q1, htm, h2l, hu, q10, hg, hk4, hk5, hal, hput, q11, h4, her, q12, rdD, Nat.reduceMul, Nat.mul_one, ↓reduceIte, Int.reduceToNat]
       exact hK _ _ (by simp [St.get, lk, W]) rfl (Le.of_eq (by simp [St.get, lk, W, bne, q1, htm, h2l, hu, q10, hg, hk4, hk5, hal, hput, q11, h4, her, q12]))
     ·
      refine WP.region (by kernel_rfl) fun K hK => ?_
      simp (decide := true) only [TF, q1, htm, h2l, hu, q10, hg, hk4, hk5, hal, hput, q11, h4, her, rdD, Nat.reduceMul, Nat.mul_one, ↓reduceIte, Int.reduceToNat]
      refine hK _ _ ?_; clear hK K
      show WP _ _ _ _ _ _
      refine WP.region (by kernel_rfl) fun K hK => ?_
      simp (decide := true) only [TF, q1, htm, h2l, hu, q10, hg, hk4, hk5, hal, hput, q11, h4, her, rdD, Nat.reduceMul, Nat.mul_one, ↓reduceIte, Int.reduceToNat]
      refine hK _ _ ?_; clear hK K
      show ∃ y, _ ∧ Weak _ _ _
      refine ⟨⟨k + 1, ?_⟩, ?_, ?_⟩
      · omega
      · dsimp only; omega
      · exact Weak.store (by simp [St.get, lk, W, Le.refl, q1, htm, h2l, hu, q10, hg, hk4, hk5, hal, hput, q11, h4, her, hwn, wrapS hlt (show r.length ≤ 140737488355328 by omega)]) (by simp [lk, W, q1, htm, h2l, hu, q10, hg, hk4, hk5, hal, hput, q11, h4, her, hwn, wrapS hlt (show r.length ≤ 140737488355328 by omega)]) (by simp [lk, W]) (by simp [BClo, lk]) (by simp [lk])
    ·
     have her := erF_no (ueB w1) r k hlt q11
     refine WP.skip ?_
     show WP _ _ _ _ _ _
     refine WP.sm [2, 4, 5, 6, 7, 9, 11, 27, 28, 29] 8 (.bool (anW (r.take k) || ((rdN r[k]).2 == 27))) (by kernel_rfl) (fun K hK => ?_) ?_
     ·
      refine runOps.take 2 fun J hJ => ?_
      simp (decide := true) only [TF, q1, htm, h2l, hu, q10, hg, hk4, hk5, hal, hput, q11, her, rdD, Nat.reduceMul, Nat.mul_one, ↓reduceIte, Int.reduceToNat]
      refine hJ _ _ ?_; clear hJ J
      refine runOps.part 43 rfl (fun q13 => ?_) (fun q13 => ?_)
      ·
       simp (decide := true) only [TF, q1, htm, h2l, hu, q10, hg, hk4, hk5, hal, hput, q11, her, q13, rdD, Nat.reduceMul, Nat.mul_one, ↓reduceIte, Int.reduceToNat]
       exact hK _ _ (by simp [St.get, lk, W]) rfl (Le.of_eq (by simp [St.get, lk, W, bne, q1, htm, h2l, hu, q10, hg, hk4, hk5, hal, hput, q11, her, q13]))
      ·
       simp (decide := true) only [TF, q1, htm, h2l, hu, q10, hg, hk4, hk5, hal, hput, q11, her, q13, rdD, Nat.reduceMul, Nat.mul_one, ↓reduceIte, Int.reduceToNat]
       exact hK _ _ (by simp [St.get, lk, W]) rfl (Le.of_eq (by simp [St.get, lk, W, bne, q1, htm, h2l, hu, q10, hg, hk4, hk5, hal, hput, q11, her, q13]))
     ·
      refine WP.region (by kernel_rfl) fun K hK => ?_
      simp (decide := true) only [TF, q1, htm, h2l, hu, q10, hg, hk4, hk5, hal, hput, q11, her, rdD, Nat.reduceMul, Nat.mul_one, ↓reduceIte, Int.reduceToNat]
      refine hK _ _ ?_; clear hK K
      show WP _ _ _ _ _ _
      refine WP.region (by kernel_rfl) fun K hK => ?_
      simp (decide := true) only [TF, q1, htm, h2l, hu, q10, hg, hk4, hk5, hal, hput, q11, her, rdD, Nat.reduceMul, Nat.mul_one, ↓reduceIte, Int.reduceToNat]
      refine hK _ _ ?_; clear hK K
      show ∃ y, _ ∧ Weak _ _ _
      refine ⟨⟨k + 1, ?_⟩, ?_, ?_⟩
      · omega
      · dsimp only; omega
      · exact Weak.store (by simp [St.get, lk, W, Le.refl, q1, htm, h2l, hu, q10, hg, hk4, hk5, hal, hput, q11, her, hwn, wrapS hlt (show r.length ≤ 140737488355328 by omega)]) (by simp [lk, W, q1, htm, h2l, hu, q10, hg, hk4, hk5, hal, hput, q11, her, hwn, wrapS hlt (show r.length ≤ 140737488355328 by omega)]) (by simp [lk, W]) (by simp [BClo, lk]) (by simp [lk])
   ·
    have hge := ge_of_q q10
    have htk : r.take k = r := List.take_of_length_le hge
    refine WP.exit ?_
    show WP _ _ _ _ _ _
    refine WP.seq ?_
    refine WP.sm [2, 4, 5, 6, 7] 55 (.bool (erF (ueB w1) (r.take k) == 0 && anW (r.take k))) (by kernel_rfl) (fun K hK => ?_) ?_
    ·
     refine runOps.take 3 fun J hJ => ?_
     simp (decide := true) only [TF, q1, htm, h2l, hu, q10, rdD, Nat.reduceMul, Nat.mul_one, ↓reduceIte, Int.reduceToNat]
     refine hJ _ _ ?_; clear hJ J
     refine runOps.part 53 rfl (fun q14 => ?_) (fun q14 => ?_)
     ·
      simp (decide := true) only [TF, q1, htm, h2l, hu, q10, q14, rdD, Nat.reduceMul, Nat.mul_one, ↓reduceIte, Int.reduceToNat]
      exact hK _ _ (by simp [St.get, lk, W]) rfl (Le.of_eq (by simp [St.get, lk, W, bne, q1, htm, h2l, hu, q10, q14]))
     ·
      simp (decide := true) only [TF, q1, htm, h2l, hu, q10, q14, rdD, Nat.reduceMul, Nat.mul_one, ↓reduceIte, Int.reduceToNat]
      exact hK _ _ (by simp [St.get, lk, W]) rfl (Le.of_eq (by simp [St.get, lk, W, bne, q1, htm, h2l, hu, q10, q14]))
    ·
     refine WP.cond (b := _) rfl (fun q15 => ?_) (fun q15 => ?_)
     ·
      rw [htk] at q15
      have hR := rdK_e w0 w1 hr (show erK (ueB w1) r = 27 by rw [erK, if_pos q15]) (by decide)
      refine WP.region (by kernel_rfl) fun K hK => ?_
      simp (decide := true) only [TF, q1, htm, h2l, hu, q10, q15, hR, rdD, Nat.reduceMul, Nat.mul_one, ↓reduceIte, Int.reduceToNat]
      refine hK _ _ ?_; clear hK K
      show WP _ _ _ _ _ _
      refine WP.seq ?_
      refine WP.sr [2, 4, 5, 6, 7, 57] (by kernel_rfl) fun K hK => ?_
      simp (decide := true) only [TF, q1, htm, h2l, hu, q10, q15, hR, rdD, Nat.reduceMul, Nat.mul_one, ↓reduceIte, Int.reduceToNat]
      refine hK _ _ ?_; clear hK K
      refine WP.cond (b := _) rfl (fun q16 => ?_) (fun q16 => ?_)
      ·
       refine WP.sr [2, 3] (by kernel_rfl) fun K hK => ?_
       simp (decide := true) only [TF, q1, htm, h2l, hu, q10, q15, hR, q16, rdD, Nat.reduceMul, Nat.mul_one, ↓reduceIte, Int.reduceToNat]
       refine hK _ _ ?_; clear hK K
       refine WP.ret ?_
       exact Ends.pure (d := .tup [_, _]) (.inr rfl) rfl (Le.of_eq (by rw [hR]; simp [rdD6, keyR, Key.cs, zeroK, zK, St.get, lk, W, Pr_prog, q1, htm, h2l, hu, q10, q15, hR, q16])) (by simp)
      ·
       exact absurd q16 (by decide)
     ·
      rw [htk] at q15
      have hz : erK (ueB w1) r = erF (ueB w1) r := by rw [erK, if_neg (by rw [q15]; decide)]
      refine WP.skip ?_
      show WP _ _ _ _ _ _
      refine WP.seq ?_
      refine WP.sr [2, 4, 5, 6, 7, 57] (by kernel_rfl) fun K hK => ?_
      simp (decide := true) only [TF, q1, htm, h2l, hu, q10, q15, rdD, Nat.reduceMul, Nat.mul_one, ↓reduceIte, Int.reduceToNat]
      refine hK _ _ ?_; clear hK K
      refine WP.cond (b := _) rfl (fun q17 => ?_) (fun q17 => ?_)
      ·
       rw [htk] at q17
       have hR := rdK_e w0 w1 hr hz (by simpa using q17)
       refine WP.sr [2, 3] (by kernel_rfl) fun K hK => ?_
       simp (decide := true) only [TF, q1, htm, h2l, hu, q10, q15, q17, hR, htk, rdD, Nat.reduceMul, Nat.mul_one, ↓reduceIte, Int.reduceToNat]
       refine hK _ _ ?_; clear hK K
       refine WP.ret ?_
       exact Ends.pure (d := .tup [_, _]) (.inr rfl) rfl (Le.of_eq (by rw [hR]; simp [rdD6, keyR, Key.cs, zeroK, zK, St.get, lk, W, Pr_prog, q1, htm, h2l, hu, q10, q15, q17, hR, htk])) (by simp)
      ·
       rw [htk] at q17
       have hR := rdK_s w0 w1 hr (hz.trans (by simpa using q17))
       obtain rfl : k = 4 := by omega
       obtain ⟨a, b, c, d, rfl⟩ := len4 hr
       have har : arK [a, b, c, d] 4 = [D.int .i64 (rdN a).1, D.int .i64 (rdN b).1, D.int .i64 (rdN c).1, D.int .i64 (rdN d).1] := rfl
       have hw0 : wdAt [a, b, c, d] 0 = a := rfl
       have hw1 : wdAt [a, b, c, d] 1 = b := rfl
       have hw2 : wdAt [a, b, c, d] 2 = c := rfl
       have hw3 : wdAt [a, b, c, d] 3 = d := rfl
       refine WP.skip ?_
       show WP _ _ _ _ _ _
       refine WP.sd [2, 3] (by kernel_rfl) (by kernel_rfl) fun K hK => ?_
       simp (decide := true) only [TF, q1, htm, h2l, hu, q10, q15, q17, hR, har, hw0, hw1, hw2, hw3, hget, rdD, Nat.reduceMul, Nat.mul_one, ↓reduceIte, Int.reduceToNat]
       refine hK _ _ (by kernel_rfl) ?_
       clear hK K
       refine WP.ret ?_
       exact Ends.pure (d := .tup [_, _]) (.inr rfl) rfl (Le.of_eq (by rw [hR]; simp [rdD6, keyR, Key.cs, zeroK, zK, St.get, lk, W, Pr_prog, q1, htm, h2l, hu, q10, q15, q17, hR, har, hw0, hw1, hw2, hw3, hget])) (by simp)
end Go.Proofs

/-
  Plain: errors of a line. Conditions: as each theorem says.
-/
set_option linter.unusedSimpArgs false
set_option linter.unusedVariables false
namespace Go.Proofs
open Go Go.Id
theorem erK_4 {w : List UInt8} (r : Wds) (h : ueB w = 4) : erK (ueB w) r = 4 := by
  have : erF (ueB w) r = 4 := by unfold erF; split <;> simp [h]
  rw [erK, this]; simp
theorem anF_mem (r : Wds) (k : Nat) (h : k < r.length) (h4 : (rdN r[k]).2 = 4) : anF r = true := by
  rw [anF, List.any_eq_true]
  exact ⟨r[k], List.getElem_mem h, by simp [h4]⟩
theorem erK_4y (e : Int) (r : Wds) (k : Nat) (h : k < r.length) (h4 : (rdN r[k]).2 = 4) : erK e r = 4 := by
  have : erF e r = 4 := by unfold erF; rw [anF_mem r k h h4]; rfl
  rw [erK, this]; simp
theorem erK_27 {w : List UInt8} (r : Wds) (h : ueB w = 0) (hf : anF r = false) (hw : anW r = true) : erK (ueB w) r = 27 := by
  simp [erK, erF, h, hf, hw]
theorem erK_0 {w : List UInt8} (r : Wds) (h : ueB w = 0) (hf : anF r = false) (hw : anW r = false) : erK (ueB w) r = 0 := by
  simp [erK, erF, h, hf, hw]
/-- The numbers that are read, as elements. -/
def nsK (r : Wds) (k : Nat) : List (List D) := (r.take k).map fun x => [D.int .i64 (rdN x).1]
theorem nsK_0 (r : Wds) : nsK r 0 = [] := rfl
theorem nsK_len (r : Wds) (k : Nat) (h : k ≤ r.length) : (nsK r k).length = k := by
  simp [nsK, List.length_take]; omega
theorem nsK_next (r : Wds) (k : Nat) (h : k < r.length) : nsK r k ++ [[D.int .i64 (rdN r[k]).1]] = nsK r (k + 1) := by
  rw [nsK, nsK, List.take_succ_eq_append_getElem h, List.map_append]; rfl
theorem nsK_4 (a b c d : List UInt8) : nsK [a, b, c, d] 4 = [[D.int .i64 (rdN a).1], [D.int .i64 (rdN b).1], [D.int .i64 (rdN c).1], [D.int .i64 (rdN d).1]] := rfl
@[simp] theorem clo_nsK {S : Nat → Prop} (r : Wds) (k : Nat) : (∀ e ∈ nsK r k, ∀ d ∈ e, Clo S d) ↔ True := by
  simp only [iff_true, nsK, List.mem_map]
  rintro e ⟨x, _, rfl⟩ d hd
  simp only [List.mem_singleton] at hd
  subst hd; simp
end Go.Proofs

set_option linter.unusedSimpArgs false
set_option linter.unusedVariables false
set_option maxRecDepth 10000
namespace Go.Proofs
open Go Go.Id
set_option maxHeartbeats 4000000
theorem c_r_read (s : List UInt8) (hs : s.length ≤ 4096) : CallP Pr 54 [.str s] (rdD6 (rdK (cutA 32 [] s))) := by
 obtain ⟨ws, hws⟩ : ∃ ws, cutA 32 [] s = ws := ⟨_, rfl⟩
 have hv : ∀ x ∈ ws, x.length ≤ 4096 := fun x hx => by rw [← hws] at hx; have := cutA_mem 32 s [] x hx; simp at this; omega
 rw [hws]
 refine CallP.of_wp Tryz.func54 rfl (by kernel_rfl) Tryz.ntmps54 (by simp) ?_
 simp only [frameOf, Nat.reduceAdd, Nat.zero_add]
 refine WP.sr [0, 2] (by kernel_rfl) fun K hK => ?_
 simp (decide := true) only [TF, rdD, Bool.false_and, ↓reduceIte, Int.reduceToNat]
 refine hK _ _ ?_; clear hK K
 refine WP.sr [2, 4] (by kernel_rfl) fun K hK => ?_
 simp (decide := true) only [TF, rdD, Bool.false_and, ↓reduceIte, Int.reduceToNat]
 refine CallK.pure (show CallP Pr 77 [.str s, .int .u8 32] (.slice 1 false (ws.map fun x => [D.str x]) none) from by rw [← hws]; exact c_r_cut s 32 (by omega)) rfl rfl (by simp) ?_
 simp (decide := true) only [TF, rdD, Bool.false_and, ↓reduceIte, Int.reduceToNat]
 refine hK _ _ ?_; clear hK K
 refine WP.seq ?_
 refine WP.sr [2, 4, 16] (by kernel_rfl) fun K hK => ?_
 simp (decide := true) only [TF, rdD, Bool.false_and, ↓reduceIte, Int.reduceToNat]
 refine hK _ _ ?_; clear hK K
 refine WP.cond (b := _) rfl (fun q1 => ?_) (fun q1 => ?_)
 ·
  have h6 : ws.length ≠ 6 := by intro e; rw [e] at q1; simp at q1
  have hR := rdK_n h6
  refine WP.sr [2, 3] (by kernel_rfl) fun K hK => ?_
  simp (decide := true) only [TF, q1, hR, rdD, Bool.false_and, ↓reduceIte, Int.reduceToNat]
  refine hK _ _ ?_; clear hK K
  refine WP.ret ?_
  exact Ends.pure (d := .tup [_, _]) (.inr rfl) rfl (Le.of_eq (by rw [hR]; simp [rdD6, keyR, Key.cs, zeroK, zK, St.get, lk, W, Pr_prog, q1, hR])) (by simp)
 ·
  have h6 : ws.length = 6 := by have := q1; simp at this; omega
  obtain ⟨w0, w1, r, rfl, hr⟩ := len6 h6
  have hvr : ∀ x ∈ r, x.length ≤ 4096 := fun x hx => hv x (by simp [hx])
  have hv1 : w1.length ≤ 4096 := hv w1 (by simp)
  have htm := takeMap (fun x => [D.str x]) r
  have h2l : (2 ≤ r.length + 1 + 1) = True := by simp
  refine WP.skip ?_
  show WP _ _ _ _ _ _
  rcases un_cases w1 with ⟨u, hu, hub⟩ | ⟨hu, hub⟩
  ·
   have hue : ueB w1 = 0 := by simp [ueB, hub]
   have hget : (unB w1).getD [] = u := by simp [hub]
   refine WP.sr [2, 4, 5, 6] (by kernel_rfl) fun K hK => ?_
   simp (decide := true) only [TF, q1, htm, h2l, hu, rdD, Bool.false_and, ↓reduceIte, Int.reduceToNat]
   refine CallK.pure (c_r_unescape w1 (by omega)) rfl rfl (by simp [-List.map_take]) ?_
   simp (decide := true) only [TF, q1, htm, h2l, hu, rdD, Bool.false_and, ↓reduceIte, Int.reduceToNat]
   refine hK _ _ ?_; clear hK K
   refine WP.seq ?_
   refine WP.sr [2, 4, 5, 26] (by kernel_rfl) fun K hK => ?_
   simp (decide := true) only [TF, q1, htm, h2l, hu, rdD, Bool.false_and, ↓reduceIte, Int.reduceToNat]
   refine hK _ _ ?_; clear hK K
   refine WP.cond (b := false) (by rfl) nofun (fun _ => ?_)
   refine WP.skip ?_
   show WP _ _ _ _ _ _
   refine WP.sr [2, 4, 5, 7] (by kernel_rfl) fun K hK => ?_
   simp (decide := true) only [TF, q1, htm, h2l, hu, rdD, Bool.false_and, ↓reduceIte, Int.reduceToNat]
   refine hK _ _ ?_; clear hK K
   refine WP.sr [2, 4, 5, 7, 8] (by kernel_rfl) fun K hK => ?_
   simp (decide := true) only [TF, q1, htm, h2l, hu, rdD, Bool.false_and, ↓reduceIte, Int.reduceToNat]
   refine hK _ _ ?_; clear hK K
   refine WP.seq ?_
   refine WP.sr [2, 4, 5, 7, 8, 9] (by kernel_rfl) fun K hK => ?_
   simp (decide := true) only [TF, q1, htm, h2l, hu, rdD, Bool.false_and, ↓reduceIte, Int.reduceToNat]
   refine hK _ _ ?_; clear hK K
   refine WP.block ?_
   refine WP.lp [2, 4, 5] (X := {k : Nat // k ≤ 4 ∧ anF (r.take k) = false}) (fun x => match x with | ⟨(k), _⟩ => [(7, .slice 1 false (nsK r k) (some 1)), (8, .int .i64 (if anW (r.take k) = true then 27 else 0)), (9, .int .i64 ((k + 2 : Nat) : Int))]) (fun x => match x with | ⟨(k), _⟩ => [(0, .box 31 [.str [], .str [], .int .i64 0, .int .i64 0, .int .i64 0, .int .i64 0]), (1, .tip 3 1 k)]) (fun x => match x with | ⟨(k), _⟩ => 4 - k) (by simp (decide := true) only [W, ↓reduceIte, Int.reduceToNat]; rfl) ?_ ⟨(0), ⟨Nat.zero_le _, rfl⟩⟩ ?_
   rotate_left
   · exact Weak.store (by simp [St.get, lk, W, Le.refl, q1, htm, h2l, hu, anW, nsK_0]) (by simp [lk, W, q1, htm, h2l, hu, anW, nsK_0]) (by simp [lk, W]) (by simp [BClo, lk]) (by simp [lk])
   rintro ⟨k, hk, hI⟩
   dsimp only
   simp only [List.cons_append, List.nil_append]
   refine WP.seq ?_
   refine WP.sr [2, 4, 5, 7, 8, 9, 30] (by kernel_rfl) fun K hK => ?_
   simp (decide := true) only [TF, q1, htm, h2l, hu, rdD, Bool.false_and, ↓reduceIte, Int.reduceToNat]
   refine hK _ _ ?_; clear hK K
   refine WP.cond (b := _) rfl (fun q2 => ?_) (fun q2 => ?_)
   ·
    have hlt : k < r.length := by have := of_decide_eq_true q2; omega
    have hg : (r.map fun x => [D.str x])[k]? = some [.str r[k]] := getM hlt
    have hvk := hvr _ (List.getElem_mem hlt)
    have hwn := anW_next r k hlt
    have hnx := nsK_next r k hlt
    have hln := nsK_len r k (by omega)
    have hln2 := nsK_len r (k + 1) (by omega)
    have hk12 : (k : Int) + 2 + 1 = (k : Int) + 1 + 2 := by omega
    refine WP.skip ?_
    show WP _ _ _ _ _ _
    refine WP.seq ?_
    refine WP.block ?_
    refine WP.sr [2, 4, 5, 7, 8, 9, 10, 11] (by kernel_rfl) fun K hK => ?_
    simp (decide := true) only [TF, q1, htm, h2l, hu, q2, hg, hln, rdD, Bool.false_and, ↓reduceIte, Int.reduceToNat]
    refine CallK.pure (c_r_readint r[k] (by omega)) rfl rfl (by simp [-List.map_take]) ?_
    simp (decide := true) only [TF, q1, htm, h2l, hu, q2, hg, hln, rdD, Bool.false_and, ↓reduceIte, Int.reduceToNat]
    refine hK _ _ ?_; clear hK K
    refine WP.seq ?_
    refine WP.sr [2, 4, 5, 7, 8, 9, 10, 11, 42] (by kernel_rfl) fun K hK => ?_
    simp (decide := true) only [TF, q1, htm, h2l, hu, q2, hg, hln, rdD, Bool.false_and, ↓reduceIte, Int.reduceToNat]
    refine hK _ _ ?_; clear hK K
    refine WP.cond (b := _) rfl (fun q3 => ?_) (fun q3 => ?_)
    ·
     have hR := rdK_e w0 w1 hr (erK_4y (ueB w1) r k hlt (by simpa using q3)) (by decide)
     refine WP.sr [2, 3] (by kernel_rfl) fun K hK => ?_
     simp (decide := true) only [TF, q1, htm, h2l, hu, q2, hg, hln, q3, hR, rdD, Bool.false_and, ↓reduceIte, Int.reduceToNat]
     refine hK _ _ ?_; clear hK K
     refine WP.ret ?_
     exact Ends.pure (d := .tup [_, _]) (.inr rfl) rfl (Le.of_eq (by rw [hR]; simp [rdD6, keyR, Key.cs, zeroK, zK, St.get, lk, W, Pr_prog, q1, htm, h2l, hu, q2, hg, hln, q3, hR])) (by simp)
    ·
     have h4 := q3
     have hIn : anF (r.take (k + 1)) = false := by rw [anF_next r k hlt, hI, h4]; rfl
     refine WP.skip ?_
     show WP _ _ _ _ _ _
     refine WP.seq ?_
     refine WP.sr [2, 4, 5, 7, 8, 9, 10, 11, 45] (by kernel_rfl) fun K hK => ?_
     simp (decide := true) only [TF, q1, htm, h2l, hu, q2, hg, hln, q3, rdD, Bool.false_and, ↓reduceIte, Int.reduceToNat]
     refine hK _ _ ?_; clear hK K
     refine WP.cond (b := _) rfl (fun q4 => ?_) (fun q4 => ?_)
     ·
      have h27 : (rdN r[k]).2 = 27 := by rcases rdN_err r[k] with h | h | h <;> simp [h] at q4 h4 ⊢
      have hwy : anW (r.take (k + 1)) = true := by rw [hwn, h27]; simp
      refine WP.region (by kernel_rfl) fun K hK => ?_
      simp (decide := true) only [TF, q1, htm, h2l, hu, q2, hg, hln, q3, q4, h27, hwy, rdD, Bool.false_and, ↓reduceIte, Int.reduceToNat]
      refine hK _ _ ?_; clear hK K
      show WP _ _ _ _ _ _
      refine WP.region (by kernel_rfl) fun K hK => ?_
      simp (decide := true) only [TF, q1, htm, h2l, hu, q2, hg, hln, q3, q4, h27, hwy, rdD, Bool.false_and, ↓reduceIte, Int.reduceToNat]
      refine ⟨⟨by simp; omega, by simp; omega⟩, ?_⟩
      refine hK _ _ ?_; clear hK K
      show WP _ _ _ _ _ _
      refine WP.region (by kernel_rfl) fun K hK => ?_
      simp (decide := true) only [TF, q1, htm, h2l, hu, q2, hg, hln, q3, q4, h27, hwy, rdD, Bool.false_and, ↓reduceIte, Int.reduceToNat]
      refine hK _ _ ?_; clear hK K
      show ∃ y, _ ∧ Weak _ _ _
      refine ⟨⟨k + 1, ?_⟩, ?_, ?_⟩
      · exact ⟨by omega, hIn⟩
      · dsimp only; omega
      · exact Weak.store (by simp [St.get, lk, W, Le.refl, q1, htm, h2l, hu, q2, hg, hln, q3, q4, h27, hwy, hnx, hk12, wrap_i64 (show (-9223372036854775808 : Int) ≤ (k : Int) + 2 + 1 by omega) (show (k : Int) + 2 + 1 ≤ 9223372036854775807 by omega), wrap_i64 (show (-9223372036854775808 : Int) ≤ (k : Int) + 1 + 2 by omega) (show (k : Int) + 1 + 2 ≤ 9223372036854775807 by omega)]) (by simp [lk, W, q1, htm, h2l, hu, q2, hg, hln, q3, q4, h27, hwy, hnx, hln2]) (by simp [lk, W, or_imp, forall_and]) (by simp [BClo, lk]) (by simp [lk])
     ·
      have h0 : (rdN r[k]).2 = 0 := by simpa using q4
      have hwy : anW (r.take (k + 1)) = anW (r.take k) := by rw [hwn, h0]; simp
      refine WP.skip ?_
      show WP _ _ _ _ _ _
      refine WP.region (by kernel_rfl) fun K hK => ?_
      simp (decide := true) only [TF, q1, htm, h2l, hu, q2, hg, hln, q3, q4, hwy, rdD, Bool.false_and, ↓reduceIte, Int.reduceToNat]
      refine ⟨⟨by simp; omega, by simp; omega⟩, ?_⟩
      refine hK _ _ ?_; clear hK K
      show WP _ _ _ _ _ _
      refine WP.region (by kernel_rfl) fun K hK => ?_
      simp (decide := true) only [TF, q1, htm, h2l, hu, q2, hg, hln, q3, q4, hwy, rdD, Bool.false_and, ↓reduceIte, Int.reduceToNat]
      refine hK _ _ ?_; clear hK K
      show ∃ y, _ ∧ Weak _ _ _
      refine ⟨⟨k + 1, ?_⟩, ?_, ?_⟩
      · exact ⟨by omega, hIn⟩
      · dsimp only; omega
      · exact Weak.store (by simp [St.get, lk, W, Le.refl, q1, htm, h2l, hu, q2, hg, hln, q3, q4, hwy, hnx, hk12, wrap_i64 (show (-9223372036854775808 : Int) ≤ (k : Int) + 2 + 1 by omega) (show (k : Int) + 2 + 1 ≤ 9223372036854775807 by omega), wrap_i64 (show (-9223372036854775808 : Int) ≤ (k : Int) + 1 + 2 by omega) (show (k : Int) + 1 + 2 ≤ 9223372036854775807 by omega)]) (by simp [lk, W, q1, htm, h2l, hu, q2, hg, hln, q3, q4, hwy, hnx, hln2]) (by simp [lk, W, or_imp, forall_and]) (by simp [BClo, lk]) (by simp [lk])
   ·
    have hk4 : k = 4 := by have := of_decide_eq_false q2; omega
    have htk : r.take k = r := List.take_of_length_le (by omega)
    rw [htk] at hI
    refine WP.exit ?_
    show WP _ _ _ _ _ _
    refine WP.seq ?_
    refine WP.sr [2, 4, 5, 7, 8, 52] (by kernel_rfl) fun K hK => ?_
    simp (decide := true) only [TF, q1, htm, h2l, hu, q2, rdD, Bool.false_and, ↓reduceIte, Int.reduceToNat]
    refine hK _ _ ?_; clear hK K
    refine WP.cond (b := _) rfl (fun q5 => ?_) (fun q5 => ?_)
    ·
     have hw : anW r = true := by rw [htk] at q5; revert q5; cases anW r <;> simp
     have hR := rdK_e w0 w1 hr (erK_27 r hue hI hw) (by decide)
     refine WP.sr [2, 3] (by kernel_rfl) fun K hK => ?_
     simp (decide := true) only [TF, q1, htm, h2l, hu, q2, q5, hR, hw, htk, rdD, Bool.false_and, ↓reduceIte, Int.reduceToNat]
     refine hK _ _ ?_; clear hK K
     refine WP.ret ?_
     exact Ends.pure (d := .tup [_, _]) (.inr rfl) rfl (Le.of_eq (by rw [hR]; simp [rdD6, keyR, Key.cs, zeroK, zK, St.get, lk, W, Pr_prog, q1, htm, h2l, hu, q2, q5, hR, hw, htk])) (by simp)
    ·
     have hw : anW r = false := by rw [htk] at q5; revert q5; cases anW r <;> simp
     have hR := rdK_s w0 w1 hr (erK_0 r hue hI hw)
     subst hk4
     obtain ⟨a, b, c, d, rfl⟩ := len4 hr
     have hns := nsK_4 a b c d
     have hw0 : wdAt [a, b, c, d] 0 = a := rfl
     have hw1 : wdAt [a, b, c, d] 1 = b := rfl
     have hw2 : wdAt [a, b, c, d] 2 = c := rfl
     have hw3 : wdAt [a, b, c, d] 3 = d := rfl
     refine WP.skip ?_
     show WP _ _ _ _ _ _
     refine WP.sd [2, 3] (by kernel_rfl) (by kernel_rfl) fun K hK => ?_
     simp (decide := true) only [TF, q1, htm, h2l, hu, q2, q5, hR, hns, hw0, hw1, hw2, hw3, hget, rdD, Bool.false_and, ↓reduceIte, Int.reduceToNat]
     refine hK _ _ (by kernel_rfl) ?_
     clear hK K
     refine WP.ret ?_
     exact Ends.pure (d := .tup [_, _]) (.inr rfl) rfl (Le.of_eq (by rw [hR]; simp [rdD6, keyR, Key.cs, zeroK, zK, St.get, lk, W, Pr_prog, q1, htm, h2l, hu, q2, q5, hR, hns, hw0, hw1, hw2, hw3, hget])) (by simp)
  ·
   have hue : ueB w1 = 4 := by simp [ueB, hub]
   have hR := rdK_e w0 w1 hr (erK_4 r hue) (by decide)
   refine WP.sr [2, 4, 5, 6] (by kernel_rfl) fun K hK => ?_
   simp (decide := true) only [TF, q1, htm, h2l, hu, hR, rdD, Bool.false_and, ↓reduceIte, Int.reduceToNat]
   refine CallK.pure (c_r_unescape w1 (by omega)) rfl rfl (by simp [-List.map_take]) ?_
   simp (decide := true) only [TF, q1, htm, h2l, hu, hR, rdD, Bool.false_and, ↓reduceIte, Int.reduceToNat]
   refine hK _ _ ?_; clear hK K
   refine WP.seq ?_
   refine WP.sr [2, 4, 5, 26] (by kernel_rfl) fun K hK => ?_
   simp (decide := true) only [TF, q1, htm, h2l, hu, hR, rdD, Bool.false_and, ↓reduceIte, Int.reduceToNat]
   refine hK _ _ ?_; clear hK K
   refine WP.cond (b := true) (by rfl) (fun _ => ?_) nofun
   refine WP.sr [2, 3] (by kernel_rfl) fun K hK => ?_
   simp (decide := true) only [TF, q1, htm, h2l, hu, hR, rdD, Bool.false_and, ↓reduceIte, Int.reduceToNat]
   refine hK _ _ ?_; clear hK K
   refine WP.ret ?_
   exact Ends.pure (d := .tup [_, _]) (.inr rfl) rfl (Le.of_eq (by rw [hR]; simp [rdD6, keyR, Key.cs, zeroK, zK, St.get, lk, W, Pr_prog, q1, htm, h2l, hu, hR])) (by simp)
end Go.Proofs

/-
  Plain: parsing the text form of keys. Conditions: as each theorem says.
-/
set_option linter.unusedSimpArgs false
set_option linter.unusedVariables false
namespace Go.Proofs
open Go Go.Id
def parseK (n : Int) (rs : List Key) : Wds → List Key × Int × Int
  | [] => (rs, 0, 0)
  | [l] => if l = [] then (rs, 0, 0) else ([], n + 1, 4)
  | l :: m :: t =>
    if (rdK (cutA 32 [] l)).2 = 0 then (if checkK (rs ++ [(rdK (cutA 32 [] l)).1]) = 0 then parseK (n + 1) (rs ++ [(rdK (cutA 32 [] l)).1]) (m :: t) else ([], n + 1, checkK (rs ++ [(rdK (cutA 32 [] l)).1])))
    else ([], n + 1, (rdK (cutA 32 [] l)).2)
def pK (s : List UInt8) : List Key × Int × Int := if 4096 < s.length then ([], 0, 3) else parseK 0 [] (cutA 10 [] s)
def pKD (x : List Key × Int × Int) : D := .tup [.slice 6 x.1.isEmpty (x.1.map Key.cs) none, .int .i64 x.2.1, .int .i64 x.2.2]
@[simp] theorem clo_pKD {S : Nat → Prop} (x : List Key × Int × Int) : Clo S (pKD x) ↔ True := by
  simp only [iff_true, pKD, clo_tup, List.mem_cons, List.mem_nil_iff, or_false]
  rintro d (rfl | rfl | rfl)
  · rw [clo_slice]; exact ⟨(clo_key _).2 trivial, by simp⟩
  · simp
  · simp
theorem pK_long {s : List UInt8} (h : 4096 < s.length) : pK s = ([], 0, 3) := by unfold pK; rw [if_pos h]
theorem pK_short {s : List UInt8} (h : s.length ≤ 4096) : pK s = parseK 0 [] (cutA 10 [] s) := by unfold pK; rw [if_neg (by omega)]
theorem parseK_e (n : Int) (rs : List Key) {l : List UInt8} (h : l = []) : parseK n rs [l] = (rs, 0, 0) := by rw [parseK, if_pos h]
theorem parseK_l (n : Int) (rs : List Key) {l : List UInt8} (h : ¬ l = []) : parseK n rs [l] = ([], n + 1, 4) := by rw [parseK, if_neg h]
theorem parseK_n (n : Int) (rs : List Key) {l m : List UInt8} {t : Wds} {k : Key} {e : Int} (h : rdK (cutA 32 [] l) = (k, e)) (he : ¬ e = 0) : parseK n rs (l :: m :: t) = ([], n + 1, e) := by rw [parseK, h]; simp only; rw [if_neg he]
theorem parseK_b (n : Int) (rs : List Key) {l m : List UInt8} {t : Wds} {k : Key} (h : rdK (cutA 32 [] l) = (k, 0)) (hk : ¬ checkK (rs ++ [k]) = 0) : parseK n rs (l :: m :: t) = ([], n + 1, checkK (rs ++ [k])) := by rw [parseK, h]; simp only; rw [if_pos trivial, if_neg hk]
theorem parseK_s (n : Int) (rs : List Key) {l m : List UInt8} {t : Wds} {k : Key} (h : rdK (cutA 32 [] l) = (k, 0)) (hk : checkK (rs ++ [k]) = 0) : parseK n rs (l :: m :: t) = parseK (n + 1) (rs ++ [k]) (m :: t) := by rw [parseK, h]; simp only; rw [if_pos trivial, if_pos hk]
theorem zeroK_ok : zeroK.ok := by simp [Key.ok, zeroK]
theorem rdK_ok {ws : Wds} (h : ∀ x ∈ ws, x.length ≤ 4096) : (rdK ws).1.ok := by
  match ws, h with
  | [], _ => exact zeroK_ok
  | [_], _ => exact zeroK_ok
  | w0 :: w1 :: r, h =>
    rw [rdK]
    split
    · split
      · have h0 := h w0 (by simp)
        have h1 := h w1 (by simp)
        have h2 := unB_get w1
        exact ⟨by simp only [keyR]; omega, by simp only [keyR]; omega⟩
      · exact zeroK_ok
    · exact zeroK_ok
theorem key_cases {l : List UInt8} (hl : l.length ≤ 4096) : ∃ (k : Key) (e : Int), rdK (cutA 32 [] l) = (k, e) ∧ rdD6 (rdK (cutA 32 [] l)) = .tup [.agg [.str k.id, .str k.sec, .int .i64 k.sf, .int .i64 k.su, .int .i64 k.af, .int .i64 k.au], .int .i64 e] ∧ k.ok :=
  ⟨_, _, rfl, rfl, rdK_ok (fun x hx => by have := cutA_mem 32 l [] x hx; simp at this; omega)⟩
theorem mapK (rs : List Key) (k : Key) : rs.map Key.cs ++ [[.str k.id, .str k.sec, .int .i64 k.sf, .int .i64 k.su, .int .i64 k.af, .int .i64 k.au]] = (rs ++ [k]).map Key.cs := by simp [Key.cs]
theorem fx_cases (r : List UInt8) : (∃ j : Nat, fxB 10 r 0 = j ∧ j < r.length ∧ cutA 10 [] r = r.take j :: cutA 10 [] (r.drop (j + 1))) ∨ (fxB 10 r 0 = -1 ∧ cutA 10 [] r = [r]) := by
  rcases fx_cut 10 r 0 with ⟨h1, h2⟩ | ⟨j, h1, h2, h3⟩
  · exact .inr ⟨h1, h2 []⟩
  · exact .inl ⟨j, by omega, h2, by simpa using h3 []⟩
end Go.Proofs

set_option linter.unusedSimpArgs false
set_option linter.unusedVariables false
set_option maxRecDepth 10000
namespace Go.Proofs
open Go Go.Id
set_option maxHeartbeats 4000000
theorem c_parse (s : List UInt8) (hs40 : s.length ≤ 1099511627776) : CallP Pr 28 [.str s] (pKD (pK s)) := by
 refine CallP.of_wp Tryz.func28 rfl (by kernel_rfl) Tryz.ntmps28 (by simp) ?_
 simp only [frameOf, Nat.reduceAdd, Nat.zero_add]
 refine WP.sr [0] (by kernel_rfl) fun K hK => ?_
 simp (decide := true) only [TF, mapK, List.isEmpty_cons, Bool.and_false, ↓reduceIte, Int.reduceToNat]
 refine hK _ _ ?_; clear hK K
 refine WP.seq ?_
 refine WP.sr [0, 15] (by kernel_rfl) fun K hK => ?_
 simp (decide := true) only [TF, mapK, List.isEmpty_cons, Bool.and_false, ↓reduceIte, Int.reduceToNat]
 refine hK _ _ ?_; clear hK K
 refine WP.cond (b := _) rfl (fun q1 => ?_) (fun q1 => ?_)
 ·
  have hR := pK_long (s := s) (by have := of_decide_eq_true q1; omega)
  refine WP.sr [2, 3, 4] (by kernel_rfl) fun K hK => ?_
  simp (decide := true) only [TF, q1, mapK, List.isEmpty_cons, Bool.and_false, ↓reduceIte, Int.reduceToNat]
  refine hK _ _ ?_; clear hK K
  refine WP.ret ?_
  exact Ends.pure (d := .tup [_, _, _]) (.inr rfl) rfl ((by rw [hR]; simp (decide := true) only [pKD, St.get, lk, W, Pr_prog, q1, ↓reduceIte, Int.reduceToNat]; first | exact Le.nil3 | exact Le.fg _)) (by simp)
 ·
  have hs : s.length ≤ 4096 := by have := of_decide_eq_false q1; omega
  have hP := pK_short hs
  refine WP.skip ?_
  show WP _ _ _ _ _ _
  refine WP.sr [0, 5] (by kernel_rfl) fun K hK => ?_
  simp (decide := true) only [TF, q1, mapK, List.isEmpty_cons, Bool.and_false, ↓reduceIte, Int.reduceToNat]
  refine hK _ _ ?_; clear hK K
  refine WP.seq ?_
  refine WP.block ?_
  refine WP.lp [] (X := {x : (List Key) × (List UInt8) // match x with | (rs, r) => rs.length + r.length ≤ s.length ∧ (∀ q ∈ rs, q.ok) ∧ pK s = parseK rs.length rs (cutA 10 [] r)}) (fun x => match x with | ⟨(rs, r), _⟩ => [(0, .str r), (5, .slice 6 rs.isEmpty (rs.map Key.cs) (some 0))]) (fun x => match x with | ⟨(rs, r), _⟩ => [(0, .tip 31 6 rs.length)]) (fun x => match x with | ⟨(rs, r), _⟩ => r.length) (by simp (decide := true) only [W, ↓reduceIte, Int.reduceToNat]; rfl) ?_ ⟨([], s), ⟨by simp, by simp, hP⟩⟩ ?_
  rotate_left
  · refine Weak.trans (Weak.ghost 0 31 6 (F' := [(5, .slice 6 true [] (some 0)), (0, .str s)]) (σ' := []) (by simp [lk, W]) (by simp [W, keep, ins, UpF, UpD]) (by simp [UpS])) ?_; exact Weak.store (by simp [St.get, lk, W, Le.refl, q1]) (by simp [lk, W]) (by simp [lk]) (by simp [BClo, lk]) (by simp [lk])
  rintro ⟨⟨rs, r⟩, hI⟩
  dsimp only
  simp only [List.cons_append, List.nil_append]
  dsimp only at hI
  clear hP
  obtain ⟨hn, hok, hP⟩ := hI
  have hw1 : IntKind.wrap .i64 ((rs.length : Int) + 1) = (rs.length : Int) + 1 := wrap_i64 (by omega) (by omega)
  refine WP.seq ?_
  refine WP.sr [0, 5, 17] (by kernel_rfl) fun K hK => ?_
  simp (decide := true) only [TF, q1, hw1, mapK, List.isEmpty_cons, Bool.and_false, ↓reduceIte, Int.reduceToNat]
  refine hK _ _ ?_; clear hK K
  refine WP.cond (b := _) rfl (fun q2 => ?_) (fun q2 => ?_)
  ·
   have hr0 : ¬ r = [] := by simpa using q2
   refine WP.skip ?_
   show WP _ _ _ _ _ _
   refine WP.block ?_
   rcases cut_cases r with ⟨a, b, hc, hcb, hab⟩ | ⟨hc, hcb⟩
   ·
    refine WP.sr [5, 6, 7, 8] (by kernel_rfl) fun K hK => ?_
    simp (decide := true) only [TF, q1, hw1, q2, hc, mapK, List.isEmpty_cons, Bool.and_false, ↓reduceIte, Int.reduceToNat]
    refine CallK.pure (lib_cut r [10] (by omega)) rfl rfl (by simp [-List.map_take]) ?_
    simp (decide := true) only [TF, q1, hw1, q2, hc, mapK, List.isEmpty_cons, Bool.and_false, ↓reduceIte, Int.reduceToNat]
    refine hK _ _ ?_; clear hK K
    refine WP.sr [5, 6, 7, 8, 9] (by kernel_rfl) fun K hK => ?_
    simp (decide := true) only [TF, q1, hw1, q2, hc, mapK, List.isEmpty_cons, Bool.and_false, ↓reduceIte, Int.reduceToNat]
    refine hK _ _ ?_; clear hK K
    refine WP.seq ?_
    refine WP.sr [5, 6, 7, 9, 28] (by kernel_rfl) fun K hK => ?_
    simp (decide := true) only [TF, q1, hw1, q2, hc, mapK, List.isEmpty_cons, Bool.and_false, ↓reduceIte, Int.reduceToNat]
    refine hK _ _ ?_; clear hK K
    refine WP.cond (b := false) (by rfl) nofun (fun _ => ?_)
    refine WP.skip ?_
    show WP _ _ _ _ _ _
    rcases key_cases (l := a) (by (try simp only [List.length_take]); omega) with ⟨k, e, hx, hrd, hkok⟩
    ·
     refine WP.sr [5, 7, 9, 10, 11] (by kernel_rfl) fun K hK => ?_
     simp (decide := true) only [TF, q1, hw1, q2, hc, hrd, mapK, List.isEmpty_cons, Bool.and_false, ↓reduceIte, Int.reduceToNat]
     refine CallK.pure (c_read a (by omega)) rfl rfl (by simp [-List.map_take]) ?_
     simp (decide := true) only [TF, q1, hw1, q2, hc, hrd, mapK, List.isEmpty_cons, Bool.and_false, ↓reduceIte, Int.reduceToNat]
     refine hK _ _ ?_; clear hK K
     refine WP.seq ?_
     refine WP.sr [5, 7, 9, 10, 11, 36] (by kernel_rfl) fun K hK => ?_
     simp (decide := true) only [TF, q1, hw1, q2, hc, hrd, mapK, List.isEmpty_cons, Bool.and_false, ↓reduceIte, Int.reduceToNat]
     refine hK _ _ ?_; clear hK K
     refine WP.cond (b := _) rfl (fun q3 => ?_) (fun q3 => ?_)
     ·
      have hR : pK s = ([], (rs.length : Int) + 1, e) := by obtain ⟨m, t, e0⟩ := cutA_ne 10 b; rw [hP, hcb, e0, parseK_n _ _ hx (by simpa using q3)]
      refine WP.sr [2, 3, 4] (by kernel_rfl) fun K hK => ?_
      simp (decide := true) only [TF, q1, hw1, q2, hc, hrd, q3, mapK, List.isEmpty_cons, Bool.and_false, ↓reduceIte, Int.reduceToNat]
      refine hK _ _ ?_; clear hK K
      refine WP.ret ?_
      exact Ends.pure (d := .tup [_, _, _]) (.inr rfl) rfl ((by rw [hR]; simp (decide := true) only [pKD, St.get, lk, W, Pr_prog, q1, hw1, q2, hc, hrd, q3, ↓reduceIte, Int.reduceToNat]; first | exact Le.nil3 | exact Le.fg _)) (by simp)
     ·
      obtain rfl : e = 0 := by simpa using q3
      refine WP.skip ?_
      show WP _ _ _ _ _ _
      refine WP.sr [5, 7, 9] (by kernel_rfl) fun K hK => ?_
      simp (decide := true) only [TF, q1, hw1, q2, hc, hrd, q3, mapK, List.isEmpty_cons, Bool.and_false, ↓reduceIte, Int.reduceToNat]
      refine ⟨⟨by simp only [List.length_append, List.length_map, List.length_cons, List.length_nil]; omega, by simp only [List.length_append, List.length_map, List.length_cons, List.length_nil]; omega⟩, ?_⟩
      refine hK _ _ ?_; clear hK K
      refine WP.seq ?_
      refine WP.sr [5, 7, 9, 12] (by kernel_rfl) fun K hK => ?_
      simp (decide := true) only [TF, q1, hw1, q2, hc, hrd, q3, mapK, List.isEmpty_cons, Bool.and_false, ↓reduceIte, Int.reduceToNat]
      refine CallK.pure (c_k_check (rs ++ [k]) false (by simp; omega) nofun (fun q hq => by rcases List.mem_append.1 hq with h | h; exact hok q h; rw [List.mem_singleton.1 h]; exact hkok)) rfl rfl (by simp [-List.map_append, -List.mem_append]) ?_
      simp (decide := true) only [TF, q1, hw1, q2, hc, hrd, q3, mapK, List.isEmpty_cons, Bool.and_false, ↓reduceIte, Int.reduceToNat]
      refine hK _ _ ?_; clear hK K
      refine WP.sr [5, 7, 9, 12, 46] (by kernel_rfl) fun K hK => ?_
      simp (decide := true) only [TF, q1, hw1, q2, hc, hrd, q3, mapK, List.isEmpty_cons, Bool.and_false, ↓reduceIte, Int.reduceToNat]
      refine hK _ _ ?_; clear hK K
      refine WP.cond (b := _) rfl (fun q4 => ?_) (fun q4 => ?_)
      ·
       have hR : pK s = ([], (rs.length : Int) + 1, checkK (rs ++ [k])) := by obtain ⟨m, t, e0⟩ := cutA_ne 10 b; rw [hP, hcb, e0, parseK_b _ _ hx (by simpa using q4)]
       refine WP.sr [2, 3, 4] (by kernel_rfl) fun K hK => ?_
       simp (decide := true) only [TF, q1, hw1, q2, hc, hrd, q3, q4, mapK, List.isEmpty_cons, Bool.and_false, ↓reduceIte, Int.reduceToNat]
       refine hK _ _ ?_; clear hK K
       refine WP.ret ?_
       exact Ends.pure (d := .tup [_, _, _]) (.inr rfl) rfl ((by rw [hR]; simp (decide := true) only [pKD, St.get, lk, W, Pr_prog, q1, hw1, q2, hc, hrd, q3, q4, ↓reduceIte, Int.reduceToNat]; first | exact Le.nil3 | exact Le.fg _)) (by simp)
      ·
       have hP2 : pK s = parseK ((rs ++ [k]).length : Nat) (rs ++ [k]) (cutA 10 [] b) := by obtain ⟨m, t, e0⟩ := cutA_ne 10 b; rw [hP, hcb, e0, parseK_s _ _ hx (by simpa using q4)]; simp
       refine WP.skip ?_
       show WP _ _ _ _ _ _
       refine WP.region (by kernel_rfl) fun K hK => ?_
       simp (decide := true) only [TF, q1, hw1, q2, hc, hrd, q3, q4, mapK, List.isEmpty_cons, Bool.and_false, ↓reduceIte, Int.reduceToNat]
       refine hK _ _ ?_; clear hK K
       show ∃ y, _ ∧ Weak _ _ _
       refine ⟨⟨(rs ++ [k], b), ?_⟩, ?_, ?_⟩
       · exact ⟨by simp; omega, fun q hq => by rcases List.mem_append.1 hq with h | h; exact hok q h; rw [List.mem_singleton.1 h]; exact hkok, hP2⟩
       · dsimp only; omega
       · exact Weak.store (by simp [St.get, lk, W, Le.refl, isE2, q1, hw1, q2, hc, hrd, q3, q4]) (by simp [lk, W, isE2, q1, hw1, q2, hc, hrd, q3, q4]) (by simp [lk, -List.map_append, -List.mem_append]) (by simp [BClo, lk]) (by simp [lk])
   ·
    have hR : pK s = ([], (rs.length : Int) + 1, 4) := by rw [hP, hcb, parseK_l _ _ hr0]
    refine WP.sr [5, 6, 7, 8] (by kernel_rfl) fun K hK => ?_
    simp (decide := true) only [TF, q1, hw1, q2, hc, mapK, List.isEmpty_cons, Bool.and_false, ↓reduceIte, Int.reduceToNat]
    refine CallK.pure (lib_cut r [10] (by omega)) rfl rfl (by simp [-List.map_take]) ?_
    simp (decide := true) only [TF, q1, hw1, q2, hc, mapK, List.isEmpty_cons, Bool.and_false, ↓reduceIte, Int.reduceToNat]
    refine hK _ _ ?_; clear hK K
    refine WP.sr [5, 6, 7, 8, 9] (by kernel_rfl) fun K hK => ?_
    simp (decide := true) only [TF, q1, hw1, q2, hc, mapK, List.isEmpty_cons, Bool.and_false, ↓reduceIte, Int.reduceToNat]
    refine hK _ _ ?_; clear hK K
    refine WP.seq ?_
    refine WP.sr [5, 6, 7, 9, 28] (by kernel_rfl) fun K hK => ?_
    simp (decide := true) only [TF, q1, hw1, q2, hc, mapK, List.isEmpty_cons, Bool.and_false, ↓reduceIte, Int.reduceToNat]
    refine hK _ _ ?_; clear hK K
    refine WP.cond (b := true) (by rfl) (fun _ => ?_) nofun
    refine WP.sr [2, 3, 4] (by kernel_rfl) fun K hK => ?_
    simp (decide := true) only [TF, q1, hw1, q2, hc, mapK, List.isEmpty_cons, Bool.and_false, ↓reduceIte, Int.reduceToNat]
    refine hK _ _ ?_; clear hK K
    refine WP.ret ?_
    exact Ends.pure (d := .tup [_, _, _]) (.inr rfl) rfl ((by rw [hR]; simp (decide := true) only [pKD, St.get, lk, W, Pr_prog, q1, hw1, q2, hc, ↓reduceIte, Int.reduceToNat]; first | exact Le.nil3 | exact Le.fg _)) (by simp)
  ·
   have hr0 : r = [] := by simpa using q2
   have hR : pK s = (rs, 0, 0) := by rw [hP, hr0]; exact parseK_e _ _ rfl
   refine WP.exit ?_
   show WP _ _ _ _ _ _
   refine WP.sr [2, 3, 4] (by kernel_rfl) fun K hK => ?_
   simp (decide := true) only [TF, q1, hw1, q2, mapK, List.isEmpty_cons, Bool.and_false, ↓reduceIte, Int.reduceToNat]
   refine hK _ _ ?_; clear hK K
   refine WP.ret ?_
   exact Ends.pure (d := .tup [_, _, _]) (.inr rfl) rfl ((by rw [hR]; simp (decide := true) only [pKD, St.get, lk, W, Pr_prog, q1, hw1, q2, ↓reduceIte, Int.reduceToNat]; first | exact Le.nil3 | exact Le.fg _)) (by simp)
theorem c_r_parse (s : List UInt8) (hs40 : s.length ≤ 1099511627776) : CallP Pr 29 [.str s] (pKD (pK s)) := by
 refine CallP.of_wp Tryz.func29 rfl (by kernel_rfl) Tryz.ntmps29 (by simp) ?_
 simp only [frameOf, Nat.reduceAdd, Nat.zero_add]
 refine WP.sr [0] (by kernel_rfl) fun K hK => ?_
 simp (decide := true) only [TF, mapK, List.isEmpty_cons, Bool.and_false, List.take_length, List.drop_zero, ↓reduceIte, Int.reduceToNat]
 refine hK _ _ ?_; clear hK K
 refine WP.seq ?_
 refine WP.sr [0, 13] (by kernel_rfl) fun K hK => ?_
 simp (decide := true) only [TF, mapK, List.isEmpty_cons, Bool.and_false, List.take_length, List.drop_zero, ↓reduceIte, Int.reduceToNat]
 refine hK _ _ ?_; clear hK K
 refine WP.cond (b := _) rfl (fun q1 => ?_) (fun q1 => ?_)
 ·
  have hR := pK_long (s := s) (by have := of_decide_eq_true q1; omega)
  refine WP.sr [2, 3, 4] (by kernel_rfl) fun K hK => ?_
  simp (decide := true) only [TF, q1, mapK, List.isEmpty_cons, Bool.and_false, List.take_length, List.drop_zero, ↓reduceIte, Int.reduceToNat]
  refine hK _ _ ?_; clear hK K
  refine WP.ret ?_
  exact Ends.pure (d := .tup [_, _, _]) (.inr rfl) rfl ((by rw [hR]; simp (decide := true) only [pKD, St.get, lk, W, Pr_prog, q1, ↓reduceIte, Int.reduceToNat]; first | exact Le.nil3 | exact Le.fg _)) (by simp)
 ·
  have hs : s.length ≤ 4096 := by have := of_decide_eq_false q1; omega
  have hP := pK_short hs
  refine WP.skip ?_
  show WP _ _ _ _ _ _
  refine WP.sr [0, 5] (by kernel_rfl) fun K hK => ?_
  simp (decide := true) only [TF, q1, mapK, List.isEmpty_cons, Bool.and_false, List.take_length, List.drop_zero, ↓reduceIte, Int.reduceToNat]
  refine hK _ _ ?_; clear hK K
  refine WP.sr [5, 6] (by kernel_rfl) fun K hK => ?_
  simp (decide := true) only [TF, q1, mapK, List.isEmpty_cons, Bool.and_false, List.take_length, List.drop_zero, ↓reduceIte, Int.reduceToNat]
  refine hK _ _ ?_; clear hK K
  refine WP.seq ?_
  refine WP.sr [5, 6, 7] (by kernel_rfl) fun K hK => ?_
  simp (decide := true) only [TF, q1, mapK, List.isEmpty_cons, Bool.and_false, List.take_length, List.drop_zero, ↓reduceIte, Int.reduceToNat]
  refine hK _ _ ?_; clear hK K
  refine WP.block ?_
  refine WP.lp [] (X := {x : (List Key) × (List UInt8) // match x with | (rs, r) => rs.length + r.length ≤ s.length ∧ (∀ q ∈ rs, q.ok) ∧ pK s = parseK rs.length rs (cutA 10 [] r)}) (fun x => match x with | ⟨(rs, r), _⟩ => [(5, .slice 6 rs.isEmpty (rs.map Key.cs) (some 0)), (6, .str r), (7, .int .i64 ((rs.length : Int) + 1))]) (fun x => match x with | ⟨(rs, r), _⟩ => [(0, .tip 31 6 rs.length)]) (fun x => match x with | ⟨(rs, r), _⟩ => r.length) (by simp (decide := true) only [W, ↓reduceIte, Int.reduceToNat]; rfl) ?_ ⟨([], s), ⟨by simp, by simp, hP⟩⟩ ?_
  rotate_left
  · refine Weak.trans (Weak.ghost 0 31 6 (F' := [(7, .int .i64 1), (6, .str s), (5, .slice 6 true [] (some 0))]) (σ' := []) (by simp [lk, W]) (by simp [W, keep, ins, UpF, UpD]) (by simp [UpS])) ?_; exact Weak.store (by simp [St.get, lk, W, Le.refl, q1]) (by simp [lk, W]) (by simp [lk]) (by simp [BClo, lk]) (by simp [lk])
  rintro ⟨⟨rs, r⟩, hI⟩
  dsimp only
  simp only [List.cons_append, List.nil_append]
  dsimp only at hI
  clear hP
  obtain ⟨hn, hok, hP⟩ := hI
  have hw1 : IntKind.wrap .i64 ((rs.length : Int) + 1) = (rs.length : Int) + 1 := wrap_i64 (by omega) (by omega)
  have hw2 : IntKind.wrap .i64 ((rs.length : Int) + 1 + 1) = (rs.length : Int) + 1 + 1 := wrap_i64 (by omega) (by omega)
  refine WP.seq ?_
  refine WP.sr [5, 6, 7, 16] (by kernel_rfl) fun K hK => ?_
  simp (decide := true) only [TF, q1, hw1, hw2, mapK, List.isEmpty_cons, Bool.and_false, List.take_length, List.drop_zero, ↓reduceIte, Int.reduceToNat]
  refine hK _ _ ?_; clear hK K
  refine WP.cond (b := _) rfl (fun q2 => ?_) (fun q2 => ?_)
  ·
   have hr0 : ¬ r = [] := by simpa using q2
   refine WP.skip ?_
   show WP _ _ _ _ _ _
   refine WP.seq ?_
   refine WP.block ?_
   rcases fx_cases r with ⟨j, hc, hj, hcb⟩ | ⟨hc, hcb⟩
   ·
    have hj0 : decide ((j : Int) < 0) = false := decide_eq_false (by omega)
    have hjl : j ≤ r.length := by omega
    have hj1 : j + 1 ≤ r.length := hj
    have hwj : IntKind.wrap .i64 ((j : Int) + 1) = ((j + 1 : Nat) : Int) := by rw [wrap_i64 (by omega) (by omega)]; rfl
    refine WP.sr [5, 6, 7, 8] (by kernel_rfl) fun K hK => ?_
    simp (decide := true) only [TF, q1, hw1, hw2, q2, hc, hj0, hjl, hj1, hwj, mapK, List.isEmpty_cons, Bool.and_false, List.take_length, List.drop_zero, ↓reduceIte, Int.reduceToNat]
    refine CallK.pure (c_r_first r 10 (by omega)) rfl rfl (by simp [-List.map_take]) ?_
    simp (decide := true) only [TF, q1, hw1, hw2, q2, hc, hj0, hjl, hj1, hwj, mapK, List.isEmpty_cons, Bool.and_false, List.take_length, List.drop_zero, ↓reduceIte, Int.reduceToNat]
    refine hK _ _ ?_; clear hK K
    refine WP.seq ?_
    refine WP.sr [5, 6, 7, 8, 22] (by kernel_rfl) fun K hK => ?_
    simp (decide := true) only [TF, q1, hw1, hw2, q2, hc, hj0, hjl, hj1, hwj, mapK, List.isEmpty_cons, Bool.and_false, List.take_length, List.drop_zero, ↓reduceIte, Int.reduceToNat]
    refine hK _ _ ?_; clear hK K
    refine WP.cond (b := false) (by rfl) nofun (fun _ => ?_)
    refine WP.skip ?_
    show WP _ _ _ _ _ _
    rcases key_cases (l := r.take j) (by (try simp only [List.length_take]); omega) with ⟨k, e, hx, hrd, hkok⟩
    ·
     refine WP.sr [5, 6, 7, 8, 9, 10] (by kernel_rfl) fun K hK => ?_
     simp (decide := true) only [TF, q1, hw1, hw2, q2, hc, hj0, hjl, hj1, hwj, hrd, mapK, List.isEmpty_cons, Bool.and_false, List.take_length, List.drop_zero, ↓reduceIte, Int.reduceToNat]
     refine CallK.pure (c_r_read (r.take j) (by simp only [List.length_take]; omega)) rfl rfl (by simp [-List.map_take]) ?_
     simp (decide := true) only [TF, q1, hw1, hw2, q2, hc, hj0, hjl, hj1, hwj, hrd, mapK, List.isEmpty_cons, Bool.and_false, List.take_length, List.drop_zero, ↓reduceIte, Int.reduceToNat]
     refine hK _ _ ?_; clear hK K
     refine WP.seq ?_
     refine WP.sr [5, 6, 7, 8, 9, 10, 32] (by kernel_rfl) fun K hK => ?_
     simp (decide := true) only [TF, q1, hw1, hw2, q2, hc, hj0, hjl, hj1, hwj, hrd, mapK, List.isEmpty_cons, Bool.and_false, List.take_length, List.drop_zero, ↓reduceIte, Int.reduceToNat]
     refine hK _ _ ?_; clear hK K
     refine WP.cond (b := _) rfl (fun q3 => ?_) (fun q3 => ?_)
     ·
      have hR : pK s = ([], (rs.length : Int) + 1, e) := by obtain ⟨m, t, e0⟩ := cutA_ne 10 (r.drop (j + 1)); rw [hP, hcb, e0, parseK_n _ _ hx (by simpa using q3)]
      refine WP.sr [2, 3, 4] (by kernel_rfl) fun K hK => ?_
      simp (decide := true) only [TF, q1, hw1, hw2, q2, hc, hj0, hjl, hj1, hwj, hrd, q3, mapK, List.isEmpty_cons, Bool.and_false, List.take_length, List.drop_zero, ↓reduceIte, Int.reduceToNat]
      refine hK _ _ ?_; clear hK K
      refine WP.ret ?_
      exact Ends.pure (d := .tup [_, _, _]) (.inr rfl) rfl ((by rw [hR]; simp (decide := true) only [pKD, St.get, lk, W, Pr_prog, q1, hw1, hw2, q2, hc, hj0, hjl, hj1, hwj, hrd, q3, ↓reduceIte, Int.reduceToNat]; first | exact Le.nil3 | exact Le.fg _)) (by simp)
     ·
      obtain rfl : e = 0 := by simpa using q3
      refine WP.skip ?_
      show WP _ _ _ _ _ _
      refine WP.sr [5, 6, 7, 8] (by kernel_rfl) fun K hK => ?_
      simp (decide := true) only [TF, q1, hw1, hw2, q2, hc, hj0, hjl, hj1, hwj, hrd, q3, mapK, List.isEmpty_cons, Bool.and_false, List.take_length, List.drop_zero, ↓reduceIte, Int.reduceToNat]
      refine ⟨⟨by simp only [List.length_append, List.length_map, List.length_cons, List.length_nil]; omega, by simp only [List.length_append, List.length_map, List.length_cons, List.length_nil]; omega⟩, ?_⟩
      refine hK _ _ ?_; clear hK K
      refine WP.sr [5, 6, 7, 8, 10] (by kernel_rfl) fun K hK => ?_
      simp (decide := true) only [TF, q1, hw1, hw2, q2, hc, hj0, hjl, hj1, hwj, hrd, q3, mapK, List.isEmpty_cons, Bool.and_false, List.take_length, List.drop_zero, ↓reduceIte, Int.reduceToNat]
      refine CallK.pure (c_r_check (rs ++ [k]) false (by simp; omega) nofun (fun q hq => by rcases List.mem_append.1 hq with h | h; exact hok q h; rw [List.mem_singleton.1 h]; exact hkok)) rfl rfl (by simp [-List.map_append, -List.mem_append]) ?_
      simp (decide := true) only [TF, q1, hw1, hw2, q2, hc, hj0, hjl, hj1, hwj, hrd, q3, mapK, List.isEmpty_cons, Bool.and_false, List.take_length, List.drop_zero, ↓reduceIte, Int.reduceToNat]
      refine hK _ _ ?_; clear hK K
      refine WP.seq ?_
      refine WP.sr [5, 6, 7, 8, 10, 42] (by kernel_rfl) fun K hK => ?_
      simp (decide := true) only [TF, q1, hw1, hw2, q2, hc, hj0, hjl, hj1, hwj, hrd, q3, mapK, List.isEmpty_cons, Bool.and_false, List.take_length, List.drop_zero, ↓reduceIte, Int.reduceToNat]
      refine hK _ _ ?_; clear hK K
      refine WP.cond (b := _) rfl (fun q4 => ?_) (fun q4 => ?_)
      ·
       have hR : pK s = ([], (rs.length : Int) + 1, checkK (rs ++ [k])) := by obtain ⟨m, t, e0⟩ := cutA_ne 10 (r.drop (j + 1)); rw [hP, hcb, e0, parseK_b _ _ hx (by simpa using q4)]
       refine WP.sr [2, 3, 4] (by kernel_rfl) fun K hK => ?_
       simp (decide := true) only [TF, q1, hw1, hw2, q2, hc, hj0, hjl, hj1, hwj, hrd, q3, q4, mapK, List.isEmpty_cons, Bool.and_false, List.take_length, List.drop_zero, ↓reduceIte, Int.reduceToNat]
       refine hK _ _ ?_; clear hK K
       refine WP.ret ?_
       exact Ends.pure (d := .tup [_, _, _]) (.inr rfl) rfl ((by rw [hR]; simp (decide := true) only [pKD, St.get, lk, W, Pr_prog, q1, hw1, hw2, q2, hc, hj0, hjl, hj1, hwj, hrd, q3, q4, ↓reduceIte, Int.reduceToNat]; first | exact Le.nil3 | exact Le.fg _)) (by simp)
      ·
       have hP2 : pK s = parseK ((rs ++ [k]).length : Nat) (rs ++ [k]) (cutA 10 [] (r.drop (j + 1))) := by obtain ⟨m, t, e0⟩ := cutA_ne 10 (r.drop (j + 1)); rw [hP, hcb, e0, parseK_s _ _ hx (by simpa using q4)]; simp
       refine WP.skip ?_
       show WP _ _ _ _ _ _
       refine WP.region (by kernel_rfl) fun K hK => ?_
       simp (decide := true) only [TF, q1, hw1, hw2, q2, hc, hj0, hjl, hj1, hwj, hrd, q3, q4, mapK, List.isEmpty_cons, Bool.and_false, List.take_length, List.drop_zero, ↓reduceIte, Int.reduceToNat]
       refine hK _ _ ?_; clear hK K
       show WP _ _ _ _ _ _
       refine WP.region (by kernel_rfl) fun K hK => ?_
       simp (decide := true) only [TF, q1, hw1, hw2, q2, hc, hj0, hjl, hj1, hwj, hrd, q3, q4, mapK, List.isEmpty_cons, Bool.and_false, List.take_length, List.drop_zero, ↓reduceIte, Int.reduceToNat]
       refine hK _ _ ?_; clear hK K
       show ∃ y, _ ∧ Weak _ _ _
       refine ⟨⟨(rs ++ [k], r.drop (j + 1)), ?_⟩, ?_, ?_⟩
       · exact ⟨by simp; omega, fun q hq => by rcases List.mem_append.1 hq with h | h; exact hok q h; rw [List.mem_singleton.1 h]; exact hkok, hP2⟩
       · dsimp only; simp; omega
       · exact Weak.store (by simp [St.get, lk, W, Le.refl, isE2, q1, hw1, hw2, q2, hc, hj0, hjl, hj1, hwj, hrd, q3, q4]) (by simp [lk, W, isE2, q1, hw1, hw2, q2, hc, hj0, hjl, hj1, hwj, hrd, q3, q4]) (by simp [lk, -List.map_append, -List.mem_append]) (by simp [BClo, lk]) (by simp [lk])
   ·
    have hR : pK s = ([], (rs.length : Int) + 1, 4) := by rw [hP, hcb, parseK_l _ _ hr0]
    refine WP.sr [5, 6, 7, 8] (by kernel_rfl) fun K hK => ?_
    simp (decide := true) only [TF, q1, hw1, hw2, q2, hc, mapK, List.isEmpty_cons, Bool.and_false, List.take_length, List.drop_zero, ↓reduceIte, Int.reduceToNat]
    refine CallK.pure (c_r_first r 10 (by omega)) rfl rfl (by simp [-List.map_take]) ?_
    simp (decide := true) only [TF, q1, hw1, hw2, q2, hc, mapK, List.isEmpty_cons, Bool.and_false, List.take_length, List.drop_zero, ↓reduceIte, Int.reduceToNat]
    refine hK _ _ ?_; clear hK K
    refine WP.seq ?_
    refine WP.sr [5, 6, 7, 8, 22] (by kernel_rfl) fun K hK => ?_
    simp (decide := true) only [TF, q1, hw1, hw2, q2, hc, mapK, List.isEmpty_cons, Bool.and_false, List.take_length, List.drop_zero, ↓reduceIte, Int.reduceToNat]
    refine hK _ _ ?_; clear hK K
    refine WP.cond (b := true) (by rfl) (fun _ => ?_) nofun
    refine WP.sr [2, 3, 4] (by kernel_rfl) fun K hK => ?_
    simp (decide := true) only [TF, q1, hw1, hw2, q2, hc, mapK, List.isEmpty_cons, Bool.and_false, List.take_length, List.drop_zero, ↓reduceIte, Int.reduceToNat]
    refine hK _ _ ?_; clear hK K
    refine WP.ret ?_
    exact Ends.pure (d := .tup [_, _, _]) (.inr rfl) rfl ((by rw [hR]; simp (decide := true) only [pKD, St.get, lk, W, Pr_prog, q1, hw1, hw2, q2, hc, ↓reduceIte, Int.reduceToNat]; first | exact Le.nil3 | exact Le.fg _)) (by simp)
  ·
   have hr0 : r = [] := by simpa using q2
   have hR : pK s = (rs, 0, 0) := by rw [hP, hr0]; exact parseK_e _ _ rfl
   refine WP.exit ?_
   show WP _ _ _ _ _ _
   refine WP.sr [2, 3, 4] (by kernel_rfl) fun K hK => ?_
   simp (decide := true) only [TF, q1, hw1, hw2, q2, mapK, List.isEmpty_cons, Bool.and_false, List.take_length, List.drop_zero, ↓reduceIte, Int.reduceToNat]
   refine hK _ _ ?_; clear hK K
   refine WP.ret ?_
   exact Ends.pure (d := .tup [_, _, _]) (.inr rfl) rfl ((by rw [hR]; simp (decide := true) only [pKD, St.get, lk, W, Pr_prog, q1, hw1, hw2, q2, ↓reduceIte, Int.reduceToNat]; first | exact Le.nil3 | exact Le.fg _)) (by simp)
end Go.Proofs

/-
  Plain: windows, as elements and as cells. Conditions: as each theorem says.
-/
set_option linter.unusedSimpArgs false
set_option linter.unusedVariables false
namespace Go.Proofs
open Go Go.Id
structure Win where
  f : Int
  u : Int
def Win.cs (w : Win) : List D := [.int .i64 w.f, .int .i64 w.u]
def flatW (l : List Win) : List D := (l.map Win.cs).flatten
@[simp] theorem clo_win {S : Nat → Prop} (l : List Win) : (∀ e ∈ l.map Win.cs, ∀ d ∈ e, Clo S d) ↔ True := by
  simp only [iff_true]
  intro e he d hd
  simp only [List.mem_map] at he
  obtain ⟨c, _, rfl⟩ := he
  simp only [Win.cs, List.mem_cons, List.mem_nil_iff, or_false] at hd
  rcases hd with rfl | rfl <;> simp
@[simp] theorem clo_wins {S : Nat → Prop} (l : List Win) : (∀ a ∈ l, ∀ d ∈ a.cs, Clo S d) ↔ True := by
  simp only [iff_true]
  intro c _ d hd
  simp only [Win.cs, List.mem_cons, List.mem_nil_iff, or_false] at hd
  rcases hd with rfl | rfl <;> simp
theorem clo_win3 {S : Nat → Prop} (rs : List Win) (x : Win) : ∀ (e : List D), (∃ a, a ∈ rs ∧ a.cs = e) ∨ e = x.cs → ∀ d ∈ e, Clo S d := by
  rintro e (⟨a, _, rfl⟩ | rfl) d hd
  all_goals
    simp only [Win.cs, List.mem_cons, List.mem_nil_iff, or_false] at hd
    rcases hd with rfl | rfl <;> simp
theorem win_len (l : List Win) : ∀ x ∈ l.map Win.cs, x.length = 2 := by
  intro x hx
  obtain ⟨k, _, rfl⟩ := List.mem_map.1 hx
  rfl
theorem win_fr (t : Nat) (l : List Win) : ∀ x ∈ l.map Win.cs, ∀ d ∈ x, Fr t d := by
  intro x hx d hd
  obtain ⟨k, _, rfl⟩ := List.mem_map.1 hx
  simp only [Win.cs, List.mem_cons, List.not_mem_nil, or_false] at hd
  rcases hd with rfl | rfl <;> simp
theorem flatW_cons (k : Win) (l : List Win) : flatW (k :: l) = k.cs ++ flatW l := by simp [flatW]
theorem flatW_len (l : List Win) : (flatW l).length = l.length * 2 := by
  have := flat_len (l.map Win.cs) (win_len l)
  simpa [flatW] using this
theorem flatW_app (a b : List Win) : flatW (a ++ b) = flatW a ++ flatW b := by simp [flatW]
theorem flatW_drop (l : List Win) (k : Nat) (h : k ≤ l.length) : (flatW l).drop (k * 2) = flatW (l.drop k) := by
  conv => lhs; rw [← List.take_append_drop k l, flatW_app]
  rw [List.drop_append_of_le_length (by rw [flatW_len, List.length_take]; omega), List.drop_eq_nil_of_le (by rw [flatW_len, List.length_take]; omega)]
  rfl
theorem flatW_get (l : List Win) (k : Nat) (h : k < l.length) : ((flatW l).drop (k * 2)).take 2 = [.int .i64 l[k].f, .int .i64 l[k].u] := by
  rw [flatW_drop l k (by omega), dropE h, flatW_cons]
  rfl
theorem flatW_room (l : List Win) (k : Nat) (h : k < l.length) : 2 ≤ ((flatW l).drop (k * 2)).length := by
  rw [List.length_drop, flatW_len]; omega
theorem clo_flatW {S : Nat → Prop} (l : List Win) : ∀ d ∈ flatW l, Clo S d := by
  intro d hd
  obtain ⟨x, hx, hd⟩ := List.mem_flatten.1 hd
  exact (clo_win l).2 trivial x hx d hd
@[simp] theorem clo_flatW_iff {S : Nat → Prop} (l : List Win) : (∀ d ∈ flatW l, Clo S d) ↔ True := ⟨fun _ => trivial, fun _ => clo_flatW l⟩
@[simp] theorem bclo_flatW {S : Nat → Prop} (e : TypeId) (l : List Win) : BClo S (.arr e (flatW l)) ↔ True := ⟨fun _ => trivial, fun _ => clo_flatW l⟩
/-! Windows that stand apart, in order. -/
def sepW : List Win → Bool
  | a :: b :: t => decide (a.f < a.u) && decide (a.u < b.f) && sepW (b :: t)
  | [a] => decide (a.f < a.u)
  | [] => true
theorem sep_real : ∀ (l : List Win), sepW l = true → ∀ w ∈ l, w.f < w.u
  | [], _, w, hw => by simp at hw
  | [a], h, w, hw => by
    simp only [List.mem_singleton] at hw
    subst hw; simpa [sepW] using h
  | a :: b :: t, h, w, hw => by
    simp only [sepW, Bool.and_eq_true, decide_eq_true_eq] at h
    rcases List.mem_cons.1 hw with rfl | hw
    · exact h.1.1
    · exact sep_real (b :: t) h.2 w hw
theorem sep_next : ∀ (l : List Win) (k : Nat) (_ : sepW l = true) (hk : k + 1 < l.length), l[k].u < l[k + 1].f
  | [], k, _, hk => by simp at hk
  | [a], k, _, hk => by simp at hk
  | a :: b :: t, 0, h, hk => by
    simp only [sepW, Bool.and_eq_true, decide_eq_true_eq] at h
    exact h.1.2
  | a :: b :: t, k + 1, h, hk => by
    simp only [sepW, Bool.and_eq_true, decide_eq_true_eq] at h
    exact sep_next (b :: t) k h.2 (by simpa using hk)
def cmpI (a b : Int) : Int := if decide (a < b) = true then -1 else if decide (a > b) = true then 1 else 0
theorem sep_cmp (l : List Win) (k : Nat) (h : sepW l = true) (hk : k + 1 < l.length) : decide (cmpI l[k + 1].f l[k].f < 0) = false := by
  have h1 := sep_next l k h hk
  have h2 := sep_real l h l[k] (List.getElem_mem _)
  have h3 : ¬ l[k + 1].f < l[k].f := by omega
  unfold cmpI
  rw [decide_eq_false h3]
  simp only [Bool.false_eq_true, if_false]
  split <;> decide
theorem sep_ix : ∀ (l : List Win) (c : Int), (∀ w ∈ l, w.f < w.u) → ixP (fun w => decide (w.f ≥ w.u)) l c = -1
  | [], _, _ => rfl
  | w :: t, c, h => by
    have h1 := h w (by simp)
    have h2 : ¬ w.f ≥ w.u := by omega
    simp only [ixP, decide_eq_false h2, Bool.false_eq_true, if_false]
    exact sep_ix t _ fun x hx => h x (by simp [hx])
theorem isE3 (l : List Win) (h : l ≠ []) : l.isEmpty = false := by cases l <;> simp_all
end Go.Proofs

set_option linter.unusedSimpArgs false
set_option linter.unusedVariables false
set_option maxRecDepth 10000
namespace Go.Proofs
open Go Go.Id
set_option maxHeartbeats 4000000
theorem c_union1 (w : Win) : CallP Pr 82 [.agg [.int .i64 w.f, .int .i64 w.u]] (.bool (decide (w.f ≥ w.u))) := by
 refine CallP.of_wp Tryz.func82 rfl (by kernel_rfl) Tryz.ntmps82 (by simp) ?_
 simp only [frameOf, Nat.reduceAdd, Nat.zero_add]
 refine WP.sr [1] (by kernel_rfl) fun K hK => ?_
 simp (decide := true) only [TF, ↓reduceIte, Int.reduceToNat]
 refine hK _ _ ?_; clear hK K
 refine WP.sr [2] (by kernel_rfl) fun K hK => ?_
 simp (decide := true) only [TF, ↓reduceIte, Int.reduceToNat]
 refine hK _ _ ?_; clear hK K
 refine WP.ret ?_
 exact Ends.pure (.inr rfl) rfl (Le.of_eq (by simp (decide := true) only [St.get, lk, W, ↓reduceIte])) (by simp)
theorem c_compare (a b : Int) : CallP Pr 85 [.int .i64 a, .int .i64 b] (.int .i64 (cmpI a b)) := by
 refine CallP.of_wp Tryz.func85 rfl (by kernel_rfl) Tryz.ntmps85 (by simp) ?_
 simp only [frameOf, Nat.reduceAdd, Nat.zero_add]
 refine WP.sr [0, 1] (by kernel_rfl) fun K hK => ?_
 simp (decide := true) only [TF, ↓reduceIte, Int.reduceToNat]
 refine hK _ _ ?_; clear hK K
 refine WP.sr [0, 1, 5] (by kernel_rfl) fun K hK => ?_
 simp (decide := true) only [TF, ↓reduceIte, Int.reduceToNat]
 refine CallK.pure (c_isnan _) rfl rfl (by simp [-List.map_take]) ?_
 simp (decide := true) only [TF, ↓reduceIte, Int.reduceToNat]
 refine hK _ _ ?_; clear hK K
 refine WP.sr [0, 1, 5, 6] (by kernel_rfl) fun K hK => ?_
 simp (decide := true) only [TF, ↓reduceIte, Int.reduceToNat]
 refine CallK.pure (c_isnan _) rfl rfl (by simp [-List.map_take]) ?_
 simp (decide := true) only [TF, ↓reduceIte, Int.reduceToNat]
 refine hK _ _ ?_; clear hK K
 refine WP.seq ?_
 refine WP.sr [0, 1, 6, 11] (by kernel_rfl) fun K hK => ?_
 simp (decide := true) only [TF, ↓reduceIte, Int.reduceToNat]
 refine hK _ _ ?_; clear hK K
 refine WP.cond (b := false) (by rfl) nofun (fun _ => ?_)
 refine WP.skip ?_
 show WP _ _ _ _ _ _
 refine WP.seq ?_
 refine WP.sr [0, 1, 13] (by kernel_rfl) fun K hK => ?_
 simp (decide := true) only [TF, ↓reduceIte, Int.reduceToNat]
 refine hK _ _ ?_; clear hK K
 refine WP.cond (b := false) (by rfl) nofun (fun _ => ?_)
 refine WP.skip ?_
 show WP _ _ _ _ _ _
 refine WP.seq ?_
 refine WP.sr [0, 1, 16] (by kernel_rfl) fun K hK => ?_
 simp (decide := true) only [TF, ↓reduceIte, Int.reduceToNat]
 refine hK _ _ ?_; clear hK K
 refine WP.cond (b := _) rfl (fun q1 => ?_) (fun q1 => ?_)
 ·
  have hc : cmpI a b = -1 := by unfold cmpI; rw [if_pos q1]
  refine WP.sr [4] (by kernel_rfl) fun K hK => ?_
  simp (decide := true) only [TF, q1, hc, ↓reduceIte, Int.reduceToNat]
  refine hK _ _ ?_; clear hK K
  refine WP.ret ?_
  exact Ends.pure (.inr rfl) rfl (Le.of_eq (by simp (decide := true) only [St.get, lk, W, q1, hc, ↓reduceIte])) (by simp)
 ·
  have h16 := q1
  refine WP.skip ?_
  show WP _ _ _ _ _ _
  refine WP.seq ?_
  refine WP.sr [19] (by kernel_rfl) fun K hK => ?_
  simp (decide := true) only [TF, q1, ↓reduceIte, Int.reduceToNat]
  refine hK _ _ ?_; clear hK K
  refine WP.cond (b := _) rfl (fun q2 => ?_) (fun q2 => ?_)
  ·
   have hc : cmpI a b = 1 := by unfold cmpI; rw [if_neg (by rw [h16]; decide), if_pos q2]
   refine WP.sr [4] (by kernel_rfl) fun K hK => ?_
   simp (decide := true) only [TF, q1, q2, hc, ↓reduceIte, Int.reduceToNat]
   refine hK _ _ ?_; clear hK K
   refine WP.ret ?_
   exact Ends.pure (.inr rfl) rfl (Le.of_eq (by simp (decide := true) only [St.get, lk, W, q1, q2, hc, ↓reduceIte])) (by simp)
  ·
   have hc : cmpI a b = 0 := by unfold cmpI; rw [if_neg (by rw [h16]; decide), if_neg (by rw [q2]; decide)]
   refine WP.skip ?_
   show WP _ _ _ _ _ _
   refine WP.sr [4] (by kernel_rfl) fun K hK => ?_
   simp (decide := true) only [TF, q1, q2, hc, ↓reduceIte, Int.reduceToNat]
   refine hK _ _ ?_; clear hK K
   refine WP.ret ?_
   exact Ends.pure (.inr rfl) rfl (Le.of_eq (by simp (decide := true) only [St.get, lk, W, q1, q2, hc, ↓reduceIte])) (by simp)
theorem c_union2 (v w : Win) : CallP Pr 84 [.agg [.int .i64 v.f, .int .i64 v.u], .agg [.int .i64 w.f, .int .i64 w.u]] (.int .i64 (cmpI v.f w.f)) := by
 refine CallP.of_wp Tryz.func84 rfl (by kernel_rfl) Tryz.ntmps84 (by simp) ?_
 simp only [frameOf, Nat.reduceAdd, Nat.zero_add]
 refine WP.sr [2, 3] (by kernel_rfl) fun K hK => ?_
 simp (decide := true) only [TF, ↓reduceIte, Int.reduceToNat]
 refine hK _ _ ?_; clear hK K
 refine WP.sr [4] (by kernel_rfl) fun K hK => ?_
 simp (decide := true) only [TF, ↓reduceIte, Int.reduceToNat]
 refine CallK.pure (c_compare _ _) rfl rfl (by simp [-List.map_take]) ?_
 simp (decide := true) only [TF, ↓reduceIte, Int.reduceToNat]
 refine hK _ _ ?_; clear hK K
 refine WP.ret ?_
 exact Ends.pure (.inr rfl) rfl (Le.of_eq (by simp (decide := true) only [St.get, lk, W, ↓reduceIte])) (by simp)
theorem c_wclone (l : List Win) (hne : l ≠ []) (hn : l.length ≤ 1099511627776) : CallE Pr 81 [.slice 2 false (l.map Win.cs) none] [] (.arr 0 2 l.length) [(0, .arr 29 (flatW l))] := by
 have hie : l.isEmpty = false := by cases l <;> simp_all
 refine CallE.of_wp Tryz.func81 rfl (by kernel_rfl) Tryz.ntmps81 (by simp) ?_
 simp only [frameOf, Nat.reduceAdd, Nat.zero_add, List.map_cons, List.map_nil]
 refine WP.sr [0] (by kernel_rfl) fun K hK => ?_
 simp (decide := true) only [TF, hie, ↓reduceIte, Int.reduceToNat]
 refine hK _ _ ?_; clear hK K
 refine WP.seq ?_
 refine WP.sr [0, 4] (by kernel_rfl) fun K hK => ?_
 simp (decide := true) only [TF, hie, ↓reduceIte, Int.reduceToNat]
 refine hK _ _ ?_; clear hK K
 refine WP.cond (b := false) (by rfl) nofun (fun _ => ?_)
 refine WP.skip ?_
 show WP _ _ _ _ _ _
 refine WP.meet ⟨[(2, .arr 0 2 (l.map Win.cs).length)], [(0, .arr 29 (flatW l))]⟩ ?_ ?_
 ·
  refine WP.region (by kernel_rfl) fun K hK => ?_
  simp (decide := true) only [TF, hie, ↓reduceIte, Int.reduceToNat]
  refine ⟨⟨by omega, by omega⟩, ?_⟩
  refine hK _ _ ?_; clear hK K
  show Weak _ _ _
  exact Weak.tipArr 0 29 2 (l.map Win.cs) 2 (by simp [St.get, lk, W, hie]) (by simp [lk, W, hie]) (win_fr 0 l) (by intro b hb; simp [lk, hb]) (by simp)
 ·
  refine WP.ret ?_
  refine Ends.imp (.inr rfl) rfl (Le.of_eq (by simp (decide := true) only [St.get, lk, W, hie, ↓reduceIte])) ?_ ?_ ?_
  · simp [lk]
  · simp [St.get, lk, W, BClo, hie]
  · simp [lk, W]
theorem c_windex (l : List Win) (hn : l.length ≤ 1099511627776) : CallE Pr 103 [.arr 0 2 l.length, .fn (.func 82) [] []] [(0, .arr 29 (flatW l))] (.int .i64 (ixP (fun w => decide (w.f ≥ w.u)) l 0)) [(0, .arr 29 (flatW l))] := by
 refine CallE.of_wp Tryz.func103 rfl (by kernel_rfl) Tryz.ntmps103 (by simp) ?_
 simp only [frameOf, Nat.reduceAdd, Nat.zero_add, List.map_cons, List.map_nil]
 refine WP.sr [0, 1] (by kernel_rfl) fun K hK => ?_
 simp (decide := true) only [TF, ↓reduceIte, Int.reduceToNat]
 refine hK _ _ ?_; clear hK K
 refine WP.seq ?_
 refine WP.sr [0, 1, 7, 8] (by kernel_rfl) fun K hK => ?_
 simp (decide := true) only [TF, ↓reduceIte, Int.reduceToNat]
 refine hK _ _ ?_; clear hK K
 refine WP.block ?_
 refine WP.lp [0, 1, 7] (X := {k : Nat // k ≤ l.length ∧ ixP (fun w => decide (w.f ≥ w.u)) l 0 = ixP (fun w => decide (w.f ≥ w.u)) (l.drop k) k}) (fun x => match x with | ⟨(k), _⟩ => [(8, .int .i64 k)]) (fun x => match x with | ⟨(k), _⟩ => [(0, .arr 29 (flatW l))]) (fun x => match x with | ⟨(k), _⟩ => l.length - k) (by simp (decide := true) only [W, ↓reduceIte, Int.reduceToNat]; rfl) ?_ ⟨(0), ⟨Nat.zero_le _, by simp⟩⟩ ?_
 rotate_left
 · exact Weak.store (by simp [St.get, lk, W, Le.refl, W]) (by simp [lk, W, W]) (by simp [lk, W]) (by simp [BClo, lk]) (by simp [lk])
 rintro ⟨k, hk, hI⟩
 dsimp only
 simp only [List.cons_append, List.nil_append]
 refine WP.sr [0, 1, 7, 8, 9] (by kernel_rfl) fun K hK => ?_
 simp (decide := true) only [TF, hk, ↓reduceIte, Int.reduceToNat]
 refine hK _ _ ?_; clear hK K
 refine WP.seq ?_
 refine WP.cond (b := _) rfl (fun q1 => ?_) (fun q1 => ?_)
 ·
  have hlt := lt_of_q q1
  have hg := flatW_get l k hlt
  have hgr := flatW_room l k hlt
  rw [dropE hlt] at hI
  simp only [ixP] at hI
  refine WP.skip ?_
  show WP _ _ _ _ _ _
  refine WP.seq ?_
  refine WP.block ?_
  refine WP.sr [0, 1, 5, 7, 8] (by kernel_rfl) fun K hK => ?_
  simp (decide := true) only [TF, hk, q1, hg, hgr, hlt, ↓reduceIte, Int.reduceToNat]
  refine hK _ _ ?_; clear hK K
  refine WP.sr [0, 1, 5, 7, 8, 16] (by kernel_rfl) fun K hK => ?_
  simp (decide := true) only [TF, hk, q1, hg, hgr, hlt, ↓reduceIte, Int.reduceToNat]
  refine CallK.pure (c_union1 l[k]) rfl rfl (by simp [-List.map_take]) ?_
  simp (decide := true) only [TF, hk, q1, hg, hgr, hlt, ↓reduceIte, Int.reduceToNat]
  refine hK _ _ ?_; clear hK K
  refine WP.cond (b := _) rfl (fun q2 => ?_) (fun q2 => ?_)
  ·
   refine WP.sr [4] (by kernel_rfl) fun K hK => ?_
   simp (decide := true) only [TF, hk, q1, hg, hgr, hlt, q2, ↓reduceIte, Int.reduceToNat]
   refine hK _ _ ?_; clear hK K
   refine WP.ret ?_
   refine Ends.imp (.inr rfl) rfl (Le.of_eq (by simp (decide := true) only [St.get, lk, W, hk, q1, hg, hgr, hlt, q2, hI, ↓reduceIte])) ?_ ?_ ?_
   · simp
   · simp [St.get, lk, W, BClo, hk, q1, hg, hgr, hlt, q2]
   · simp [lk]
  ·
   refine WP.skip ?_
   show WP _ _ _ _ _ _
   refine WP.region (by kernel_rfl) fun K hK => ?_
   simp (decide := true) only [TF, hk, q1, hg, hgr, hlt, q2, ↓reduceIte, Int.reduceToNat]
   refine hK _ _ ?_; clear hK K
   show ∃ y, _ ∧ Weak _ _ _
   refine ⟨⟨k + 1, ?_⟩, ?_, ?_⟩
   · exact ⟨by omega, by first | (simpa [hk, q1, hg, hgr, hlt, q2] using hI) | (simp_all; done)⟩
   · dsimp only; omega
   · exact Weak.store (by simp [St.get, lk, W, Le.refl, hk, q1, hg, hgr, hlt, q2, wrapS hlt (show l.length ≤ 140737488355328 by omega)]) (by simp [lk, W, hk, q1, hg, hgr, hlt, q2, wrapS hlt (show l.length ≤ 140737488355328 by omega)]) (by simp [lk, W]) (by simp [BClo, lk]) (by simp [lk])
 ·
  have hge := ge_of_q q1
  rw [dropN hge] at hI
  simp only [ixP] at hI
  refine WP.exit ?_
  show WP _ _ _ _ _ _
  refine WP.sr [4] (by kernel_rfl) fun K hK => ?_
  simp (decide := true) only [TF, hk, q1, ↓reduceIte, Int.reduceToNat]
  refine hK _ _ ?_; clear hK K
  refine WP.ret ?_
  refine Ends.imp (.inr rfl) rfl (Le.of_eq (by simp (decide := true) only [St.get, lk, W, hk, q1, hI, ↓reduceIte])) ?_ ?_ ?_
  · simp
  · simp [St.get, lk, W, BClo, hk, q1]
  · simp [lk]
theorem c_wdel (l : List Win) (hr : ∀ w ∈ l, w.f < w.u) (hn : l.length ≤ 1099511627776) : CallE Pr 80 [.arr 0 2 l.length, .fn (.func 82) [] []] [(0, .arr 29 (flatW l))] (.arr 0 2 l.length) [(0, .arr 29 (flatW l))] := by
 have hix := sep_ix l 0 hr
 refine CallE.of_wp Tryz.func80 rfl (by kernel_rfl) Tryz.ntmps80 (by simp) ?_
 simp only [frameOf, Nat.reduceAdd, Nat.zero_add, List.map_cons, List.map_nil]
 refine WP.sr [0, 1] (by kernel_rfl) fun K hK => ?_
 simp (decide := true) only [TF, EV, hix, ↓reduceIte, Int.reduceToNat]
 refine hK _ _ ?_; clear hK K
 refine WP.sr [0, 1, 5] (by kernel_rfl) fun K hK => ?_
 simp (decide := true) only [TF, EV, hix, ↓reduceIte, Int.reduceToNat]
 refine CallK.imp (c_windex l hn) rfl rfl (by simp [lk, BClo]) (by simp [lk]) (by simp [lk]) ?_
 simp (decide := true) only [TF, EV, hix, ↓reduceIte, Int.reduceToNat]
 refine hK _ _ ?_; clear hK K
 refine WP.seq ?_
 refine WP.sr [0, 1, 5, 12] (by kernel_rfl) fun K hK => ?_
 simp (decide := true) only [TF, EV, hix, ↓reduceIte, Int.reduceToNat]
 refine hK _ _ ?_; clear hK K
 refine WP.cond (b := true) (by rfl) (fun _ => ?_) nofun
 refine WP.sr [4] (by kernel_rfl) fun K hK => ?_
 simp (decide := true) only [TF, EV, hix, ↓reduceIte, Int.reduceToNat]
 refine hK _ _ ?_; clear hK K
 refine WP.ret ?_
 refine Ends.imp (.inr rfl) rfl (Le.of_eq (by simp (decide := true) only [St.get, lk, W, hix, ↓reduceIte])) ?_ ?_ ?_
 · simp [lk]
 · simp [St.get, lk, W, BClo, hix]
 · simp [lk]
end Go.Proofs

/-
  Plain: lists of windows that stand apart are told by the instants that they cover; the union of windows; the gaps. Conditions: as each theorem says.
-/
set_option linter.unusedSimpArgs false
set_option linter.unusedVariables false
namespace Go.Proofs
open Go Go.Id
def cov (l : List Win) (t : Int) : Prop := ∃ w ∈ l, w.f ≤ t ∧ t < w.u
@[simp] theorem cov_nil (t : Int) : cov [] t ↔ False := by simp [cov]
@[simp] theorem cov_cons (x : Win) (l : List Win) (t : Int) : cov (x :: l) t ↔ (x.f ≤ t ∧ t < x.u) ∨ cov l t := by simp [cov]
@[simp] theorem cov_app (a b : List Win) (t : Int) : cov (a ++ b) t ↔ cov a t ∨ cov b t := by
  simp only [cov, List.mem_append]
  constructor
  · rintro ⟨w, h | h, k⟩
    · exact .inl ⟨w, h, k⟩
    · exact .inr ⟨w, h, k⟩
  · rintro (⟨w, h, k⟩ | ⟨w, h, k⟩)
    · exact ⟨w, .inl h, k⟩
    · exact ⟨w, .inr h, k⟩
/-- Windows that stand apart, in order. -/
def Sep (l : List Win) : Prop := l.Pairwise (fun a b => a.u < b.f) ∧ ∀ w ∈ l, w.f < w.u
theorem Sep.nil : Sep [] := ⟨.nil, by simp⟩
theorem Sep.tail {x : Win} {l : List Win} (h : Sep (x :: l)) : Sep l := ⟨(List.pairwise_cons.1 h.1).2, fun w hw => h.2 w (by simp [hw])⟩
theorem Sep.far {x : Win} {l : List Win} (h : Sep (x :: l)) : ∀ w ∈ l, x.u < w.f := (List.pairwise_cons.1 h.1).1
theorem Sep.head {x : Win} {l : List Win} (h : Sep (x :: l)) : x.f < x.u := h.2 x (by simp)
theorem Sep.le {x : Win} {l : List Win} (h : Sep (x :: l)) {t : Int} (ht : cov (x :: l) t) : x.f ≤ t := by
  obtain ⟨w, hw, h1, h2⟩ := ht
  rcases List.mem_cons.1 hw with rfl | hw
  · exact h1
  · have := h.far w hw; have := h.head; omega
theorem Sep.cov_tail {x : Win} {l : List Win} (h : Sep (x :: l)) (t : Int) : cov l t ↔ cov (x :: l) t ∧ x.u ≤ t := by
  constructor
  · rintro ⟨w, hw, h1, h2⟩
    exact ⟨⟨w, by simp [hw], h1, h2⟩, by have := h.far w hw; omega⟩
  · rintro ⟨hc, hu⟩
    rcases (cov_cons x l t).1 hc with h1 | h1
    · omega
    · exact h1
theorem Sep.not_u {x : Win} {l : List Win} (h : Sep (x :: l)) : ¬ cov (x :: l) x.u := by
  intro hc
  rcases (cov_cons x l _).1 hc with h1 | ⟨w, hw, h1, h2⟩
  · omega
  · have := h.far w hw; omega
theorem sep_uniq : ∀ (a b : List Win), Sep a → Sep b → (∀ t, cov a t ↔ cov b t) → a = b
  | [], [], _, _, _ => rfl
  | [], y :: b, _, hb, h => by
    have := (h y.f).2 ⟨y, by simp, Int.le_refl _, hb.head⟩
    simp at this
  | x :: a, [], ha, _, h => by
    have := (h x.f).1 ⟨x, by simp, Int.le_refl _, ha.head⟩
    simp at this
  | x :: a, y :: b, ha, hb, h => by
    have hx := ha.head
    have hy := hb.head
    have h1 : y.f ≤ x.f := hb.le ((h x.f).1 ⟨x, by simp, Int.le_refl _, hx⟩)
    have h2 : x.f ≤ y.f := ha.le ((h y.f).2 ⟨y, by simp, Int.le_refl _, hy⟩)
    have hf : x.f = y.f := by omega
    have hu : x.u = y.u := by
      rcases Int.lt_trichotomy x.u y.u with hlt | he | hlt
      · exact absurd ((h x.u).2 ⟨y, by simp, by omega, hlt⟩) ha.not_u
      · exact he
      · exact absurd ((h y.u).1 ⟨x, by simp, by omega, hlt⟩) hb.not_u
    have he : x = y := by cases x; cases y; simp_all
    subst he
    rw [sep_uniq a b ha.tail hb.tail (fun t => by rw [ha.cov_tail, hb.cov_tail, h t])]
/-! The union of windows. -/
def ustep (o : List Win) (w : Win) : List Win :=
  match o.getLast? with
  | some x => if w.f ≤ x.u then o.dropLast ++ [⟨x.f, if w.u > x.u then w.u else x.u⟩] else o ++ [w]
  | none => o ++ [w]
theorem ustep_nil (w : Win) : ustep [] w = [w] := rfl
theorem ustep_app (o : List Win) (x w : Win) : ustep (o ++ [x]) w = if w.f ≤ x.u then o ++ [⟨x.f, if w.u > x.u then w.u else x.u⟩] else o ++ [x] ++ [w] := by
  simp [ustep]
theorem last_cases (o : List Win) : o = [] ∨ ∃ p x, o = p ++ [x] := by
  rcases List.eq_nil_or_concat o with h | ⟨p, x, h⟩
  · exact .inl h
  · exact .inr ⟨p, x, by simpa using h⟩
def unionL (s : List Win) : List Win := s.foldl ustep []
theorem Sep.app {o : List Win} {x w : Win} (h : Sep (o ++ [x])) (hw : w.f < w.u) (hx : x.u < w.f) : Sep (o ++ [x] ++ [w]) := by
  refine ⟨?_, fun y hy => ?_⟩
  · rw [List.pairwise_append]
    refine ⟨h.1, by simp, fun a ha b hb => ?_⟩
    rw [List.mem_singleton.1 hb]
    rcases List.mem_append.1 ha with ha | ha
    · have h1 := (List.pairwise_append.1 h.1).2.2 a ha x (by simp)
      have h2 := h.2 x (by simp)
      omega
    · rw [List.mem_singleton.1 ha]; exact hx
  · rcases List.mem_append.1 hy with hy | hy
    · exact h.2 y hy
    · rw [List.mem_singleton.1 hy]; exact hw
theorem Sep.grow {o : List Win} {x : Win} (h : Sep (o ++ [x])) {u : Int} (hu : x.u ≤ u) : Sep (o ++ [⟨x.f, u⟩]) := by
  have hp := List.pairwise_append.1 h.1
  refine ⟨?_, fun y hy => ?_⟩
  · rw [List.pairwise_append]
    refine ⟨hp.1, by simp, fun a ha b hb => ?_⟩
    rw [List.mem_singleton.1 hb]
    exact hp.2.2 a ha x (by simp)
  · rcases List.mem_append.1 hy with hy | hy
    · exact h.2 y (by simp [hy])
    · rw [List.mem_singleton.1 hy]
      have := h.2 x (by simp)
      dsimp only; omega
theorem union_go : ∀ (s o : List Win), Sep o → (∀ w ∈ s, w.f < w.u) → s.Pairwise (fun a b => a.f ≤ b.f) → (∀ p x, o = p ++ [x] → ∀ w ∈ s, x.f ≤ w.f) →
    Sep (s.foldl ustep o) ∧ ∀ t, cov (s.foldl ustep o) t ↔ cov o t ∨ cov s t
  | [], o, ho, _, _, _ => ⟨ho, by simp⟩
  | w :: s, o, ho, hr, hp, hl => by
    have hw := hr w (by simp)
    have hr' : ∀ x ∈ s, x.f < x.u := fun x hx => hr x (by simp [hx])
    have hp' := (List.pairwise_cons.1 hp).2
    have hle := (List.pairwise_cons.1 hp).1
    simp only [List.foldl_cons]
    have key : Sep (ustep o w) ∧ (∀ t, cov (ustep o w) t ↔ cov o t ∨ (w.f ≤ t ∧ t < w.u)) ∧ (∀ p x, ustep o w = p ++ [x] → ∀ y ∈ s, x.f ≤ y.f) := by
      rcases last_cases o with rfl | ⟨p, x, rfl⟩
      · rw [ustep_nil]
        refine ⟨⟨by simp, by simpa using hw⟩, by simp, fun p x e y hy => ?_⟩
        have e2 : ([] : List Win) ++ [w] = p ++ [x] := e
        have := (List.append_inj' e2 rfl).2
        simp only [List.cons.injEq, and_true] at this
        subst this; exact hle y hy
      · have hx : x.f ≤ w.f := hl p x rfl w (by simp)
        rw [ustep_app]
        split
        · rename_i hc
          refine ⟨ho.grow (by split <;> omega), fun t => ?_, fun p' x' e y hy => ?_⟩
          · simp only [cov_app, cov_cons, cov_nil, or_false]
            have hxr := ho.2 x (by simp)
            generalize hm : (if w.u > x.u then w.u else x.u) = m
            have hm1 : x.u ≤ m ∧ w.u ≤ m ∧ (m = x.u ∨ m = w.u) := by subst hm; split <;> omega
            constructor
            · rintro (h | h)
              · exact .inl (.inl h)
              · by_cases ht : t < x.u
                · exact .inl (.inr ⟨h.1, ht⟩)
                · exact .inr (by omega)
            · rintro ((h | h) | h)
              · exact .inl h
              · exact .inr (by omega)
              · exact .inr (by omega)
          · have := (List.append_inj' e rfl).2
            simp only [List.cons.injEq, and_true] at this
            subst this
            have := hle y hy
            dsimp only; omega
        · rename_i hc
          refine ⟨ho.app hw (by omega), fun t => by simp only [cov_app, cov_cons, cov_nil, or_false], fun p' x' e y hy => ?_⟩
          have := (List.append_inj' e rfl).2
          simp only [List.cons.injEq, and_true] at this
          subst this; exact hle y hy
    obtain ⟨k1, k2, k3⟩ := key
    obtain ⟨g1, g2⟩ := union_go s (ustep o w) k1 hr' hp' k3
    refine ⟨g1, fun t => ?_⟩
    rw [g2, k2, cov_cons, or_assoc]
theorem union_spec (s : List Win) (hr : ∀ w ∈ s, w.f < w.u) (hp : s.Pairwise (fun a b => a.f ≤ b.f)) : Sep (unionL s) ∧ ∀ t, cov (unionL s) t ↔ cov s t := by
  obtain ⟨h1, h2⟩ := union_go s [] .nil hr hp (fun p x e => by simp at e)
  exact ⟨h1, fun t => by rw [unionL, h2]; simp⟩
/-! The gaps. -/
def gapE (a e : Int) : List Win := if a < e then [⟨a, e⟩] else []
def gapsU : List Win → Int → Int → List Win
  | [], a, e => gapE a e
  | x :: r, a, e => if x.f ≥ e then gapE a e else (if x.f > a then [⟨a, x.f⟩] else []) ++ gapsU r (if x.u > a then x.u else a) e
theorem gapE_spec (a e : Int) : Sep (gapE a e) ∧ (∀ w ∈ gapE a e, a ≤ w.f) ∧ ∀ t, cov (gapE a e) t ↔ a ≤ t ∧ t < e := by
  unfold gapE
  split
  · refine ⟨⟨by simp, by simpa⟩, by simp, by simp⟩
  · refine ⟨.nil, by simp, fun t => ?_⟩
    simp only [cov_nil, false_iff]; omega
theorem gaps_spec : ∀ (u : List Win) (a e : Int), Sep u → Sep (gapsU u a e) ∧ (∀ w ∈ gapsU u a e, a ≤ w.f) ∧ ∀ t, cov (gapsU u a e) t ↔ (a ≤ t ∧ t < e) ∧ ¬ cov u t
  | [], a, e, _ => by
    obtain ⟨h1, h2, h3⟩ := gapE_spec a e
    exact ⟨h1, h2, fun t => by simp only [gapsU, h3, cov_nil, not_false_eq_true, and_true]⟩
  | x :: r, a, e, hs => by
    simp only [gapsU]
    have hx := hs.head
    split
    · rename_i hc
      obtain ⟨h1, h2, h3⟩ := gapE_spec a e
      refine ⟨h1, h2, fun t => ?_⟩
      rw [h3]
      refine ⟨fun h => ⟨h, fun hcv => ?_⟩, fun h => h.1⟩
      have := hs.le hcv
      omega
    · rename_i hc
      generalize hm : (if x.u > a then x.u else a) = m
      have hm1 : x.u ≤ m ∧ a ≤ m ∧ (m = x.u ∨ m = a) := by subst hm; split <;> omega
      obtain ⟨h1, h2, h3⟩ := gaps_spec r m e hs.tail
      have hfar : ∀ t, cov r t → x.u < t := by
        rintro t ⟨w, hw, q1, q2⟩
        have := hs.far w hw; omega
      by_cases hg : x.f > a
      · rw [if_pos hg]
        refine ⟨⟨?_, ?_⟩, ?_, fun t => ?_⟩
        · rw [List.singleton_append, List.pairwise_cons]
          exact ⟨fun w hw => by have := h2 w hw; dsimp only; omega, h1.1⟩
        · intro w hw
          rcases List.mem_append.1 hw with hw | hw
          · rw [List.mem_singleton.1 hw]; exact hg
          · exact h1.2 w hw
        · intro w hw
          rcases List.mem_append.1 hw with hw | hw
          · rw [List.mem_singleton.1 hw]; exact Int.le_refl _
          · have := h2 w hw; omega
        · rw [List.singleton_append, cov_cons, h3, cov_cons]
          constructor
          · rintro (h | ⟨h, hn⟩)
            · refine ⟨by dsimp only at h; omega, ?_⟩
              rintro (k | k)
              · dsimp only at h; omega
              · have := hfar t k; dsimp only at h; omega
            · refine ⟨by omega, ?_⟩
              rintro (k | k)
              · omega
              · exact hn k
          · rintro ⟨h, hn⟩
            by_cases ht : t < x.f
            · exact .inl (by dsimp only; omega)
            · refine .inr ⟨⟨?_, h.2⟩, fun k => hn (.inr k)⟩
              have : ¬ t < x.u := fun k => hn (.inl ⟨by omega, k⟩)
              omega
      · rw [if_neg hg, List.nil_append]
        refine ⟨h1, fun w hw => by have := h2 w hw; omega, fun t => ?_⟩
        rw [h3, cov_cons]
        constructor
        · rintro ⟨h, hn⟩
          refine ⟨by omega, ?_⟩
          rintro (k | k)
          · omega
          · exact hn k
        · rintro ⟨h, hn⟩
          refine ⟨⟨?_, h.2⟩, fun k => hn (.inr k)⟩
          have : ¬ t < x.u := fun k => hn (.inl ⟨by omega, k⟩)
          omega
end Go.Proofs

/-
  Plain: the windows in which keys sign, sorted; the gaps between them, told by what they cover. Conditions: as each theorem says.
-/
set_option linter.unusedSimpArgs false
set_option linter.unusedVariables false
namespace Go.Proofs
open Go Go.Id
def Key.sw (k : Key) : Win := ⟨k.sf, k.su⟩
def sigW (l : List Key) : List Win := (l.filter fun k => decide (k.sf < k.su)).map Key.sw
theorem sigW_cons (k : Key) (l : List Key) : sigW (k :: l) = if decide (k.sf < k.su) = true then k.sw :: sigW l else sigW l := by
  unfold sigW
  rw [List.filter_cons]
  split <;> rfl
theorem sigW_nil : sigW [] = [] := rfl
theorem sigW_len (l : List Key) : (sigW l).length ≤ l.length := by
  unfold sigW; rw [List.length_map]; exact List.length_filter_le _ _
theorem sigW_real (l : List Key) : ∀ w ∈ sigW l, w.f < w.u := by
  intro w hw
  obtain ⟨k, hk, rfl⟩ := List.mem_map.1 hw
  exact of_decide_eq_true (List.mem_filter.1 hk).2
theorem sigW_cov (l : List Key) (t : Int) : cov (sigW l) t ↔ ∃ k ∈ l, k.sf ≤ t ∧ t < k.su := by
  constructor
  · rintro ⟨w, hw, h1, h2⟩
    obtain ⟨k, hk, rfl⟩ := List.mem_map.1 hw
    exact ⟨k, (List.mem_filter.1 hk).1, h1, h2⟩
  · rintro ⟨k, hk, h1, h2⟩
    exact ⟨k.sw, List.mem_map.2 ⟨k, List.mem_filter.2 ⟨hk, by simp; omega⟩, rfl⟩, h1, h2⟩
/-! Sorting, as the library does it. -/
instance : Inhabited Win := ⟨⟨0, 0⟩⟩
def cmpW (x y : Win) : Int := Lib.compareInt x.f y.f
theorem ltW (x y : Win) : ltOf cmpW x y = decide (x.f < y.f) := by
  unfold ltOf cmpW Lib.compareInt
  by_cases h1 : x.f < y.f
  · simp [h1]
  · by_cases h2 : y.f < x.f <;> simp [h1, h2]
theorem swoW : Sort.SWO (ltOf cmpW) where
  irrefl x := by rw [ltW]; simp
  trans x y z h1 h2 := by rw [ltW] at *; simp at *; omega
  ntrans x y z h1 h2 := by rw [ltW] at *; simp at *; omega
def sortA (l : List Win) : Array Win := Sort.pdq (ltOf cmpW) l.toArray 0 l.toArray.size (Lib.bitLen l.toArray.size) true true
def sortW (l : List Win) : List Win := (sortA l).toList
theorem sortA_spec (l : List Win) : Sort.PermIn 0 l.toArray.size l.toArray (sortA l) ∧ Sort.SortedIn (ltOf cmpW) 0 l.toArray.size (sortA l) :=
  Sort.pdq_sorts (ltOf cmpW) swoW l.toArray 0 l.toArray.size (Lib.bitLen l.toArray.size) true true (Nat.zero_le _) (Nat.le_refl _) (Or.inl rfl)
theorem sortW_perm (l : List Win) : (sortW l).Perm l := by
  obtain ⟨⟨h1, _, h3⟩, _⟩ := sortA_spec l
  rw [Array.extract_eq_self_of_le (by omega), Array.extract_eq_self_of_le (by omega)] at h3
  exact h3
theorem sortW_len (l : List Win) : (sortW l).length = l.length := (sortW_perm l).length_eq
theorem sortA_size (l : List Win) : (sortA l).size = l.length := by
  have := (sortA_spec l).1.1
  simpa using this
theorem sortW_sorted (l : List Win) : (sortW l).Pairwise (fun a b => a.f ≤ b.f) := by
  rw [List.pairwise_iff_getElem]
  intro i j hi hj hij
  have hsz := sortA_size l
  have hi' : i < (sortA l).size := hi
  have hj' : j < (sortA l).size := hj
  have := (sortA_spec l).2 i j (Nat.zero_le _) hij (by simpa [hsz] using hj')
  rw [ltW, getElem!_pos (sortA l) i hi', getElem!_pos (sortA l) j hj'] at this
  have h2 : ¬ (sortA l)[j].f < (sortA l)[i].f := by simpa using this
  have e1 : (sortW l)[i]'hi = (sortA l)[i] := by simp [sortW]
  have e2 : (sortW l)[j]'hj = (sortA l)[j] := by simp [sortW]
  show ((sortW l)[i]'hi).f ≤ ((sortW l)[j]'hj).f
  rw [e1, e2]; omega
theorem sortW_mem (l : List Win) (w : Win) : w ∈ sortW l ↔ w ∈ l := (sortW_perm l).mem_iff
theorem sortW_cov (l : List Win) (t : Int) : cov (sortW l) t ↔ cov l t := by
  simp only [cov, sortW_mem]
theorem union_len (s o : List Win) : (s.foldl ustep o).length ≤ o.length + s.length := by
  induction s generalizing o with
  | nil => simp
  | cons w s ih =>
    rw [List.foldl_cons, List.length_cons]
    have h1 := ih (ustep o w)
    have h2 : (ustep o w).length ≤ o.length + 1 := by
      rcases last_cases o with rfl | ⟨p, x, rfl⟩
      · simp [ustep_nil]
      · rw [ustep_app]; split <;> simp
    omega
/-- The union, as the program lays it. -/
def uniW (l : List Win) : List Win := unionL (sortW l)
theorem uniW_len (l : List Win) : (uniW l).length ≤ l.length := by
  have := union_len (sortW l) []
  rw [sortW_len] at this
  simpa [uniW, unionL] using this
theorem uniW_spec (l : List Win) (hr : ∀ w ∈ l, w.f < w.u) : Sep (uniW l) ∧ ∀ t, cov (uniW l) t ↔ cov l t := by
  obtain ⟨h1, h2⟩ := union_spec (sortW l) (fun w hw => hr w ((sortW_mem l w).1 hw)) (sortW_sorted l)
  exact ⟨h1, fun t => by rw [uniW, h2, sortW_cov]⟩
def atZ (f : Int) : Int := if 0 > f then 0 else f
def enM (u : Int) : Int := if 1099511627776 < u then 1099511627776 else u
/-- Gaps. -/
def gapsK (l : List Key) (f u : Int) : List Win := gapsU (uniW (sigW l)) (atZ f) (enM u)
theorem gapsK_spec (l : List Key) (f u : Int) : Sep (gapsK l f u) ∧ ∀ t, cov (gapsK l f u) t ↔ (atZ f ≤ t ∧ t < enM u) ∧ ¬ cov (sigW l) t := by
  obtain ⟨h1, h2⟩ := uniW_spec (sigW l) (sigW_real l)
  obtain ⟨g1, _, g3⟩ := gaps_spec (uniW (sigW l)) (atZ f) (enM u) h1
  exact ⟨g1, fun t => by rw [gapsK, g3, h2]⟩
/-! The reference's way: from instant to instant. -/
/-- Among the keys seen: how far those reach that sign at t, and the first one that begins behind t. -/
def UN (p : List Key) (t e u m : Int) : Prop :=
  t ≤ u ∧ (∀ k ∈ p, k.sf ≤ t → k.su ≤ u) ∧ (u = t ∨ ∃ k ∈ p, k.sf ≤ t ∧ k.su = u) ∧
  m ≤ e ∧ t < m ∧ (∀ k ∈ p, t < k.sf → k.sf < k.su → m ≤ k.sf) ∧ (m = e ∨ ∃ k ∈ p, k.sf = m ∧ k.sf < k.su)
theorem un_start (t e : Int) (h : t < e) : UN [] t e t e := ⟨Int.le_refl _, by simp, .inl rfl, Int.le_refl _, h, by simp, .inl rfl⟩
theorem un_step {p : List Key} {t e u m : Int} (k : Key) (h : UN p t e u m) : UN (p ++ [k]) t e (if decide (k.sf ≤ t) && decide (k.su > u) then k.su else u) (if decide (k.sf > t) && decide (k.sf < k.su) && decide (k.sf < m) then k.sf else m) := by
  obtain ⟨h1, h2, h3, h4, h5, h6, h7⟩ := h
  refine ⟨?_, fun x hx hs => ?_, ?_, ?_, ?_, fun x hx hs hr => ?_, ?_⟩
  · split
    · rename_i hc; simp at hc; omega
    · exact h1
  · rcases List.mem_append.1 hx with hx | hx
    · have := h2 x hx hs
      split
      · rename_i hc; simp at hc; omega
      · exact this
    · rw [List.mem_singleton.1 hx] at hs ⊢
      split
      · exact Int.le_refl _
      · rename_i hc; simp at hc; exact hc hs
  · split
    · rename_i hc; simp at hc; exact .inr ⟨k, by simp, hc.1, rfl⟩
    · rcases h3 with h3 | ⟨x, hx, h3⟩
      · exact .inl h3
      · exact .inr ⟨x, by simp [hx], h3⟩
  · split
    · rename_i hc; simp at hc; omega
    · exact h4
  · split
    · rename_i hc; simp at hc; omega
    · exact h5
  · rcases List.mem_append.1 hx with hx | hx
    · have := h6 x hx hs hr
      split
      · rename_i hc; simp at hc; omega
      · exact this
    · rw [List.mem_singleton.1 hx] at hs hr ⊢
      split
      · exact Int.le_refl _
      · rename_i hc; simp at hc; exact hc hs hr
  · split
    · rename_i hc; simp at hc; exact .inr ⟨k, by simp, rfl, hc.1.2⟩
    · rcases h7 with h7 | ⟨x, hx, h7⟩
      · exact .inl h7
      · exact .inr ⟨x, by simp [hx], h7⟩
/-- The gaps found up to t. -/
def GI (l : List Key) (a e t : Int) (o : List Win) : Prop :=
  a ≤ t ∧ Sep o ∧ (∀ x, cov o x ↔ (a ≤ x ∧ x < t ∧ x < e) ∧ ¬ cov (sigW l) x) ∧ (∀ w ∈ o, a ≤ w.f ∧ w.u ≤ t ∧ w.u ≤ e) ∧ ∀ w ∈ o, w.u = t → t < e → cov (sigW l) t
theorem gi_start (l : List Key) (a e : Int) : GI l a e a [] := ⟨Int.le_refl _, .nil, fun x => by simp only [cov_nil, false_iff]; omega, by simp, by simp⟩
theorem gi_on {l : List Key} {a e t u m : Int} {o : List Win} (h : GI l a e t o) (hu : UN l t e u m) (hlt : u > t) : GI l a e u o := by
  obtain ⟨h1, h2, h3, h4, h5⟩ := h
  obtain ⟨u1, u2, u3, _⟩ := hu
  refine ⟨by omega, h2, fun x => ?_, fun w hw => ?_, fun w hw he => ?_⟩
  · rw [h3]
    constructor
    · rintro ⟨q, r⟩; exact ⟨by omega, r⟩
    · rintro ⟨q, r⟩
      refine ⟨⟨q.1, ?_, q.2.2⟩, r⟩
      by_cases hx : x < t
      · exact hx
      · exfalso
        apply r
        rw [sigW_cov]
        rcases u3 with u3 | ⟨k, hk, k1, k2⟩
        · omega
        · exact ⟨k, hk, by omega, by omega⟩
  · have := h4 w hw; omega
  · have := h4 w hw; omega
theorem gi_gap {l : List Key} {a e t u m : Int} {o : List Win} (h : GI l a e t o) (hte : t < e) (hu : UN l t e u m) (hlt : ¬ u > t) : GI l a e m (o ++ [⟨t, m⟩]) := by
  obtain ⟨h1, h2, h3, h4, h5⟩ := h
  obtain ⟨u1, u2, u3, u4, u5, u6, u7⟩ := hu
  have hut : u = t := by omega
  subst hut
  have hnc : ¬ cov (sigW l) u := by
    rw [sigW_cov]
    rintro ⟨k, hk, k1, k2⟩
    have := u2 k hk k1; omega
  have hap : ∀ w ∈ o, w.u < u := by
    intro w hw
    have := h4 w hw
    rcases Int.lt_or_eq_of_le this.2.1 with q | q
    · exact q
    · exact absurd (h5 w hw q hte) hnc
  refine ⟨by omega, ⟨?_, ?_⟩, fun x => ?_, fun w hw => ?_, fun w hw he hm => ?_⟩
  · rw [List.pairwise_append]
    refine ⟨h2.1, by simp, fun x hx y hy => ?_⟩
    rw [List.mem_singleton.1 hy]; exact hap x hx
  · intro w hw
    rcases List.mem_append.1 hw with hw | hw
    · exact h2.2 w hw
    · rw [List.mem_singleton.1 hw]; exact u5
  · rw [cov_app, h3, cov_cons]
    simp only [cov_nil, or_false]
    constructor
    · rintro (⟨q, r⟩ | q)
      · exact ⟨by omega, r⟩
      · refine ⟨by omega, ?_⟩
        rw [sigW_cov]
        rintro ⟨k, hk, k1, k2⟩
        by_cases hkt : k.sf ≤ u
        · have := u2 k hk hkt; omega
        · have := u6 k hk (by omega) (by omega); omega
    · rintro ⟨q, r⟩
      by_cases hx : x < u
      · exact .inl ⟨by omega, r⟩
      · exact .inr (by omega)
  · rcases List.mem_append.1 hw with hw | hw
    · have := h4 w hw; omega
    · rw [List.mem_singleton.1 hw]; dsimp only; omega
  · rcases List.mem_append.1 hw with hw | hw
    · have := hap w hw; omega
    · rw [sigW_cov]
      rcases u7 with u7 | ⟨k, hk, k1, k2⟩
      · omega
      · exact ⟨k, hk, by omega, by omega⟩
theorem gi_end {l : List Key} {f u t : Int} {o : List Win} (h : GI l (atZ f) (enM u) t o) (ht : enM u ≤ t) : o = gapsK l f u := by
  obtain ⟨h1, h2, h3, _⟩ := h
  obtain ⟨g1, g2⟩ := gapsK_spec l f u
  refine sep_uniq _ _ h2 g1 fun x => ?_
  rw [h3, g2]
  constructor
  · rintro ⟨q, r⟩; exact ⟨by omega, r⟩
  · rintro ⟨q, r⟩; exact ⟨by omega, r⟩
theorem sep_count : ∀ (o : List Win) (a e : Int), Sep o → (∀ w ∈ o, a ≤ w.f ∧ w.u ≤ e) → a ≤ e → (o.length : Int) ≤ e - a
  | [], a, e, _, _, h => by simp; omega
  | w :: o, a, e, hs, hb, h => by
    have hw := hb w (by simp)
    have hh := hs.head
    have := sep_count o w.u e hs.tail (fun x hx => ⟨by have := hs.far x hx; omega, (hb x (by simp [hx])).2⟩) hw.2
    simp only [List.length_cons]
    omega
theorem gi_len {l : List Key} {f u t : Int} {o : List Win} (h : GI l (atZ f) (enM u) t o) : o.length ≤ 1099511627776 := by
  obtain ⟨h1, h2, h3, h4, _⟩ := h
  have hz : 0 ≤ atZ f := by unfold atZ; split <;> omega
  have he : enM u ≤ 1099511627776 := by unfold enM; split <;> omega
  have := sep_count o 0 1099511627776 h2 (fun w hw => ⟨by have := h4 w hw; omega, by have := h4 w hw; omega⟩) (by omega)
  omega
end Go.Proofs

/-
  The library's sort of windows, on data: the row holds them sorted. Condition: at most 2^40 of them.
-/
set_option linter.unusedSimpArgs false
set_option linter.unusedVariables false
namespace Go.Proofs
open Go Go.Id Go.Shelf Go.Sort
def encW (w : Win) : List Value := [.int .i64 w.f, .int .i64 w.u]
set_option maxHeartbeats 1000000 in
theorem wclosure (x y : Win) (W : World) : Calls Tryz.prog 84 #[.agg #[.int .i64 x.f, .int .i64 x.u], .agg #[.int .i64 y.f, .int .i64 y.u]] W fun e w' => e = .returned (.int .i64 (cmpW x y)) ∧ ∃ q os', w' = grow (W.drewN q) os' := by
  have hcon := fun W' => AnyG.cmp_Compare_int Tryz.laysSlC25_f85 x.f y.f W'
  change ∀ W', Calls Tryz.prog 85 _ _ _ at hcon
  unfold cmpW
  generalize Lib.compareInt x.f y.f = r at hcon ⊢
  go_enter Tryz.func84, Tryz.ntmps84
  go_wp2_with (go_at_call 85; refine (hcon _).mono ?_; rintro e w' ⟨rfl, rfl⟩)
  go_ret
  exact ⟨rfl, 0, _, by rw [alloc_eq_grow, alloc_eq_grow, grow_grow]; rfl⟩
theorem wlays (blk off size : Nat) (w : World) : CmpLays Tryz.prog 84 #[] encW 2 cmpW blk off size w :=
  fun _ _ _ _ x y => wclosure x y _
theorem flatW_at (l : List Win) (t : Nat) (ht : t < l.length * 2) : ∃ d, (flatW l)[t]? = some d ∧ ∀ {M : Nat → Nat → Prop} {γ : Nat → Option G} {w : World} {v : Value}, Rep M γ w d v ↔ v = (Sort.flatK encW 2 l.toArray)[t]! := by
  have hk : t / 2 < l.length := by omega
  have hg := flatW_get l (t / 2) hk
  have hlen : t < (flatW l).length := by rw [flatW_len]; exact ht
  have e1 : (Sort.flatK encW 2 l.toArray)[t]! = (encW l[t / 2])[t % 2]! := by
    rw [get_flatK _ _ _ _ (by simpa using ht)]
    congr 1
    rw [getElem!_pos l.toArray (t / 2) (by simpa using hk)]
    simp
  have e2 : (flatW l)[t]? = [D.int .i64 l[t / 2].f, .int .i64 l[t / 2].u][t % 2]? := by
    rw [← hg, List.getElem?_take, if_pos (by omega), List.getElem?_drop]
    congr 1; omega
  rcases Nat.mod_two_eq_zero_or_one t with h | h
  · rw [h] at e1 e2
    refine ⟨_, e2, fun {M γ w v} => ?_⟩
    rw [e1]
    exact ⟨fun h => by cases h; rfl, fun h => by rw [h]; exact .int _ _⟩
  · rw [h] at e1 e2
    refine ⟨_, e2, fun {M γ w v} => ?_⟩
    rw [e1]
    exact ⟨fun h => by cases h; rfl, fun h => by rw [h]; exact .int _ _⟩
theorem flatKW_one (d : Array Win) (t : Nat) (ht : t < d.size * 2) : ((Sort.flatK encW 2 d)[t]!).oneCell' = true := by
  rw [get_flatK _ _ _ _ ht]
  rcases Nat.mod_two_eq_zero_or_one t with h | h <;> rw [h] <;> rfl
theorem fn_cap {M : Nat → Nat → Prop} {γ : Nat → Option G} {w : World} {f : Fn} {v : Value} (h : Rep M γ w (.fn f [] []) v) : v = .func f #[] #[] := by
  cases h with
  | fn hf hk _ _ =>
    have h1 := Array.eq_empty_of_size_eq_zero (by simpa using hf)
    have h2 := Array.eq_empty_of_size_eq_zero (by simpa using hk)
    subst h1; subst h2; rfl
theorem c_wsort (l : List Win) (hn : l.length ≤ 1099511627776) : CallE Pr 83 [.arr 0 2 l.length, .fn (.func 84) [] []] [(0, .arr 29 (flatW l))] (.tup []) [(0, .arr 29 (flatW (sortW l)))] := by
  refine CallE.rows (by rw [flatW_len, flatW_len, sortW_len]) (bodied_of Tryz.func83 (by kernel_rfl) (by kernel_rfl)) fun M γ w vs B cap z us hst hl hr hγ hB hsz hle h1 hrr => ?_
  match vs, hl with
  | [v0, v1], _ =>
    have q1 := fn_cap (hr 1 _ _ rfl rfl)
    subst q1
    have q0 := hr 0 _ _ rfl rfl
    generalize hv0 : v0 = v0' at q0
    cases q0 with
    | @arr _ B' _ n cap' hγ' hn' =>
      rw [hγ] at hγ'
      cases hγ'
      subst hv0
      rw [flatW_len] at hle h1
      have hH : HoldsK encW 2 w B 0 l.toArray := by
        intro t ht
        rw [size_flatK] at ht
        have ht' : t < l.length * 2 := by simpa using ht
        obtain ⟨d, hd, hrep⟩ := flatW_at l t ht'
        have hlt : t < us.size := by omega
        have hu := Array.getElem?_eq_getElem hlt
        have h3 := hrep.1 (hrr t d _ hd hu)
        refine ⟨?_, ?_⟩
        · rw [cell_of_row w B (0 + t) us 29 _ hB, Nat.zero_add, hu, h3]; rfl
        · rw [Nat.zero_add]; exact (h1 t _ ht' hu).2
      have hblk : B < w.heap.size := (Array.getElem?_eq_some_iff.1 hB).1
      have eg : ∀ args w, (callFunc 84 args).run Tryz.prog w = .ok (.enter 84 args) w := enters_of Tryz.func84 (by kernel_rfl) rfl
      have hcon := AnyQ.slices_SortFunc_eq Tryz.sortWin 2 Tryz.isAgg29 Tryz.sizeOf29 encW (fun _ => rfl) (fun x v hv => by simp [encW] at hv; rcases hv with rfl | rfl <;> rfl) cmpW swoW 84 #[] B 0 cap l.toArray w eg (wlays B 0 l.toArray.size w) hH hblk (by simp; omega)
      change Calls Tryz.prog 83 _ _ _ at hcon
      refine hcon.mono ?_
      rintro e w' ⟨rfl, m, os, rfl⟩
      show ∃ v us', _
      have hsA := sortA_size l
      have hwB : (sortWorldK encW 2 w B 0 m (sortA l) os).heap[B]? = some (.cells (putCells id 0 (Sort.flatK encW 2 (sortA l)) us) 29 (0, 0)) := by
        unfold sortWorldK
        rw [heap_grow_old _ _ (by rw [size_putRowK]; exact hblk)]
        simp only [putRowK, putRow, mapBlock, Sort.ahead, Array.getElem?_modify, if_true, hB, Option.map_some, onCells]
      have hat : ∀ t, t < l.length * 2 → (putCells id 0 (Sort.flatK encW 2 (sortA l)) us)[t]? = some (Sort.flatK encW 2 (sortA l))[t]! := by
        intro t ht
        have hlt : t < us.size := by omega
        simp only [putCells, Array.getElem?_mapIdx, Array.getElem?_eq_getElem hlt, Option.map_some, size_flatK, Nat.zero_add, Nat.zero_le, true_and, Nat.sub_zero, id]
        rw [if_pos (by rw [hsA]; exact ht)]
      refine ⟨_, putCells id 0 (Sort.flatK encW 2 (sortA l)) us, rfl, by simp [putCells], hwB, fun k hk hkB => ?_, ?_, ⟨rfl, rfl, rfl⟩, fun i v hi hv => ?_, fun i d v hd hv => ?_, .tup rfl (by simp)⟩
      · unfold sortWorldK
        rw [heap_grow_old _ _ (by rw [size_putRowK]; exact hk)]
        simp only [putRowK, putRow, mapBlock, Sort.ahead, Array.getElem?_modify, if_neg (Ne.symm hkB)]
      · exact size_sortWorldK_c encW 2 w B 0 m (sortA l) os
      · rw [flatW_len] at hi
        rw [hat i hi] at hv
        cases hv
        exact flatKW_one _ _ (by rw [hsA]; exact hi)
      · have hi : i < l.length * 2 := by
          have := (List.getElem?_eq_some_iff.1 hd).1
          rw [flatW_len, sortW_len] at this; exact this
        rw [hat i hi] at hv
        cases hv
        obtain ⟨d', hd', hrep⟩ := flatW_at (sortW l) i (by rw [sortW_len]; exact hi)
        rw [hd'] at hd
        cases hd
        exact hrep.2 (by simp [sortW])
theorem lib_len0 : CallP Pr 105 [.int .u64 0] (.int .i64 0) := CallE.same (bodied_of Tryz.func105 (by kernel_rfl) (by kernel_rfl)) fun M γ w vs hst hl hr => by
  match vs, hl with
  | [v0], _ =>
    have q0 := hr 0 _ _ rfl rfl
    cases q0
    refine (Any.bits_Len Tryz.lays125 0 w (by omega) (by omega)).mono ?_
    rintro e w' ⟨rfl, rfl⟩
    exact ⟨_, rfl, rfl, .int _ _⟩
end Go.Proofs
