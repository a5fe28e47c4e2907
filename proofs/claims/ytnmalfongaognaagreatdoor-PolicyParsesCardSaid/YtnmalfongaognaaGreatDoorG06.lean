import Derived.Test.YtnmalfongaognaaGreatDoorG05
import Derived.Lib.Join
import Derived.Lib.ItoaLen
set_option linter.unusedSimpArgs false
set_option linter.unusedVariables false
set_option maxRecDepth 10000
namespace Go.Proofs
open Go Go.Id

theorem holds_grp (c : Cond) (r : Req) (hp : possB c = true) (hf : (c.f == [103, 114, 111, 117, 112]) = true) : holdsB c r = (r.groups.contains c.v == (c.op == [105, 115] || c.op == [104, 97, 115])) := by
 have hf' : c.f = [103, 114, 111, 117, 112] := by simpa using hf
 have ho : c.op = [104, 97, 115] ∨ c.op = [108, 97, 99, 107, 115] := by
  simp [possB, hf'] at hp; exact hp.1
 unfold holdsB
 rw [hp]
 rcases ho with ho | ho <;> simp [ho, membR, hf']
theorem holds_scp (c : Cond) (r : Req) (hp : possB c = true) (hf : (c.f == [115, 99, 111, 112, 101]) = true) : holdsB c r = (r.scopes.contains c.v == (c.op == [105, 115] || c.op == [104, 97, 115])) := by
 have hf' : c.f = [115, 99, 111, 112, 101] := by simpa using hf
 have ho : c.op = [104, 97, 115] ∨ c.op = [108, 97, 99, 107, 115] := by
  simp [possB, hf'] at hp; exact hp.1
 unfold holdsB
 rw [hp]
 rcases ho with ho | ho <;> simp [ho, membR, hf']
theorem holds_tru (c : Cond) (r : Req) (hp : possB c = true) (hf : (c.f == [116, 114, 117, 115, 116, 101, 100]) = true) : holdsB c r = (r.trusted == (c.v == [121, 101, 115])) := by
 have hf' : c.f = [116, 114, 117, 115, 116, 101, 100] := by simpa using hf
 simp [possB, hf'] at hp
 unfold holdsB
 have hp' : possB c = true := by simp [possB, hf', hp]
 rw [hp']
 rcases hp.2 with hv | hv <;> cases ht : r.trusted <;> simp [hp.1, hv, wordR, hf', ht]

theorem c_holds (c : Cond) (r : Req) (hc : c.ok) (hr : r.ok) : CallP Pr 22 [.agg [.str c.f, .str c.op, .str c.v], .agg [.str r.user, .str r.client, .str r.tenant, .slice 1 r.ng (r.groups.map fun x => [.str x]) none, .slice 1 r.ns (r.scopes.map fun x => [.str x]) none, .int .i64 r.risk, .bool r.trusted, .int .i64 r.level, .int .i64 r.auth, .int .i64 r.now]] (.bool (holdsB c r)) := by
 have hm := memb_len c.f r hr
 refine CallP.of_wp Tryz.func22 rfl (by kernel_rfl) Tryz.ntmps22 (by simp) ?_
 simp only [frameOf, Nat.reduceAdd, Nat.zero_add]
 refine WP.sr [2, 3] (by kernel_rfl) fun K hK => ?_
 simp (decide := true) only [W, Pr_prog, ↓reduceIte, Int.reduceToNat]
 refine hK _ _ ?_
 clear hK K
 refine WP.seq ?_
 refine WP.sr [2, 3, 9] (by kernel_rfl) fun K hK => ?_
 simp (decide := true) only [W, Pr_prog, t_szD_43, t_aggD_43, ↓reduceIte, Int.reduceToNat]
 refine CallK.pure (c_possible c hc) rfl rfl (by simp [-List.map_take]) ?_
 simp (decide := true) only [W, Pr_prog, ↓reduceIte, Int.reduceToNat]
 refine hK _ _ ?_
 clear hK K
 refine WP.cond (b := _) rfl (fun q1 => ?_) (fun q1 => ?_)
 ·
  simp only [Bool.not_eq_true', Bool.not_eq_false'] at q1
  refine WP.sr [4] (by kernel_rfl) fun K hK => ?_
  simp (decide := true) only [W, Pr_prog, q1, ↓reduceIte, Int.reduceToNat]
  refine hK _ _ ?_
  clear hK K
  refine WP.ret ?_
  exact Ends.pure (.inr rfl) rfl (Le.of_eq (by first | (simp (decide := true) only [St.get, lk, W, holdsB, q1, ↓reduceIte]; done) | (simp [St.get, lk, W, bne, holdsB, q1]; done) | (simp_all [St.get, lk, W, LN, bne, holdsB]; done) | (simp_all [St.get, lk, W, LN, bne, holdsB]; intros; first | omega | (rw [Bool.eq_iff_iff]; simp; try omega)))) (by simp)
 ·
  simp only [Bool.not_eq_true', Bool.not_eq_false'] at q1
  refine WP.skip ?_
  show WP _ _ _ _ _ _
  refine WP.sr [2, 3, 5] (by kernel_rfl) fun K hK => ?_
  simp (decide := true) only [W, Pr_prog, t_fldD_43_2, t_szD_9, t_aggD_9, q1, ↓reduceIte, Int.reduceToNat]
  refine CallK.pure (c_number c.v hc.2.2) rfl rfl (by simp [-List.map_take]) ?_
  simp (decide := true) only [W, Pr_prog, q1, ↓reduceIte, Int.reduceToNat]
  refine hK _ _ ?_
  clear hK K
  refine WP.seq ?_
  refine WP.sr [2, 3, 5, 17] (by kernel_rfl) fun K hK => ?_
  simp (decide := true) only [W, Pr_prog, t_fldD_43_1, t_szD_9, t_aggD_9, q1, ↓reduceIte, Int.reduceToNat]
  refine hK _ _ ?_
  clear hK K
  refine WP.block ?_
  refine WP.sr [2, 3, 5, 17, 18] (by kernel_rfl) fun K hK => ?_
  simp (decide := true) only [W, Pr_prog, q1, ↓reduceIte, Int.reduceToNat]
  refine hK _ _ ?_
  clear hK K
  refine WP.cond (b := _) rfl (fun q2 => ?_) (fun q2 => ?_)
  ·
   refine WP.sd [4] (by kernel_rfl) (by kernel_rfl) fun K hK => ?_
   simp (decide := true) only [W, Pr_prog, t_fldD_43_0, t_szD_9, t_aggD_9, t_szD_38, t_aggD_38, q1, q2, ↓reduceIte, Int.reduceToNat]
   refine CallK.pure (c_pword c.f r) rfl rfl (by simp [-List.map_take]) ?_
   simp (decide := true) only [W, Pr_prog, t_fldD_43_2, t_szD_9, t_aggD_9, q1, q2, ↓reduceIte, Int.reduceToNat]
   refine hK _ _ (by kernel_rfl) ?_
   clear hK K
   refine WP.ret ?_
   exact Ends.pure (.inr rfl) rfl (Le.of_eq (by first | (simp (decide := true) only [St.get, lk, W, holdsB, q1, q2, ↓reduceIte]; done) | (simp [St.get, lk, W, bne, holdsB, q1, q2]; done) | (simp_all [St.get, lk, W, LN, bne, holdsB]; done) | (simp_all [St.get, lk, W, LN, bne, holdsB]; intros; first | omega | (rw [Bool.eq_iff_iff]; simp; try omega)))) (by simp)
  ·
   refine WP.sr [2, 3, 5, 17, 27] (by kernel_rfl) fun K hK => ?_
   simp (decide := true) only [W, Pr_prog, q1, q2, ↓reduceIte, Int.reduceToNat]
   refine hK _ _ ?_
   clear hK K
   refine WP.cond (b := _) rfl (fun q3 => ?_) (fun q3 => ?_)
   ·
    refine WP.sd [4] (by kernel_rfl) (by kernel_rfl) fun K hK => ?_
    simp (decide := true) only [W, Pr_prog, t_fldD_43_0, t_szD_9, t_aggD_9, t_szD_38, t_aggD_38, q1, q2, q3, ↓reduceIte, Int.reduceToNat]
    refine CallK.pure (c_pword c.f r) rfl rfl (by simp [-List.map_take]) ?_
    simp (decide := true) only [W, Pr_prog, t_fldD_43_2, t_szD_9, t_aggD_9, q1, q2, q3, ↓reduceIte, Int.reduceToNat]
    refine hK _ _ (by kernel_rfl) ?_
    clear hK K
    refine WP.ret ?_
    exact Ends.pure (.inr rfl) rfl (Le.of_eq (by first | (simp (decide := true) only [St.get, lk, W, holdsB, q1, q2, q3, ↓reduceIte]; done) | (simp [St.get, lk, W, bne, holdsB, q1, q2, q3]; done) | (simp_all [St.get, lk, W, LN, bne, holdsB]; done) | (simp_all [St.get, lk, W, LN, bne, holdsB]; intros; first | omega | (rw [Bool.eq_iff_iff]; simp; try omega)))) (by simp)
   ·
    refine WP.sr [2, 3, 5, 17, 36] (by kernel_rfl) fun K hK => ?_
    simp (decide := true) only [W, Pr_prog, q1, q2, q3, ↓reduceIte, Int.reduceToNat]
    refine hK _ _ ?_
    clear hK K
    refine WP.cond (b := _) rfl (fun q4 => ?_) (fun q4 => ?_)
    ·
     refine WP.sd [4] (by kernel_rfl) (by kernel_rfl) fun K hK => ?_
     simp (decide := true) only [W, Pr_prog, t_fldD_43_0, t_szD_9, t_aggD_9, t_szD_38, t_aggD_38, q1, q2, q3, q4, ↓reduceIte, Int.reduceToNat]
     refine CallK.pure (c_members c.f r) rfl rfl (by simp [-List.map_take]) ?_
     simp (decide := true) only [W, Pr_prog, t_fldD_43_2, t_szD_9, t_aggD_9, q1, q2, q3, q4, ↓reduceIte, Int.reduceToNat]
     refine CallK.pure (c_contains (membR c.f r) (nmembR c.f r) c.v (by omega) hm.2) rfl rfl (by simp [-List.map_take]) ?_
     simp (decide := true) only [W, Pr_prog, q1, q2, q3, q4, ↓reduceIte, Int.reduceToNat]
     refine hK _ _ (by kernel_rfl) ?_
     clear hK K
     refine WP.ret ?_
     exact Ends.pure (.inr rfl) rfl (Le.of_eq (by first | (simp (decide := true) only [St.get, lk, W, holdsB, q1, q2, q3, q4, ↓reduceIte]; done) | (simp [St.get, lk, W, bne, holdsB, q1, q2, q3, q4]; done) | (simp_all [St.get, lk, W, LN, bne, holdsB]; done) | (simp_all [St.get, lk, W, LN, bne, holdsB]; intros; first | omega | (rw [Bool.eq_iff_iff]; simp; try omega)))) (by simp)
    ·
     refine WP.sr [2, 3, 5, 17, 45] (by kernel_rfl) fun K hK => ?_
     simp (decide := true) only [W, Pr_prog, q1, q2, q3, q4, ↓reduceIte, Int.reduceToNat]
     refine hK _ _ ?_
     clear hK K
     refine WP.cond (b := _) rfl (fun q5 => ?_) (fun q5 => ?_)
     ·
      refine WP.sd [4] (by kernel_rfl) (by kernel_rfl) fun K hK => ?_
      simp (decide := true) only [W, Pr_prog, t_fldD_43_0, t_szD_9, t_aggD_9, t_szD_38, t_aggD_38, q1, q2, q3, q4, q5, ↓reduceIte, Int.reduceToNat]
      refine CallK.pure (c_members c.f r) rfl rfl (by simp [-List.map_take]) ?_
      simp (decide := true) only [W, Pr_prog, t_fldD_43_2, t_szD_9, t_aggD_9, q1, q2, q3, q4, q5, ↓reduceIte, Int.reduceToNat]
      refine CallK.pure (c_contains (membR c.f r) (nmembR c.f r) c.v (by omega) hm.2) rfl rfl (by simp [-List.map_take]) ?_
      simp (decide := true) only [W, Pr_prog, q1, q2, q3, q4, q5, ↓reduceIte, Int.reduceToNat]
      refine hK _ _ (by kernel_rfl) ?_
      clear hK K
      refine WP.ret ?_
      exact Ends.pure (.inr rfl) rfl (Le.of_eq (by first | (simp (decide := true) only [St.get, lk, W, holdsB, q1, q2, q3, q4, q5, ↓reduceIte]; done) | (simp [St.get, lk, W, bne, holdsB, q1, q2, q3, q4, q5]; done) | (simp_all [St.get, lk, W, LN, bne, holdsB]; done) | (simp_all [St.get, lk, W, LN, bne, holdsB]; intros; first | omega | (rw [Bool.eq_iff_iff]; simp; try omega)))) (by simp)
     ·
      refine WP.sr [2, 3, 5, 55] (by kernel_rfl) fun K hK => ?_
      simp (decide := true) only [W, Pr_prog, q1, q2, q3, q4, q5, ↓reduceIte, Int.reduceToNat]
      refine hK _ _ ?_
      clear hK K
      refine WP.cond (b := _) rfl (fun q6 => ?_) (fun q6 => ?_)
      ·
       refine WP.sr [4] (by kernel_rfl) fun K hK => ?_
       simp (decide := true) only [W, Pr_prog, t_fldD_43_0, t_szD_9, t_aggD_9, t_szD_38, t_aggD_38, q1, q2, q3, q4, q5, q6, ↓reduceIte, Int.reduceToNat]
       refine CallK.pure (c_measure c.f r) rfl rfl (by simp [-List.map_take]) ?_
       simp (decide := true) only [W, Pr_prog, q1, q2, q3, q4, q5, q6, ↓reduceIte, Int.reduceToNat]
       refine hK _ _ ?_
       clear hK K
       refine WP.ret ?_
       exact Ends.pure (.inr rfl) rfl (Le.of_eq (by first | (simp (decide := true) only [St.get, lk, W, holdsB, q1, q2, q3, q4, q5, q6, ↓reduceIte]; done) | (simp [St.get, lk, W, bne, holdsB, q1, q2, q3, q4, q5, q6]; done) | (simp_all [St.get, lk, W, LN, bne, holdsB]; done) | (simp_all [St.get, lk, W, LN, bne, holdsB]; intros; first | omega | (rw [Bool.eq_iff_iff]; simp; try omega)))) (by simp)
      ·
       refine WP.skip ?_
       show WP _ _ _ _ _ _
       refine WP.sr [4] (by kernel_rfl) fun K hK => ?_
       simp (decide := true) only [W, Pr_prog, t_fldD_43_0, t_szD_9, t_aggD_9, t_szD_38, t_aggD_38, q1, q2, q3, q4, q5, q6, ↓reduceIte, Int.reduceToNat]
       refine CallK.pure (c_measure c.f r) rfl rfl (by simp [-List.map_take]) ?_
       simp (decide := true) only [W, Pr_prog, q1, q2, q3, q4, q5, q6, ↓reduceIte, Int.reduceToNat]
       refine hK _ _ ?_
       clear hK K
       refine WP.ret ?_
       exact Ends.pure (.inr rfl) rfl (Le.of_eq (by first | (simp (decide := true) only [St.get, lk, W, holdsB, q1, q2, q3, q4, q5, q6, ↓reduceIte]; done) | (simp [St.get, lk, W, bne, holdsB, q1, q2, q3, q4, q5, q6]; done) | (simp_all [St.get, lk, W, LN, bne, holdsB]; done) | (simp_all [St.get, lk, W, LN, bne, holdsB]; intros; first | omega | (rw [Bool.eq_iff_iff]; simp; try omega)))) (by simp)
theorem c_first1 (c : Cond) (r : Req) (hc : c.ok) (hr : r.ok) : CallE Pr 59 [.agg [.str c.f, .str c.op, .str c.v], .ref 1 0] [(1, .box 38 [.str r.user, .str r.client, .str r.tenant, .slice 1 r.ng (r.groups.map fun x => [.str x]) none, .slice 1 r.ns (r.scopes.map fun x => [.str x]) none, .int .i64 r.risk, .bool r.trusted, .int .i64 r.level, .int .i64 r.auth, .int .i64 r.now])] (.bool (!(holdsB c r))) [(1, .box 38 [.str r.user, .str r.client, .str r.tenant, .slice 1 r.ng (r.groups.map fun x => [.str x]) none, .slice 1 r.ns (r.scopes.map fun x => [.str x]) none, .int .i64 r.risk, .bool r.trusted, .int .i64 r.level, .int .i64 r.auth, .int .i64 r.now])] := by
 refine CallE.of_wp Tryz.func59 rfl (by kernel_rfl) Tryz.ntmps59 (by simp) ?_
 simp only [frameOf, Nat.reduceAdd, Nat.zero_add, List.map_cons, List.map_nil]
 refine WP.sr [1, 2] (by kernel_rfl) fun K hK => ?_
 simp (decide := true) only [W, Pr_prog, ↓reduceIte, Int.reduceToNat]
 refine hK _ _ ?_
 clear hK K
 refine WP.sr [3] (by kernel_rfl) fun K hK => ?_
 simp (decide := true) only [W, Pr_prog, t_szD_43, t_aggD_43, t_szD_38, t_aggD_38, ↓reduceIte, Int.reduceToNat]
 refine CallK.pure (c_holds c r hc hr) rfl rfl (by simp [-List.map_take]) ?_
 simp (decide := true) only [W, Pr_prog, ↓reduceIte, Int.reduceToNat]
 refine hK _ _ ?_
 clear hK K
 refine WP.ret ?_
 refine Ends.imp (.inr rfl) rfl (Le.of_eq (by first | (simp (decide := true) only [St.get, lk, W, ↓reduceIte]; done) | (simp [St.get, lk, W, bne]; done) | (simp_all [St.get, lk, W, LN, bne]; done) | (simp_all [St.get, lk, W, LN, bne]; intros; first | omega | (rw [Bool.eq_iff_iff]; simp; try omega)))) ?_ ?_ ?_
 · simp
 · simp [St.get, lk, W, BClo, W]
 · simp [lk]
theorem c_indexfunc_first (l : List Cond) (nl : Bool) (r : Req) (hn : l.length ≤ 1099511627776) (hnl : nl = true → l = []) (hl : ∀ c ∈ l, c.ok) (hr : r.ok) : CallE Pr 58 [.slice 3 nl (l.map Cond.cs) none, .fn (.func 59) [] [.ref 1 0]] [(1, .box 38 [.str r.user, .str r.client, .str r.tenant, .slice 1 r.ng (r.groups.map fun x => [.str x]) none, .slice 1 r.ns (r.scopes.map fun x => [.str x]) none, .int .i64 r.risk, .bool r.trusted, .int .i64 r.level, .int .i64 r.auth, .int .i64 r.now])] (.int .i64 (firstL r l 0)) [(1, .box 38 [.str r.user, .str r.client, .str r.tenant, .slice 1 r.ng (r.groups.map fun x => [.str x]) none, .slice 1 r.ns (r.scopes.map fun x => [.str x]) none, .int .i64 r.risk, .bool r.trusted, .int .i64 r.level, .int .i64 r.auth, .int .i64 r.now])] := by
 refine CallE.of_wp Tryz.func58 rfl (by kernel_rfl) Tryz.ntmps58 (by simp) ?_
 simp only [frameOf, Nat.reduceAdd, Nat.zero_add, List.map_cons, List.map_nil]
 refine WP.sr [0, 1] (by kernel_rfl) fun K hK => ?_
 simp (decide := true) only [W, Pr_prog, ↓reduceIte, Int.reduceToNat]
 refine hK _ _ ?_
 clear hK K
 refine WP.seq ?_
 refine WP.sr [0, 1, 7, 8] (by kernel_rfl) fun K hK => ?_
 simp (decide := true) only [W, Pr_prog, t_isStr_33, t_isSliceT_33, ↓reduceIte, Int.reduceToNat]
 refine hK _ _ ?_
 clear hK K
 refine WP.block ?_
 refine WP.lp [0, 1, 7] (X := {k : Nat // k ≤ l.length ∧ firstL r l 0 = firstL r (l.drop k) k}) (fun x => match x with | ⟨(k), _⟩ => [(8, .int .i64 k)]) (fun x => match x with | ⟨(k), _⟩ => [(1, .box 38 [.str r.user, .str r.client, .str r.tenant, .slice 1 r.ng (r.groups.map fun x => [.str x]) none, .slice 1 r.ns (r.scopes.map fun x => [.str x]) none, .int .i64 r.risk, .bool r.trusted, .int .i64 r.level, .int .i64 r.auth, .int .i64 r.now])]) (fun x => match x with | ⟨(k), _⟩ => l.length - k) (by simp (decide := true) only [W, ↓reduceIte, Int.reduceToNat]; rfl) ?_ ⟨(0), ⟨Nat.zero_le _, by simp⟩⟩ ?_
 rotate_left
 · exact Weak.store (by simp [St.get, lk, W, Le.refl, W]) (by simp [lk, W, W]) (by simp [lk, W]) (by simp [BClo, lk]) (by simp [lk])
 rintro ⟨k, hk, hI⟩
 dsimp only
 simp only [List.cons_append, List.nil_append]
 refine WP.sr [0, 1, 7, 8, 9] (by kernel_rfl) fun K hK => ?_
 simp (decide := true) only [W, Pr_prog, hk, ↓reduceIte, Int.reduceToNat]
 refine hK _ _ ?_
 clear hK K
 refine WP.seq ?_
 refine WP.cond (b := _) rfl (fun q1 => ?_) (fun q1 => ?_)
 ·
  have hlt := lt_of_q q1
  have hg : (l.map Cond.cs)[k]? = some [.str l[k].f, .str l[k].op, .str l[k].v] := getM hlt
  have hnf := nl_false hnl hlt
  rw [dropE hlt] at hI
  simp only [firstL] at hI
  refine WP.skip ?_
  show WP _ _ _ _ _ _
  refine WP.seq ?_
  refine WP.block ?_
  refine WP.sr [0, 1, 5, 7, 8] (by kernel_rfl) fun K hK => ?_
  simp (decide := true) only [W, Pr_prog, hk, q1, hg, hnf, ↓reduceIte, Int.reduceToNat]
  refine hK _ _ ?_
  clear hK K
  refine WP.sr [0, 1, 5, 7, 8, 16] (by kernel_rfl) fun K hK => ?_
  simp (decide := true) only [W, Pr_prog, t_elemD_33, t_szD_43, t_aggD_43, hk, q1, hg, hnf, ↓reduceIte, Int.reduceToNat]
  refine CallK.imp (c_first1 l[k] r (hl _ (List.getElem_mem hlt)) hr) rfl rfl (by simp [lk, BClo]) (by simp [lk]) (by simp [lk]) ?_
  simp (decide := true) only [W, Pr_prog, hk, q1, hg, hnf, ↓reduceIte, Int.reduceToNat]
  refine hK _ _ ?_
  clear hK K
  refine WP.cond (b := _) rfl (fun q2 => ?_) (fun q2 => ?_)
  ·
   refine WP.sr [4] (by kernel_rfl) fun K hK => ?_
   simp (decide := true) only [W, Pr_prog, hk, q1, hg, hnf, q2, ↓reduceIte, Int.reduceToNat]
   refine hK _ _ ?_
   clear hK K
   refine WP.ret ?_
   refine Ends.imp (.inr rfl) rfl (Le.of_eq (by first | (simp (decide := true) only [St.get, lk, W, hk, q1, hg, hnf, q2, hI, ↓reduceIte]; done) | (simp [St.get, lk, W, bne, hk, q1, hg, hnf, q2, hI]; done) | (simp_all [St.get, lk, W, LN, bne]; done) | (simp_all [St.get, lk, W, LN, bne]; intros; first | omega | (rw [Bool.eq_iff_iff]; simp; try omega)))) ?_ ?_ ?_
   · simp
   · simp [St.get, lk, W, BClo, hk, q1, hg, hnf, q2]
   · simp [lk]
  ·
   refine WP.skip ?_
   show WP _ _ _ _ _ _
   refine WP.region (by kernel_rfl) fun K hK => ?_
   simp (decide := true) only [W, Pr_prog, hk, q1, hg, hnf, q2, ↓reduceIte, Int.reduceToNat]
   refine hK _ _ ?_
   clear hK K
   show ∃ y, _ ∧ Weak _ _ _
   refine ⟨⟨k + 1, ?_⟩, ?_, ?_⟩
   · exact ⟨by omega, by first | (simpa [hk, q1, hg, hnf, q2] using hI) | (simp_all; done)⟩
   · dsimp only; omega
   · exact Weak.store (by simp [St.get, lk, W, Le.refl, hk, q1, hg, hnf, q2, wrapS hlt (show l.length ≤ 140737488355328 by omega)]) (by simp [lk, W, hk, q1, hg, hnf, q2, wrapS hlt (show l.length ≤ 140737488355328 by omega)]) (by simp [lk, W]) (by simp [BClo, lk]) (by simp [lk])
 ·
  have hge := ge_of_q q1
  rw [dropN hge] at hI
  simp only [firstL] at hI
  refine WP.exit ?_
  show WP _ _ _ _ _ _
  refine WP.sr [4] (by kernel_rfl) fun K hK => ?_
  simp (decide := true) only [W, Pr_prog, hk, q1, ↓reduceIte, Int.reduceToNat]
  refine hK _ _ ?_
  clear hK K
  refine WP.ret ?_
  refine Ends.imp (.inr rfl) rfl (Le.of_eq (by first | (simp (decide := true) only [St.get, lk, W, hk, q1, hI, ↓reduceIte]; done) | (simp [St.get, lk, W, bne, hk, q1, hI]; done) | (simp_all [St.get, lk, W, LN, bne]; done) | (simp_all [St.get, lk, W, LN, bne]; intros; first | omega | (rw [Bool.eq_iff_iff]; simp; try omega)))) ?_ ?_ ?_
  · simp
  · simp [St.get, lk, W, BClo, hk, q1]
  · simp [lk]
theorem c_first (p : Rule) (r : Req) (hp : p.ok) (hr : r.ok) : CallP Pr 24 [.agg [.str p.name, .bool p.deny, .slice 3 p.nc (p.conds.map Cond.cs) none, .slice 1 p.ns (p.scopes.map fun x => [.str x]) none, .int .i64 p.lvl, .int .i64 p.age], .agg [.str r.user, .str r.client, .str r.tenant, .slice 1 r.ng (r.groups.map fun x => [.str x]) none, .slice 1 r.ns (r.scopes.map fun x => [.str x]) none, .int .i64 r.risk, .bool r.trusted, .int .i64 r.level, .int .i64 r.auth, .int .i64 r.now]] (.int .i64 (firstL r p.conds 0)) := by
 refine CallP.of_wp Tryz.func24 rfl (by kernel_rfl) Tryz.ntmps24 (by simp) ?_
 simp only [frameOf, Nat.reduceAdd, Nat.zero_add]
 refine WP.sr [2, 3] (by kernel_rfl) fun K hK => ?_
 simp (decide := true) only [W, Pr_prog, ↓reduceIte, Int.reduceToNat]
 refine hK _ _ ?_
 clear hK K
 refine WP.sr [4] (by kernel_rfl) fun K hK => ?_
 simp (decide := true) only [W, Pr_prog, t_fldD_36_2, t_szD_33, t_aggD_33, ↓reduceIte, Int.reduceToNat]
 refine CallK.imp (c_indexfunc_first p.conds p.nc r hp.1.1 hp.1.2.1 hp.2.2.1 hr) rfl rfl (by simp [lk, BClo]) (by simp [lk]) (by simp [lk]) ?_
 simp (decide := true) only [W, Pr_prog, ↓reduceIte, Int.reduceToNat]
 refine hK _ _ ?_
 clear hK K
 refine WP.ret ?_
 exact Ends.pure (.inr rfl) rfl (Le.of_eq (by first | (simp (decide := true) only [St.get, lk, W, ↓reduceIte]; done) | (simp [St.get, lk, W, bne]; done) | (simp_all [St.get, lk, W, LN, bne]; done) | (simp_all [St.get, lk, W, LN, bne]; intros; first | omega | (rw [Bool.eq_iff_iff]; simp; try omega)))) (by simp)
theorem c_fields : CallP Pr 27 [] (.slice 1 false (([[97, 103, 101], [99, 108, 105, 101, 110, 116], [103, 114, 111, 117, 112], [104, 111, 117, 114], [108, 101, 118, 101, 108], [114, 105, 115, 107], [115, 99, 111, 112, 101], [116, 101, 110, 97, 110, 116], [116, 114, 117, 115, 116, 101, 100], [117, 115, 101, 114]] : List (List UInt8)).map fun x => [.str x]) none) := by
 refine CallP.of_wp Tryz.func27 rfl (by kernel_rfl) Tryz.ntmps27 (by simp) ?_
 simp only [frameOf, Nat.reduceAdd, Nat.zero_add]
 refine WP.sr [] (by kernel_rfl) fun K hK => ?_
 simp (decide := true) only [W, Pr_prog, partsD, ↓reduceIte, Int.reduceToNat]
 refine hK _ _ ?_
 clear hK K
 refine WP.sr [0] (by kernel_rfl) fun K hK => ?_
 simp (decide := true) only [W, Pr_prog, t_elemD_34, t_okElem_9, partsD, ↓reduceIte, Int.reduceToNat]
 refine hK _ _ ?_
 clear hK K
 refine WP.ret ?_
 exact Ends.pure (.inr rfl) rfl (Le.of_eq (by first | (simp (decide := true) only [St.get, lk, W, ↓reduceIte]; done) | (simp [St.get, lk, W, bne]; done) | (simp_all [St.get, lk, W, LN, bne]; done) | (simp_all [St.get, lk, W, LN, bne]; intros; first | omega | (rw [Bool.eq_iff_iff]; simp; try omega)))) (by simp)
theorem c_r_fields : CallP Pr 28 [] (.slice 1 false (([[97, 103, 101], [99, 108, 105, 101, 110, 116], [103, 114, 111, 117, 112], [104, 111, 117, 114], [108, 101, 118, 101, 108], [114, 105, 115, 107], [115, 99, 111, 112, 101], [116, 101, 110, 97, 110, 116], [116, 114, 117, 115, 116, 101, 100], [117, 115, 101, 114]] : List (List UInt8)).map fun x => [.str x]) none) := by
 refine CallP.of_wp Tryz.func28 rfl (by kernel_rfl) Tryz.ntmps28 (by simp) ?_
 simp only [frameOf, Nat.reduceAdd, Nat.zero_add]
 refine WP.sr [] (by kernel_rfl) fun K hK => ?_
 simp (decide := true) only [W, Pr_prog, partsD, ↓reduceIte, Int.reduceToNat]
 refine hK _ _ ?_
 clear hK K
 refine WP.sr [0] (by kernel_rfl) fun K hK => ?_
 simp (decide := true) only [W, Pr_prog, t_elemD_34, t_okElem_9, partsD, ↓reduceIte, Int.reduceToNat]
 refine hK _ _ ?_
 clear hK K
 refine WP.ret ?_
 exact Ends.pure (.inr rfl) rfl (Le.of_eq (by first | (simp (decide := true) only [St.get, lk, W, ↓reduceIte]; done) | (simp [St.get, lk, W, bne]; done) | (simp_all [St.get, lk, W, LN, bne]; done) | (simp_all [St.get, lk, W, LN, bne]; intros; first | omega | (rw [Bool.eq_iff_iff]; simp; try omega)))) (by simp)
theorem c_short (ls : List (List UInt8)) (nl : Bool) (n : Int) (hn : ls.length ≤ 9223372036854775807) (hnl : nl = true → ls = []) : CallP Pr 48 [.slice 1 nl (ls.map fun x => [.str x]) none, .int .i64 n] (.bool (shortB ls n)) := by
 refine CallP.of_wp Tryz.func48 rfl (by kernel_rfl) Tryz.ntmps48 (by simp) ?_
 simp only [frameOf, Nat.reduceAdd, Nat.zero_add]
 refine WP.sr [0, 1] (by kernel_rfl) fun K hK => ?_
 simp (decide := true) only [W, Pr_prog, ↓reduceIte, Int.reduceToNat]
 refine hK _ _ ?_
 clear hK K
 refine WP.seq ?_
 refine WP.sr [0, 1, 5] (by kernel_rfl) fun K hK => ?_
 simp (decide := true) only [W, Pr_prog, ↓reduceIte, Int.reduceToNat]
 refine hK _ _ ?_
 clear hK K
 refine WP.block ?_
 refine WP.lp [0, 1] (X := {k : Nat // k ≤ ls.length ∧ shortB ls n = ((ls.drop k).all (fun x => decide ((x.length : Int) ≤ 300)) && decide ((ls.length : Int) ≤ n))}) (fun x => match x with | ⟨(k), _⟩ => [(5, .int .i64 k)]) (fun x => match x with | ⟨(k), _⟩ => []) (fun x => match x with | ⟨(k), _⟩ => ls.length - k) (by simp (decide := true) only [W, ↓reduceIte, Int.reduceToNat]; rfl) ?_ ⟨(0), ⟨Nat.zero_le _, by simp [shortB]⟩⟩ ?_
 rotate_left
 · exact Weak.nil (by simp [St.get, lk, W, Le.refl, W]) (by simp [W])
 rintro ⟨k, hk, hI⟩
 dsimp only
 simp only [List.cons_append, List.nil_append]
 refine WP.seq ?_
 refine WP.sr [0, 1, 5, 9] (by kernel_rfl) fun K hK => ?_
 simp (decide := true) only [W, Pr_prog, t_isStr_34, t_isSliceT_34, hk, ↓reduceIte, Int.reduceToNat]
 refine hK _ _ ?_
 clear hK K
 refine WP.cond (b := _) rfl (fun q1 => ?_) (fun q1 => ?_)
 ·
  have hlt := lt_of_q q1
  have hg : (ls.map fun x => [D.str x])[k]? = some [.str ls[k]] := getM hlt
  have hnf := nl_false hnl hlt
  rw [dropE hlt] at hI
  simp only [List.all_cons] at hI
  refine WP.skip ?_
  show WP _ _ _ _ _ _
  refine WP.seq ?_
  refine WP.block ?_
  refine WP.sr [0, 1, 5, 17] (by kernel_rfl) fun K hK => ?_
  simp (decide := true) only [W, Pr_prog, t_elemD_34, t_szD_9, t_aggD_9, t_isStr_9, t_isSliceT_9, hk, q1, hg, hnf, ↓reduceIte, Int.reduceToNat]
  refine hK _ _ ?_
  clear hK K
  refine WP.cond (b := _) rfl (fun q2 => ?_) (fun q2 => ?_)
  ·
   refine WP.sr [4] (by kernel_rfl) fun K hK => ?_
   simp (decide := true) only [W, Pr_prog, hk, q1, hg, hnf, q2, ↓reduceIte, Int.reduceToNat]
   refine hK _ _ ?_
   clear hK K
   refine WP.ret ?_
   exact Ends.pure (.inr rfl) rfl (Le.of_eq (by first | (simp (decide := true) only [St.get, lk, W, shortB, hk, q1, hg, hnf, q2, hI, ↓reduceIte]; done) | (simp [St.get, lk, W, bne, shortB, hk, q1, hg, hnf, q2, hI]; done) | (simp_all [St.get, lk, W, LN, bne, shortB]; done) | (simp_all [St.get, lk, W, LN, bne, shortB]; intros; first | omega | (rw [Bool.eq_iff_iff]; simp; try omega)))) (by simp)
  ·
   refine WP.skip ?_
   show WP _ _ _ _ _ _
   refine WP.region (by kernel_rfl) fun K hK => ?_
   simp (decide := true) only [W, Pr_prog, hk, q1, hg, hnf, q2, ↓reduceIte, Int.reduceToNat]
   refine hK _ _ ?_
   clear hK K
   show ∃ y, _ ∧ Weak _ _ _
   refine ⟨⟨k + 1, ?_⟩, ?_, Weak.nil ?_ ?_⟩
   · exact ⟨by omega, by first | (simpa [hk, q1, hg, hnf, q2] using hI) | (simp_all; done)⟩
   · dsimp only; omega
   · simp [St.get, lk, W, Le.refl, hk, q1, hg, hnf, q2, wrapBig hlt hn]
   · simp [W]
 ·
  have hge := ge_of_q q1
  rw [dropN hge] at hI
  simp only [List.all_nil, Bool.true_and] at hI
  refine WP.exit ?_
  show WP _ _ _ _ _ _
  refine WP.sr [4] (by kernel_rfl) fun K hK => ?_
  simp (decide := true) only [W, Pr_prog, t_isStr_34, t_isSliceT_34, hk, q1, ↓reduceIte, Int.reduceToNat]
  refine hK _ _ ?_
  clear hK K
  refine WP.ret ?_
  exact Ends.pure (.inr rfl) rfl (Le.of_eq (by first | (simp (decide := true) only [St.get, lk, W, shortB, hk, q1, hI, ↓reduceIte]; done) | (simp [St.get, lk, W, bne, shortB, hk, q1, hI]; done) | (simp_all [St.get, lk, W, LN, bne, shortB]; done) | (simp_all [St.get, lk, W, LN, bne, shortB]; intros; first | omega | (rw [Bool.eq_iff_iff]; simp; try omega)))) (by simp)
theorem c_asked (r : Req) (hr : r.big) : CallP Pr 21 [.agg [.str r.user, .str r.client, .str r.tenant, .slice 1 r.ng (r.groups.map fun x => [.str x]) none, .slice 1 r.ns (r.scopes.map fun x => [.str x]) none, .int .i64 r.risk, .bool r.trusted, .int .i64 r.level, .int .i64 r.auth, .int .i64 r.now]] (.bool (askedB r)) := by
 refine CallP.of_wp Tryz.func21 rfl (by kernel_rfl) Tryz.ntmps21 (by simp) ?_
 simp only [frameOf, Nat.reduceAdd, Nat.zero_add]
 refine WP.sr [1] (by kernel_rfl) fun K hK => ?_
 simp (decide := true) only [W, Pr_prog, ↓reduceIte, Int.reduceToNat]
 refine hK _ _ ?_
 clear hK K
 refine WP.sr [2] (by kernel_rfl) fun K hK => ?_
 refine runOps.take 5 fun J hJ => ?_
 simp (decide := true) only [W, Pr_prog, t_fldD_38_0, t_szD_9, t_aggD_9, t_isStr_9, t_isSliceT_9, ↓reduceIte, Int.reduceToNat]
 refine hJ _ _ ?_
 clear hJ J
 refine runOps.part 7 rfl (fun q1 => ?_) (fun q1 => ?_)
 ·
  refine runOps.take 6 fun J hJ => ?_
  simp (decide := true) only [W, Pr_prog, t_fldD_38_1, t_szD_9, t_aggD_9, t_isStr_9, t_isSliceT_9, q1, ↓reduceIte, Int.reduceToNat]
  refine hJ _ _ ?_
  clear hJ J
  refine runOps.part 13 rfl (fun q2 => ?_) (fun q2 => ?_)
  ·
   refine runOps.take 6 fun J hJ => ?_
   simp (decide := true) only [W, Pr_prog, t_fldD_38_2, t_szD_9, t_aggD_9, t_isStr_9, t_isSliceT_9, q1, q2, ↓reduceIte, Int.reduceToNat]
   refine hJ _ _ ?_
   clear hJ J
   refine runOps.part 19 rfl (fun q3 => ?_) (fun q3 => ?_)
   ·
    simp (decide := true) only [W, Pr_prog, t_fldD_38_3, t_szD_34, t_aggD_34, q1, q2, q3, ↓reduceIte, Int.reduceToNat]
    refine CallK.pure (c_short r.groups r.ng 20 (by have := hr.1; omega) hr.2.1) rfl rfl (by simp [-List.map_take]) ?_
    refine runOps.take 2 fun J hJ => ?_
    simp (decide := true) only [W, Pr_prog, q1, q2, q3, ↓reduceIte, Int.reduceToNat]
    refine hJ _ _ ?_
    clear hJ J
    refine runOps.part 24 rfl (fun q4 => ?_) (fun q4 => ?_)
    ·
     simp (decide := true) only [W, Pr_prog, t_fldD_38_4, t_szD_34, t_aggD_34, q1, q2, q3, q4, ↓reduceIte, Int.reduceToNat]
     refine CallK.pure (c_short r.scopes r.ns 20 (by have := hr.2.2.1; omega) hr.2.2.2) rfl rfl (by simp [-List.map_take]) ?_
     simp (decide := true) only [W, Pr_prog, q1, q2, q3, q4, ↓reduceIte, Int.reduceToNat]
     refine hK _ _ ?_
     clear hK K
     refine WP.ret ?_
     exact Ends.pure (.inr rfl) rfl (Le.of_eq (by first | (simp (decide := true) only [St.get, lk, W, askedB, q1, q2, q3, q4, ↓reduceIte]; done) | (simp [St.get, lk, W, bne, askedB, q1, q2, q3, q4]; done) | (simp_all [St.get, lk, W, LN, bne, askedB]; done) | (simp_all [St.get, lk, W, LN, bne, askedB]; intros; first | omega | (rw [Bool.eq_iff_iff]; simp; try omega)))) (by simp)
    ·
     simp (decide := true) only [W, Pr_prog, t_fldD_38_4, t_szD_34, t_aggD_34, q1, q2, q3, q4, ↓reduceIte, Int.reduceToNat]
     refine hK _ _ ?_
     clear hK K
     refine WP.ret ?_
     exact Ends.pure (.inr rfl) rfl (Le.of_eq (by first | (simp (decide := true) only [St.get, lk, W, askedB, q1, q2, q3, q4, ↓reduceIte]; done) | (simp [St.get, lk, W, bne, askedB, q1, q2, q3, q4]; done) | (simp_all [St.get, lk, W, LN, bne, askedB]; done) | (simp_all [St.get, lk, W, LN, bne, askedB]; intros; first | omega | (rw [Bool.eq_iff_iff]; simp; try omega)))) (by simp)
   ·
    simp (decide := true) only [W, Pr_prog, t_fldD_38_3, t_szD_34, t_aggD_34, t_fldD_38_4, q1, q2, q3, ↓reduceIte, Int.reduceToNat]
    refine hK _ _ ?_
    clear hK K
    refine WP.ret ?_
    exact Ends.pure (.inr rfl) rfl (Le.of_eq (by first | (simp (decide := true) only [St.get, lk, W, askedB, q1, q2, q3, ↓reduceIte]; done) | (simp [St.get, lk, W, bne, askedB, q1, q2, q3]; done) | (simp_all [St.get, lk, W, LN, bne, askedB]; done) | (simp_all [St.get, lk, W, LN, bne, askedB]; intros; first | omega | (rw [Bool.eq_iff_iff]; simp; try omega)))) (by simp)
  ·
   simp (decide := true) only [W, Pr_prog, t_fldD_38_2, t_szD_9, t_aggD_9, t_isStr_9, t_isSliceT_9, t_fldD_38_3, t_szD_34, t_aggD_34, t_fldD_38_4, q1, q2, ↓reduceIte, Int.reduceToNat]
   refine hK _ _ ?_
   clear hK K
   refine WP.ret ?_
   exact Ends.pure (.inr rfl) rfl (Le.of_eq (by first | (simp (decide := true) only [St.get, lk, W, askedB, q1, q2, ↓reduceIte]; done) | (simp [St.get, lk, W, bne, askedB, q1, q2]; done) | (simp_all [St.get, lk, W, LN, bne, askedB]; done) | (simp_all [St.get, lk, W, LN, bne, askedB]; intros; first | omega | (rw [Bool.eq_iff_iff]; simp; try omega)))) (by simp)
 ·
  simp (decide := true) only [W, Pr_prog, t_fldD_38_1, t_szD_9, t_aggD_9, t_isStr_9, t_isSliceT_9, t_fldD_38_2, t_fldD_38_3, t_szD_34, t_aggD_34, t_fldD_38_4, q1, ↓reduceIte, Int.reduceToNat]
  refine hK _ _ ?_
  clear hK K
  refine WP.ret ?_
  exact Ends.pure (.inr rfl) rfl (Le.of_eq (by first | (simp (decide := true) only [St.get, lk, W, askedB, q1, ↓reduceIte]; done) | (simp [St.get, lk, W, bne, askedB, q1]; done) | (simp_all [St.get, lk, W, LN, bne, askedB]; done) | (simp_all [St.get, lk, W, LN, bne, askedB]; intros; first | omega | (rw [Bool.eq_iff_iff]; simp; try omega)))) (by simp)
theorem c_lrule (p : Rule) (hp : p.big) : CallP Pr 20 [.agg [.str p.name, .bool p.deny, .slice 3 p.nc (p.conds.map Cond.cs) none, .slice 1 p.ns (p.scopes.map fun x => [.str x]) none, .int .i64 p.lvl, .int .i64 p.age]] (.bool (ruleB p)) := by
 refine CallP.of_wp Tryz.func20 rfl (by kernel_rfl) Tryz.ntmps20 (by simp) ?_
 simp only [frameOf, Nat.reduceAdd, Nat.zero_add]
 refine WP.sr [1] (by kernel_rfl) fun K hK => ?_
 simp (decide := true) only [W, Pr_prog, ↓reduceIte, Int.reduceToNat]
 refine hK _ _ ?_
 clear hK K
 refine WP.seq ?_
 refine WP.sr [1, 3] (by kernel_rfl) fun K hK => ?_
 simp (decide := true) only [W, Pr_prog, ↓reduceIte, Int.reduceToNat]
 refine hK _ _ ?_
 clear hK K
 refine WP.block ?_
 refine WP.lp [1] (X := {k : Nat // k ≤ p.conds.length ∧ ruleB p = ((p.conds.drop k).all (fun c => decide ((c.f.length : Int) ≤ 300) && decide ((c.op.length : Int) ≤ 300) && decide ((c.v.length : Int) ≤ 300)) && decide ((p.conds.length : Int) ≤ 10) && shortB p.scopes 20 && decide ((p.name.length : Int) ≤ 300))}) (fun x => match x with | ⟨(k), _⟩ => [(3, .int .i64 k)]) (fun x => match x with | ⟨(k), _⟩ => [(0, .box 36 [.str p.name, .bool p.deny, .slice 3 p.nc (p.conds.map Cond.cs) none, .slice 1 p.ns (p.scopes.map fun x => [.str x]) none, .int .i64 p.lvl, .int .i64 p.age])]) (fun x => match x with | ⟨(k), _⟩ => p.conds.length - k) (by simp (decide := true) only [W, ↓reduceIte, Int.reduceToNat]; rfl) ?_ ⟨(0), ⟨Nat.zero_le _, by simp [ruleB]⟩⟩ ?_
 rotate_left
 · exact Weak.store (by simp [St.get, lk, W, Le.refl, W]) (by simp [lk, W, W]) (by simp [lk, W]) (by simp [BClo, lk]) (by simp [lk])
 rintro ⟨k, hk, hI⟩
 dsimp only
 simp only [List.cons_append, List.nil_append]
 refine WP.seq ?_
 refine WP.sr [1, 3, 9] (by kernel_rfl) fun K hK => ?_
 simp (decide := true) only [W, Pr_prog, t_fldD_36_2, t_szD_33, t_aggD_33, t_isStr_33, t_isSliceT_33, hk, ↓reduceIte, Int.reduceToNat]
 refine hK _ _ ?_
 clear hK K
 refine WP.cond (b := _) rfl (fun q1 => ?_) (fun q1 => ?_)
 ·
  have hlt := lt_of_q q1
  have hg : (p.conds.map Cond.cs)[k]? = some [.str p.conds[k].f, .str p.conds[k].op, .str p.conds[k].v] := getM hlt
  have hnf := nl_false hp.2.1 hlt
  rw [dropE hlt] at hI
  simp only [List.all_cons] at hI
  have hp1 := hp.1
  refine WP.skip ?_
  show WP _ _ _ _ _ _
  refine WP.seq ?_
  refine WP.block ?_
  refine WP.sr [1, 3, 4] (by kernel_rfl) fun K hK => ?_
  simp (decide := true) only [W, Pr_prog, t_fldD_36_2, t_szD_33, t_aggD_33, t_elemD_33, t_szD_43, t_aggD_43, t_zeroD_43, hk, q1, hg, hnf, ↓reduceIte, Int.reduceToNat]
  refine hK _ _ ?_
  clear hK K
  refine WP.sr [1, 3, 32] (by kernel_rfl) fun K hK => ?_
  refine runOps.take 5 fun J hJ => ?_
  simp (decide := true) only [W, Pr_prog, t_fldD_43_0, t_szD_9, t_aggD_9, t_isStr_9, t_isSliceT_9, hk, q1, hg, hnf, ↓reduceIte, Int.reduceToNat]
  refine hJ _ _ ?_
  clear hJ J
  refine runOps.part 21 rfl (fun q2 => ?_) (fun q2 => ?_)
  ·
   simp (decide := true) only [W, Pr_prog, t_fldD_43_1, t_szD_9, t_aggD_9, t_isStr_9, t_isSliceT_9, t_fldD_43_2, hk, q1, hg, hnf, q2, ↓reduceIte, Int.reduceToNat]
   refine hK _ _ ?_
   clear hK K
   refine WP.cond (b := true) (by first | rfl | simp [W, hk, q1, hg, hnf, q2]) (fun _ => ?_) nofun
   refine WP.sr [2] (by kernel_rfl) fun K hK => ?_
   simp (decide := true) only [W, Pr_prog, hk, q1, hg, hnf, q2, ↓reduceIte, Int.reduceToNat]
   refine hK _ _ ?_
   clear hK K
   refine WP.ret ?_
   exact Ends.pure (.inr rfl) rfl (Le.of_eq (by first | (simp (decide := true) only [St.get, lk, W, ruleB, hk, q1, hg, hnf, q2, hI, ↓reduceIte]; done) | (simp [St.get, lk, W, bne, ruleB, hk, q1, hg, hnf, q2, hI]; done) | (simp_all [St.get, lk, W, LN, bne, ruleB]; done) | (simp_all [St.get, lk, W, LN, bne, ruleB]; intros; first | omega | (rw [Bool.eq_iff_iff]; simp; try omega)))) (by simp)
  ·
   refine runOps.take 6 fun J hJ => ?_
   simp (decide := true) only [W, Pr_prog, t_fldD_43_1, t_szD_9, t_aggD_9, t_isStr_9, t_isSliceT_9, hk, q1, hg, hnf, q2, ↓reduceIte, Int.reduceToNat]
   refine hJ _ _ ?_
   clear hJ J
   refine runOps.part 27 rfl (fun q3 => ?_) (fun q3 => ?_)
   ·
    simp (decide := true) only [W, Pr_prog, t_fldD_43_2, t_szD_9, t_aggD_9, t_isStr_9, t_isSliceT_9, hk, q1, hg, hnf, q2, q3, ↓reduceIte, Int.reduceToNat]
    refine hK _ _ ?_
    clear hK K
    refine WP.cond (b := true) (by first | rfl | simp [W, hk, q1, hg, hnf, q2, q3]) (fun _ => ?_) nofun
    refine WP.sr [2] (by kernel_rfl) fun K hK => ?_
    simp (decide := true) only [W, Pr_prog, hk, q1, hg, hnf, q2, q3, ↓reduceIte, Int.reduceToNat]
    refine hK _ _ ?_
    clear hK K
    refine WP.ret ?_
    exact Ends.pure (.inr rfl) rfl (Le.of_eq (by first | (simp (decide := true) only [St.get, lk, W, ruleB, hk, q1, hg, hnf, q2, q3, hI, ↓reduceIte]; done) | (simp [St.get, lk, W, bne, ruleB, hk, q1, hg, hnf, q2, q3, hI]; done) | (simp_all [St.get, lk, W, LN, bne, ruleB]; done) | (simp_all [St.get, lk, W, LN, bne, ruleB]; intros; first | omega | (rw [Bool.eq_iff_iff]; simp; try omega)))) (by simp)
   ·
    simp (decide := true) only [W, Pr_prog, t_fldD_43_2, t_szD_9, t_aggD_9, t_isStr_9, t_isSliceT_9, hk, q1, hg, hnf, q2, q3, ↓reduceIte, Int.reduceToNat]
    refine hK _ _ ?_
    clear hK K
    refine WP.cond (b := _) rfl (fun q4 => ?_) (fun q4 => ?_)
    ·
     refine WP.sr [2] (by kernel_rfl) fun K hK => ?_
     simp (decide := true) only [W, Pr_prog, hk, q1, hg, hnf, q2, q3, q4, ↓reduceIte, Int.reduceToNat]
     refine hK _ _ ?_
     clear hK K
     refine WP.ret ?_
     exact Ends.pure (.inr rfl) rfl (Le.of_eq (by first | (simp (decide := true) only [St.get, lk, W, ruleB, hk, q1, hg, hnf, q2, q3, q4, hI, ↓reduceIte]; done) | (simp [St.get, lk, W, bne, ruleB, hk, q1, hg, hnf, q2, q3, q4, hI]; done) | (simp_all [St.get, lk, W, LN, bne, ruleB]; done) | (simp_all [St.get, lk, W, LN, bne, ruleB]; intros; first | omega | (rw [Bool.eq_iff_iff]; simp; try omega)))) (by simp)
    ·
     refine WP.skip ?_
     show WP _ _ _ _ _ _
     refine WP.region (by kernel_rfl) fun K hK => ?_
     simp (decide := true) only [W, Pr_prog, hk, q1, hg, hnf, q2, q3, q4, ↓reduceIte, Int.reduceToNat]
     refine hK _ _ ?_
     clear hK K
     show ∃ y, _ ∧ Weak _ _ _
     refine ⟨⟨k + 1, ?_⟩, ?_, ?_⟩
     · exact ⟨by omega, by first | (simpa [hk, q1, hg, hnf, q2, q3, q4] using hI) | (simp_all; done)⟩
     · dsimp only; omega
     · exact Weak.store (by simp [St.get, lk, W, Le.refl, hk, q1, hg, hnf, q2, q3, q4, wrapBig hlt (show p.conds.length ≤ 9223372036854775807 by omega)]) (by simp [lk, W, hk, q1, hg, hnf, q2, q3, q4, wrapBig hlt (show p.conds.length ≤ 9223372036854775807 by omega)]) (by simp [lk, W]) (by simp [BClo, lk]) (by simp [lk])
 ·
  have hge := ge_of_q q1
  rw [dropN hge] at hI
  simp only [List.all_nil, Bool.true_and] at hI
  refine WP.exit ?_
  show WP _ _ _ _ _ _
  refine WP.sr [2] (by kernel_rfl) fun K hK => ?_
  refine runOps.take 5 fun J hJ => ?_
  simp (decide := true) only [W, Pr_prog, t_fldD_36_2, t_szD_33, t_aggD_33, t_isStr_33, t_isSliceT_33, hk, q1, ↓reduceIte, Int.reduceToNat]
  refine hJ _ _ ?_
  clear hJ J
  refine runOps.part 37 rfl (fun q5 => ?_) (fun q5 => ?_)
  ·
   simp (decide := true) only [W, Pr_prog, t_fldD_36_3, t_szD_34, t_aggD_34, hk, q1, q5, ↓reduceIte, Int.reduceToNat]
   refine CallK.pure (c_short p.scopes p.ns 20 (by have := hp.2.2.1; omega) hp.2.2.2) rfl rfl (by simp [-List.map_take]) ?_
   refine runOps.take 2 fun J hJ => ?_
   simp (decide := true) only [W, Pr_prog, hk, q1, q5, ↓reduceIte, Int.reduceToNat]
   refine hJ _ _ ?_
   clear hJ J
   refine runOps.part 42 rfl (fun q6 => ?_) (fun q6 => ?_)
   ·
    simp (decide := true) only [W, Pr_prog, t_fldD_36_0, t_szD_9, t_aggD_9, t_isStr_9, t_isSliceT_9, hk, q1, q5, q6, ↓reduceIte, Int.reduceToNat]
    refine hK _ _ ?_
    clear hK K
    refine WP.ret ?_
    exact Ends.pure (.inr rfl) rfl (Le.of_eq (by first | (simp (decide := true) only [St.get, lk, W, ruleB, hk, q1, q5, q6, hI, ↓reduceIte]; done) | (simp [St.get, lk, W, bne, ruleB, hk, q1, q5, q6, hI]; done) | (simp_all [St.get, lk, W, LN, bne, ruleB]; done) | (simp_all [St.get, lk, W, LN, bne, ruleB]; intros; first | omega | (rw [Bool.eq_iff_iff]; simp; try omega)))) (by simp)
   ·
    simp (decide := true) only [W, Pr_prog, t_fldD_36_0, t_szD_9, t_aggD_9, t_isStr_9, t_isSliceT_9, hk, q1, q5, q6, ↓reduceIte, Int.reduceToNat]
    refine hK _ _ ?_
    clear hK K
    refine WP.ret ?_
    exact Ends.pure (.inr rfl) rfl (Le.of_eq (by first | (simp (decide := true) only [St.get, lk, W, ruleB, hk, q1, q5, q6, hI, ↓reduceIte]; done) | (simp [St.get, lk, W, bne, ruleB, hk, q1, q5, q6, hI]; done) | (simp_all [St.get, lk, W, LN, bne, ruleB]; done) | (simp_all [St.get, lk, W, LN, bne, ruleB]; intros; first | omega | (rw [Bool.eq_iff_iff]; simp; try omega)))) (by simp)
  ·
   simp (decide := true) only [W, Pr_prog, t_fldD_36_3, t_szD_34, t_aggD_34, t_fldD_36_0, t_szD_9, t_aggD_9, t_isStr_9, t_isSliceT_9, hk, q1, q5, ↓reduceIte, Int.reduceToNat]
   refine hK _ _ ?_
   clear hK K
   refine WP.ret ?_
   exact Ends.pure (.inr rfl) rfl (Le.of_eq (by first | (simp (decide := true) only [St.get, lk, W, ruleB, hk, q1, q5, hI, ↓reduceIte]; done) | (simp [St.get, lk, W, bne, ruleB, hk, q1, q5, hI]; done) | (simp_all [St.get, lk, W, LN, bne, ruleB]; done) | (simp_all [St.get, lk, W, LN, bne, ruleB]; intros; first | omega | (rw [Bool.eq_iff_iff]; simp; try omega)))) (by simp)
theorem c_few (l : List Rule) (nl : Bool) (hn : l.length ≤ 9223372036854775807) (hnl : nl = true → l = []) (hl : ∀ p ∈ l, p.big) : CallP Pr 11 [.slice 6 nl (l.map Rule.cs) none] (.bool (fewB l)) := by
 refine CallP.of_wp Tryz.func11 rfl (by kernel_rfl) Tryz.ntmps11 (by simp) ?_
 simp only [frameOf, Nat.reduceAdd, Nat.zero_add]
 refine WP.sr [0] (by kernel_rfl) fun K hK => ?_
 simp (decide := true) only [W, Pr_prog, ↓reduceIte, Int.reduceToNat]
 refine hK _ _ ?_
 clear hK K
 refine WP.seq ?_
 refine WP.sr [0, 3] (by kernel_rfl) fun K hK => ?_
 simp (decide := true) only [W, Pr_prog, ↓reduceIte, Int.reduceToNat]
 refine hK _ _ ?_
 clear hK K
 refine WP.block ?_
 refine WP.lp [0] (X := {k : Nat // k ≤ l.length ∧ fewB l = ((l.drop k).all ruleB && decide ((l.length : Int) ≤ 70))}) (fun x => match x with | ⟨(k), _⟩ => [(3, .int .i64 k)]) (fun x => match x with | ⟨(k), _⟩ => []) (fun x => match x with | ⟨(k), _⟩ => l.length - k) (by simp (decide := true) only [W, ↓reduceIte, Int.reduceToNat]; rfl) ?_ ⟨(0), ⟨Nat.zero_le _, by simp [fewB]⟩⟩ ?_
 rotate_left
 · exact Weak.store (by simp [St.get, lk, W, Le.refl, W]) (by simp [lk, W, W]) (by simp [lk, W]) (by simp [BClo, lk]) (by simp [lk])
 rintro ⟨k, hk, hI⟩
 dsimp only
 simp only [List.cons_append, List.nil_append]
 refine WP.seq ?_
 refine WP.sr [0, 3, 7] (by kernel_rfl) fun K hK => ?_
 simp (decide := true) only [W, Pr_prog, t_isStr_22, t_isSliceT_22, hk, ↓reduceIte, Int.reduceToNat]
 refine hK _ _ ?_
 clear hK K
 refine WP.cond (b := _) rfl (fun q1 => ?_) (fun q1 => ?_)
 ·
  have hlt := lt_of_q q1
  have hg : (l.map Rule.cs)[k]? = some [.str l[k].name, .bool l[k].deny, .slice 3 l[k].nc (l[k].conds.map Cond.cs) none, .slice 1 l[k].ns (l[k].scopes.map fun x => [.str x]) none, .int .i64 l[k].lvl, .int .i64 l[k].age] := getM hlt
  have hnf := nl_false hnl hlt
  rw [dropE hlt] at hI
  simp only [List.all_cons] at hI
  refine WP.skip ?_
  show WP _ _ _ _ _ _
  refine WP.seq ?_
  refine WP.block ?_
  refine WP.sr [0, 3, 15] (by kernel_rfl) fun K hK => ?_
  simp (decide := true) only [W, Pr_prog, t_elemD_22, t_szD_36, t_aggD_36, hk, q1, hg, hnf, ↓reduceIte, Int.reduceToNat]
  refine CallK.pure (c_lrule l[k] (hl _ (List.getElem_mem hlt))) rfl rfl (by simp [-List.map_take]) ?_
  simp (decide := true) only [W, Pr_prog, hk, q1, hg, hnf, ↓reduceIte, Int.reduceToNat]
  refine hK _ _ ?_
  clear hK K
  refine WP.cond (b := _) rfl (fun q2 => ?_) (fun q2 => ?_)
  ·
   simp only [Bool.not_eq_true', Bool.not_eq_false'] at q2
   refine WP.sr [2] (by kernel_rfl) fun K hK => ?_
   simp (decide := true) only [W, Pr_prog, hk, q1, hg, hnf, q2, ↓reduceIte, Int.reduceToNat]
   refine hK _ _ ?_
   clear hK K
   refine WP.ret ?_
   exact Ends.pure (.inr rfl) rfl (Le.of_eq (by first | (simp (decide := true) only [St.get, lk, W, fewB, hk, q1, hg, hnf, q2, hI, ↓reduceIte]; done) | (simp [St.get, lk, W, bne, fewB, hk, q1, hg, hnf, q2, hI]; done) | (simp_all [St.get, lk, W, LN, bne, fewB]; done) | (simp_all [St.get, lk, W, LN, bne, fewB]; intros; first | omega | (rw [Bool.eq_iff_iff]; simp; try omega)))) (by simp)
  ·
   simp only [Bool.not_eq_true', Bool.not_eq_false'] at q2
   refine WP.skip ?_
   show WP _ _ _ _ _ _
   refine WP.region (by kernel_rfl) fun K hK => ?_
   simp (decide := true) only [W, Pr_prog, hk, q1, hg, hnf, q2, ↓reduceIte, Int.reduceToNat]
   refine hK _ _ ?_
   clear hK K
   show ∃ y, _ ∧ Weak _ _ _
   refine ⟨⟨k + 1, ?_⟩, ?_, ?_⟩
   · exact ⟨by omega, by first | (simpa [hk, q1, hg, hnf, q2] using hI) | (simp_all; done)⟩
   · dsimp only; omega
   · exact Weak.store (by simp [St.get, lk, W, Le.refl, hk, q1, hg, hnf, q2, wrapBig hlt (show l.length ≤ 9223372036854775807 by omega)]) (by simp [lk, W, hk, q1, hg, hnf, q2, wrapBig hlt (show l.length ≤ 9223372036854775807 by omega)]) (by simp [lk, W]) (by simp [BClo, lk]) (by simp [lk])
 ·
  have hge := ge_of_q q1
  rw [dropN hge] at hI
  simp only [List.all_nil, Bool.true_and] at hI
  refine WP.exit ?_
  show WP _ _ _ _ _ _
  refine WP.sr [2] (by kernel_rfl) fun K hK => ?_
  simp (decide := true) only [W, Pr_prog, t_isStr_22, t_isSliceT_22, hk, q1, ↓reduceIte, Int.reduceToNat]
  refine hK _ _ ?_
  clear hK K
  refine WP.ret ?_
  exact Ends.pure (.inr rfl) rfl (Le.of_eq (by first | (simp (decide := true) only [St.get, lk, W, fewB, hk, q1, hI, ↓reduceIte]; done) | (simp [St.get, lk, W, bne, fewB, hk, q1, hI]; done) | (simp_all [St.get, lk, W, LN, bne, fewB]; done) | (simp_all [St.get, lk, W, LN, bne, fewB]; intros; first | omega | (rw [Bool.eq_iff_iff]; simp; try omega)))) (by simp)
theorem c_mentions (p : Rule) (a b : List UInt8) (hp : p.ok0) : CallP Pr 32 [.agg [.str p.name, .bool p.deny, .slice 3 p.nc (p.conds.map Cond.cs) none, .slice 1 p.ns (p.scopes.map fun x => [.str x]) none, .int .i64 p.lvl, .int .i64 p.age], .str a, .str b] (.bool (mentB a b p.conds)) := by
 refine CallP.of_wp Tryz.func32 rfl (by kernel_rfl) Tryz.ntmps32 (by simp) ?_
 simp only [frameOf, Nat.reduceAdd, Nat.zero_add]
 refine WP.sr [1, 2, 3] (by kernel_rfl) fun K hK => ?_
 simp (decide := true) only [W, Pr_prog, ↓reduceIte, Int.reduceToNat]
 refine hK _ _ ?_
 clear hK K
 refine WP.seq ?_
 refine WP.sr [1, 2, 3, 7] (by kernel_rfl) fun K hK => ?_
 simp (decide := true) only [W, Pr_prog, ↓reduceIte, Int.reduceToNat]
 refine hK _ _ ?_
 clear hK K
 refine WP.block ?_
 refine WP.lp [1, 2, 3] (X := {k : Nat // k ≤ p.conds.length ∧ mentB a b p.conds = (p.conds.drop k).any (fun c => c.f == a || c.f == b)}) (fun x => match x with | ⟨(k), _⟩ => [(7, .int .i64 k)]) (fun x => match x with | ⟨(k), _⟩ => [(0, .box 36 [.str p.name, .bool p.deny, .slice 3 p.nc (p.conds.map Cond.cs) none, .slice 1 p.ns (p.scopes.map fun x => [.str x]) none, .int .i64 p.lvl, .int .i64 p.age])]) (fun x => match x with | ⟨(k), _⟩ => p.conds.length - k) (by simp (decide := true) only [W, ↓reduceIte, Int.reduceToNat]; rfl) ?_ ⟨(0), ⟨Nat.zero_le _, by simp [mentB]⟩⟩ ?_
 rotate_left
 · exact Weak.store (by simp [St.get, lk, W, Le.refl, W]) (by simp [lk, W, W]) (by simp [lk, W]) (by simp [BClo, lk]) (by simp [lk])
 rintro ⟨k, hk, hI⟩
 dsimp only
 simp only [List.cons_append, List.nil_append]
 refine WP.seq ?_
 refine WP.sr [1, 2, 3, 7, 12] (by kernel_rfl) fun K hK => ?_
 simp (decide := true) only [W, Pr_prog, t_fldD_36_2, t_szD_33, t_aggD_33, t_isStr_33, t_isSliceT_33, hk, ↓reduceIte, Int.reduceToNat]
 refine hK _ _ ?_
 clear hK K
 refine WP.cond (b := _) rfl (fun q1 => ?_) (fun q1 => ?_)
 ·
  have hlt := lt_of_q q1
  have hg : (p.conds.map Cond.cs)[k]? = some [.str p.conds[k].f, .str p.conds[k].op, .str p.conds[k].v] := getM hlt
  have hnf := nl_false hp.2.1 hlt
  rw [dropE hlt] at hI
  simp only [List.any_cons] at hI
  have hp1 := hp.1
  refine WP.skip ?_
  show WP _ _ _ _ _ _
  refine WP.seq ?_
  refine WP.block ?_
  refine WP.sr [1, 2, 3, 7, 32] (by kernel_rfl) fun K hK => ?_
  refine runOps.take 9 fun J hJ => ?_
  simp (decide := true) only [W, Pr_prog, t_fldD_36_2, t_szD_33, t_aggD_33, t_elemD_33, t_fldD_43_0, t_szD_9, t_aggD_9, hk, q1, hg, hnf, ↓reduceIte, Int.reduceToNat]
  refine hJ _ _ ?_
  clear hJ J
  refine runOps.part 23 rfl (fun q2 => ?_) (fun q2 => ?_)
  ·
   simp (decide := true) only [W, Pr_prog, t_fldD_36_2, t_szD_33, t_aggD_33, t_elemD_33, t_fldD_43_0, t_szD_9, t_aggD_9, hk, q1, hg, hnf, q2, ↓reduceIte, Int.reduceToNat]
   refine hK _ _ ?_
   clear hK K
   refine WP.cond (b := true) (by first | rfl | simp [W, hk, q1, hg, hnf, q2]) (fun _ => ?_) nofun
   refine WP.sr [6] (by kernel_rfl) fun K hK => ?_
   simp (decide := true) only [W, Pr_prog, hk, q1, hg, hnf, q2, ↓reduceIte, Int.reduceToNat]
   refine hK _ _ ?_
   clear hK K
   refine WP.ret ?_
   exact Ends.pure (.inr rfl) rfl (Le.of_eq (by first | (simp (decide := true) only [St.get, lk, W, hk, q1, hg, hnf, q2, hI, ↓reduceIte]; done) | (simp [St.get, lk, W, bne, hk, q1, hg, hnf, q2, hI]; done) | (simp_all [St.get, lk, W, LN, bne]; done) | (simp_all [St.get, lk, W, LN, bne]; intros; first | omega | (rw [Bool.eq_iff_iff]; simp; try omega)))) (by simp)
  ·
   simp (decide := true) only [W, Pr_prog, t_fldD_36_2, t_szD_33, t_aggD_33, t_elemD_33, t_fldD_43_0, t_szD_9, t_aggD_9, hk, q1, hg, hnf, q2, ↓reduceIte, Int.reduceToNat]
   refine hK _ _ ?_
   clear hK K
   refine WP.cond (b := _) rfl (fun q3 => ?_) (fun q3 => ?_)
   ·
    refine WP.sr [6] (by kernel_rfl) fun K hK => ?_
    simp (decide := true) only [W, Pr_prog, hk, q1, hg, hnf, q2, q3, ↓reduceIte, Int.reduceToNat]
    refine hK _ _ ?_
    clear hK K
    refine WP.ret ?_
    exact Ends.pure (.inr rfl) rfl (Le.of_eq (by first | (simp (decide := true) only [St.get, lk, W, hk, q1, hg, hnf, q2, q3, hI, ↓reduceIte]; done) | (simp [St.get, lk, W, bne, hk, q1, hg, hnf, q2, q3, hI]; done) | (simp_all [St.get, lk, W, LN, bne]; done) | (simp_all [St.get, lk, W, LN, bne]; intros; first | omega | (rw [Bool.eq_iff_iff]; simp; try omega)))) (by simp)
   ·
    refine WP.skip ?_
    show WP _ _ _ _ _ _
    refine WP.region (by kernel_rfl) fun K hK => ?_
    simp (decide := true) only [W, Pr_prog, hk, q1, hg, hnf, q2, q3, ↓reduceIte, Int.reduceToNat]
    refine hK _ _ ?_
    clear hK K
    show ∃ y, _ ∧ Weak _ _ _
    refine ⟨⟨k + 1, ?_⟩, ?_, ?_⟩
    · exact ⟨by omega, by first | (simpa [hk, q1, hg, hnf, q2, q3] using hI) | (simp_all; done)⟩
    · dsimp only; omega
    · exact Weak.store (by simp [St.get, lk, W, Le.refl, hk, q1, hg, hnf, q2, q3, wrapS hlt (show p.conds.length ≤ 140737488355328 by omega)]) (by simp [lk, W, hk, q1, hg, hnf, q2, q3, wrapS hlt (show p.conds.length ≤ 140737488355328 by omega)]) (by simp [lk, W]) (by simp [BClo, lk]) (by simp [lk])
 ·
  have hge := ge_of_q q1
  rw [dropN hge] at hI
  simp only [List.any_nil] at hI
  refine WP.exit ?_
  show WP _ _ _ _ _ _
  refine WP.sr [6] (by kernel_rfl) fun K hK => ?_
  simp (decide := true) only [W, Pr_prog, hk, q1, ↓reduceIte, Int.reduceToNat]
  refine hK _ _ ?_
  clear hK K
  refine WP.ret ?_
  exact Ends.pure (.inr rfl) rfl (Le.of_eq (by first | (simp (decide := true) only [St.get, lk, W, hk, q1, hI, ↓reduceIte]; done) | (simp [St.get, lk, W, bne, hk, q1, hI]; done) | (simp_all [St.get, lk, W, LN, bne]; done) | (simp_all [St.get, lk, W, LN, bne]; intros; first | omega | (rw [Bool.eq_iff_iff]; simp; try omega)))) (by simp)
theorem c_r_holds (c : Cond) (r : Req) (hc : c.ok) (hr : r.ok) : CallP Pr 23 [.agg [.str c.f, .str c.op, .str c.v], .agg [.str r.user, .str r.client, .str r.tenant, .slice 1 r.ng (r.groups.map fun x => [.str x]) none, .slice 1 r.ns (r.scopes.map fun x => [.str x]) none, .int .i64 r.risk, .bool r.trusted, .int .i64 r.level, .int .i64 r.auth, .int .i64 r.now]] (.bool (holdsB c r)) := by
 refine CallP.of_wp Tryz.func23 rfl (by kernel_rfl) Tryz.ntmps23 (by simp) ?_
 simp only [frameOf, Nat.reduceAdd, Nat.zero_add]
 refine WP.sr [2, 3] (by kernel_rfl) fun K hK => ?_
 simp (decide := true) only [W, Pr_prog, rdD, ↓reduceIte, Int.reduceToNat]
 refine hK _ _ ?_
 clear hK K
 refine WP.seq ?_
 refine WP.sr [2, 3, 10] (by kernel_rfl) fun K hK => ?_
 simp (decide := true) only [W, Pr_prog, t_szD_43, t_aggD_43, rdD, ↓reduceIte, Int.reduceToNat]
 refine CallK.pure (c_r_possible c hc) rfl rfl (by simp [-List.map_take]) ?_
 simp (decide := true) only [W, Pr_prog, rdD, ↓reduceIte, Int.reduceToNat]
 refine hK _ _ ?_
 clear hK K
 refine WP.cond (b := _) rfl (fun q1 => ?_) (fun q1 => ?_)
 ·
  simp only [Bool.not_eq_true', Bool.not_eq_false'] at q1
  refine WP.sr [4] (by kernel_rfl) fun K hK => ?_
  simp (decide := true) only [W, Pr_prog, q1, rdD, ↓reduceIte, Int.reduceToNat]
  refine hK _ _ ?_
  clear hK K
  refine WP.ret ?_
  exact Ends.pure (.inr rfl) rfl (Le.of_eq (by first | (simp [St.get, lk, W, q1]; done) | (simp [St.get, lk, W, bne, holdsB, possB, wordR, membR, nmembR, q1]; done) | (simp_all [St.get, lk, W, LN, bne, holdsB, possB, wordR, membR, nmembR]; done))) (by simp)
 ·
  simp only [Bool.not_eq_true', Bool.not_eq_false'] at q1
  refine WP.skip ?_
  show WP _ _ _ _ _ _
  refine WP.sr [2, 3, 5] (by kernel_rfl) fun K hK => ?_
  refine runOps.take 4 fun J hJ => ?_
  simp (decide := true) only [W, Pr_prog, t_fldD_43_1, t_szD_9, t_aggD_9, q1, rdD, ↓reduceIte, Int.reduceToNat]
  refine hJ _ _ ?_
  clear hJ J
  refine runOps.part 14 rfl (fun q2 => ?_) (fun q2 => ?_)
  ·
   simp (decide := true) only [W, Pr_prog, t_fldD_43_1, t_szD_9, t_aggD_9, q1, q2, rdD, ↓reduceIte, Int.reduceToNat]
   refine hK _ _ ?_
   clear hK K
   refine WP.seq ?_
   refine WP.sr [2, 3, 5, 20] (by kernel_rfl) fun K hK => ?_
   simp (decide := true) only [W, Pr_prog, t_fldD_43_0, t_szD_9, t_aggD_9, q1, q2, rdD, ↓reduceIte, Int.reduceToNat]
   refine hK _ _ ?_
   clear hK K
   refine WP.block ?_
   refine WP.sr [2, 3, 5, 20, 21] (by kernel_rfl) fun K hK => ?_
   simp (decide := true) only [W, Pr_prog, q1, q2, rdD, ↓reduceIte, Int.reduceToNat]
   refine hK _ _ ?_
   clear hK K
   refine WP.cond (b := _) rfl (fun q3 => ?_) (fun q3 => ?_)
   ·
    refine WP.sr [4] (by kernel_rfl) fun K hK => ?_
    simp (decide := true) only [W, Pr_prog, t_fldD_38_0, t_szD_9, t_aggD_9, t_fldD_43_2, t_tkD_4, q1, q2, q3, rdD, ↓reduceIte, Int.reduceToNat]
    refine hK _ _ ?_
    clear hK K
    refine WP.ret ?_
    exact Ends.pure (.inr rfl) rfl (Le.of_eq (by first | (simp [St.get, lk, W, q1, q2, q3]; done) | (simp [St.get, lk, W, bne, holdsB, possB, wordR, membR, nmembR, q1, q2, q3]; done) | (simp_all [St.get, lk, W, LN, bne, holdsB, possB, wordR, membR, nmembR]; done))) (by simp)
   ·
    refine WP.sr [2, 3, 5, 20, 30] (by kernel_rfl) fun K hK => ?_
    simp (decide := true) only [W, Pr_prog, q1, q2, q3, rdD, ↓reduceIte, Int.reduceToNat]
    refine hK _ _ ?_
    clear hK K
    refine WP.cond (b := _) rfl (fun q4 => ?_) (fun q4 => ?_)
    ·
     refine WP.sr [4] (by kernel_rfl) fun K hK => ?_
     simp (decide := true) only [W, Pr_prog, t_fldD_38_1, t_szD_9, t_aggD_9, t_fldD_43_2, t_tkD_4, q1, q2, q3, q4, rdD, ↓reduceIte, Int.reduceToNat]
     refine hK _ _ ?_
     clear hK K
     refine WP.ret ?_
     exact Ends.pure (.inr rfl) rfl (Le.of_eq (by first | (simp [St.get, lk, W, q1, q2, q3, q4]; done) | (simp [St.get, lk, W, bne, holdsB, possB, wordR, membR, nmembR, q1, q2, q3, q4]; done) | (simp_all [St.get, lk, W, LN, bne, holdsB, possB, wordR, membR, nmembR]; done))) (by simp)
    ·
     refine WP.sr [2, 3, 5, 20, 39] (by kernel_rfl) fun K hK => ?_
     simp (decide := true) only [W, Pr_prog, q1, q2, q3, q4, rdD, ↓reduceIte, Int.reduceToNat]
     refine hK _ _ ?_
     clear hK K
     refine WP.cond (b := _) rfl (fun q5 => ?_) (fun q5 => ?_)
     ·
      refine WP.sr [4] (by kernel_rfl) fun K hK => ?_
      simp (decide := true) only [W, Pr_prog, t_fldD_38_2, t_szD_9, t_aggD_9, t_fldD_43_2, t_tkD_4, q1, q2, q3, q4, q5, rdD, ↓reduceIte, Int.reduceToNat]
      refine hK _ _ ?_
      clear hK K
      refine WP.ret ?_
      exact Ends.pure (.inr rfl) rfl (Le.of_eq (by first | (simp [St.get, lk, W, q1, q2, q3, q4, q5]; done) | (simp [St.get, lk, W, bne, holdsB, possB, wordR, membR, nmembR, q1, q2, q3, q4, q5]; done) | (simp_all [St.get, lk, W, LN, bne, holdsB, possB, wordR, membR, nmembR]; done))) (by simp)
     ·
      refine WP.sr [2, 3, 5, 20, 48] (by kernel_rfl) fun K hK => ?_
      simp (decide := true) only [W, Pr_prog, q1, q2, q3, q4, q5, rdD, ↓reduceIte, Int.reduceToNat]
      refine hK _ _ ?_
      clear hK K
      refine WP.cond (b := _) rfl (fun q6 => ?_) (fun q6 => ?_)
      ·
       have hz := holds_grp c r q1 q6
       refine WP.sr [4] (by kernel_rfl) fun K hK => ?_
       simp (decide := true) only [W, Pr_prog, t_fldD_38_3, t_szD_34, t_aggD_34, t_fldD_43_2, t_szD_9, t_aggD_9, q1, q2, q3, q4, q5, q6, hz, rdD, ↓reduceIte, Int.reduceToNat]
       refine CallK.pure (c_r_contains r.groups r.ng c.v (by have := hr.1; omega) hr.2.1) rfl rfl (by simp [-List.map_take]) ?_
       simp (decide := true) only [W, Pr_prog, t_tkD_4, q1, q2, q3, q4, q5, q6, hz, rdD, ↓reduceIte, Int.reduceToNat]
       refine hK _ _ ?_
       clear hK K
       refine WP.ret ?_
       exact Ends.pure (.inr rfl) rfl (Le.of_eq (by first | (simp [St.get, lk, W, q1, q2, q3, q4, q5, q6, hz]; done) | (simp [St.get, lk, W, bne, holdsB, possB, wordR, membR, nmembR, q1, q2, q3, q4, q5, q6, hz]; done) | (simp_all [St.get, lk, W, LN, bne, holdsB, possB, wordR, membR, nmembR]; done))) (by simp)
      ·
       refine WP.sr [2, 3, 5, 20, 57] (by kernel_rfl) fun K hK => ?_
       simp (decide := true) only [W, Pr_prog, q1, q2, q3, q4, q5, q6, rdD, ↓reduceIte, Int.reduceToNat]
       refine hK _ _ ?_
       clear hK K
       refine WP.cond (b := _) rfl (fun q7 => ?_) (fun q7 => ?_)
       ·
        have hz := holds_scp c r q1 q7
        refine WP.sr [4] (by kernel_rfl) fun K hK => ?_
        simp (decide := true) only [W, Pr_prog, t_fldD_38_4, t_szD_34, t_aggD_34, t_fldD_43_2, t_szD_9, t_aggD_9, q1, q2, q3, q4, q5, q6, q7, hz, rdD, ↓reduceIte, Int.reduceToNat]
        refine CallK.pure (c_r_contains r.scopes r.ns c.v (by have := hr.2.2.1; omega) hr.2.2.2) rfl rfl (by simp [-List.map_take]) ?_
        simp (decide := true) only [W, Pr_prog, t_tkD_4, q1, q2, q3, q4, q5, q6, q7, hz, rdD, ↓reduceIte, Int.reduceToNat]
        refine hK _ _ ?_
        clear hK K
        refine WP.ret ?_
        exact Ends.pure (.inr rfl) rfl (Le.of_eq (by first | (simp [St.get, lk, W, q1, q2, q3, q4, q5, q6, q7, hz]; done) | (simp [St.get, lk, W, bne, holdsB, possB, wordR, membR, nmembR, q1, q2, q3, q4, q5, q6, q7, hz]; done) | (simp_all [St.get, lk, W, LN, bne, holdsB, possB, wordR, membR, nmembR]; done))) (by simp)
       ·
        refine WP.sr [2, 3, 66] (by kernel_rfl) fun K hK => ?_
        simp (decide := true) only [W, Pr_prog, q1, q2, q3, q4, q5, q6, q7, rdD, ↓reduceIte, Int.reduceToNat]
        refine hK _ _ ?_
        clear hK K
        refine WP.cond (b := _) rfl (fun q8 => ?_) (fun q8 => ?_)
        ·
         have hz := holds_tru c r q1 q8
         refine WP.sr [4] (by kernel_rfl) fun K hK => ?_
         simp (decide := true) only [W, Pr_prog, t_fldD_38_6, t_szD_4, t_aggD_4, t_fldD_43_2, t_szD_9, t_aggD_9, t_tkD_4, q1, q2, q3, q4, q5, q6, q7, q8, hz, rdD, ↓reduceIte, Int.reduceToNat]
         refine hK _ _ ?_
         clear hK K
         refine WP.ret ?_
         exact Ends.pure (.inr rfl) rfl (Le.of_eq (by first | (simp [St.get, lk, W, q1, q2, q3, q4, q5, q6, q7, q8, hz]; done) | (simp [St.get, lk, W, bne, holdsB, possB, wordR, membR, nmembR, q1, q2, q3, q4, q5, q6, q7, q8, hz]; done) | (simp_all [St.get, lk, W, LN, bne, holdsB, possB, wordR, membR, nmembR]; done))) (by simp)
        ·
         refine WP.skip ?_
         show WP _ _ _ _ _ _
         refine WP.sr [2, 3, 6] (by kernel_rfl) fun K hK => ?_
         simp (decide := true) only [W, Pr_prog, t_fldD_43_2, t_szD_9, t_aggD_9, q1, q2, q3, q4, q5, q6, q7, q8, rdD, ↓reduceIte, Int.reduceToNat]
         refine CallK.pure (c_r_readint c.v hc.2.2) rfl rfl (by simp [-List.map_take]) ?_
         simp (decide := true) only [W, Pr_prog, q1, q2, q3, q4, q5, q6, q7, q8, rdD, ↓reduceIte, Int.reduceToNat]
         refine hK _ _ ?_
         clear hK K
         refine WP.seq ?_
         refine WP.sr [2, 3, 6, 82] (by kernel_rfl) fun K hK => ?_
         simp (decide := true) only [W, Pr_prog, t_fldD_43_1, t_szD_9, t_aggD_9, q1, q2, q3, q4, q5, q6, q7, q8, rdD, ↓reduceIte, Int.reduceToNat]
         refine hK _ _ ?_
         clear hK K
         refine WP.cond (b := _) rfl (fun q9 => ?_) (fun q9 => ?_)
         ·
          refine WP.sr [4] (by kernel_rfl) fun K hK => ?_
          simp (decide := true) only [W, Pr_prog, t_fldD_43_0, t_szD_9, t_aggD_9, t_szD_38, t_aggD_38, q1, q2, q3, q4, q5, q6, q7, q8, q9, rdD, ↓reduceIte, Int.reduceToNat]
          refine CallK.pure (c_r_amount c.f r) rfl rfl (by simp [-List.map_take]) ?_
          simp (decide := true) only [W, Pr_prog, q1, q2, q3, q4, q5, q6, q7, q8, q9, rdD, ↓reduceIte, Int.reduceToNat]
          refine hK _ _ ?_
          clear hK K
          refine WP.ret ?_
          exact Ends.pure (.inr rfl) rfl (Le.of_eq (by first | (simp [St.get, lk, W, q1, q2, q3, q4, q5, q6, q7, q8, q9]; done) | (simp [St.get, lk, W, bne, holdsB, possB, wordR, membR, nmembR, q1, q2, q3, q4, q5, q6, q7, q8, q9]; done) | (simp_all [St.get, lk, W, LN, bne, holdsB, possB, wordR, membR, nmembR]; done))) (by simp)
         ·
          refine WP.skip ?_
          show WP _ _ _ _ _ _
          refine WP.sr [4] (by kernel_rfl) fun K hK => ?_
          simp (decide := true) only [W, Pr_prog, t_fldD_43_0, t_szD_9, t_aggD_9, t_szD_38, t_aggD_38, q1, q2, q3, q4, q5, q6, q7, q8, q9, rdD, ↓reduceIte, Int.reduceToNat]
          refine CallK.pure (c_r_amount c.f r) rfl rfl (by simp [-List.map_take]) ?_
          simp (decide := true) only [W, Pr_prog, q1, q2, q3, q4, q5, q6, q7, q8, q9, rdD, ↓reduceIte, Int.reduceToNat]
          refine hK _ _ ?_
          clear hK K
          refine WP.ret ?_
          exact Ends.pure (.inr rfl) rfl (Le.of_eq (by first | (simp [St.get, lk, W, q1, q2, q3, q4, q5, q6, q7, q8, q9]; done) | (simp [St.get, lk, W, bne, holdsB, possB, wordR, membR, nmembR, q1, q2, q3, q4, q5, q6, q7, q8, q9]; done) | (simp_all [St.get, lk, W, LN, bne, holdsB, possB, wordR, membR, nmembR]; done))) (by simp)
  ·
   simp (decide := true) only [W, Pr_prog, t_fldD_43_1, t_szD_9, t_aggD_9, q1, q2, rdD, ↓reduceIte, Int.reduceToNat]
   refine hK _ _ ?_
   clear hK K
   refine WP.seq ?_
   refine WP.sr [2, 3, 5, 20] (by kernel_rfl) fun K hK => ?_
   simp (decide := true) only [W, Pr_prog, t_fldD_43_0, t_szD_9, t_aggD_9, q1, q2, rdD, ↓reduceIte, Int.reduceToNat]
   refine hK _ _ ?_
   clear hK K
   refine WP.block ?_
   refine WP.sr [2, 3, 5, 20, 21] (by kernel_rfl) fun K hK => ?_
   simp (decide := true) only [W, Pr_prog, q1, q2, rdD, ↓reduceIte, Int.reduceToNat]
   refine hK _ _ ?_
   clear hK K
   refine WP.cond (b := _) rfl (fun q10 => ?_) (fun q10 => ?_)
   ·
    refine WP.sr [4] (by kernel_rfl) fun K hK => ?_
    simp (decide := true) only [W, Pr_prog, t_fldD_38_0, t_szD_9, t_aggD_9, t_fldD_43_2, t_tkD_4, q1, q2, q10, rdD, ↓reduceIte, Int.reduceToNat]
    refine hK _ _ ?_
    clear hK K
    refine WP.ret ?_
    exact Ends.pure (.inr rfl) rfl (Le.of_eq (by first | (simp [St.get, lk, W, q1, q2, q10]; done) | (simp [St.get, lk, W, bne, holdsB, possB, wordR, membR, nmembR, q1, q2, q10]; done) | (simp_all [St.get, lk, W, LN, bne, holdsB, possB, wordR, membR, nmembR]; done))) (by simp)
   ·
    refine WP.sr [2, 3, 5, 20, 30] (by kernel_rfl) fun K hK => ?_
    simp (decide := true) only [W, Pr_prog, q1, q2, q10, rdD, ↓reduceIte, Int.reduceToNat]
    refine hK _ _ ?_
    clear hK K
    refine WP.cond (b := _) rfl (fun q11 => ?_) (fun q11 => ?_)
    ·
     refine WP.sr [4] (by kernel_rfl) fun K hK => ?_
     simp (decide := true) only [W, Pr_prog, t_fldD_38_1, t_szD_9, t_aggD_9, t_fldD_43_2, t_tkD_4, q1, q2, q10, q11, rdD, ↓reduceIte, Int.reduceToNat]
     refine hK _ _ ?_
     clear hK K
     refine WP.ret ?_
     exact Ends.pure (.inr rfl) rfl (Le.of_eq (by first | (simp [St.get, lk, W, q1, q2, q10, q11]; done) | (simp [St.get, lk, W, bne, holdsB, possB, wordR, membR, nmembR, q1, q2, q10, q11]; done) | (simp_all [St.get, lk, W, LN, bne, holdsB, possB, wordR, membR, nmembR]; done))) (by simp)
    ·
     refine WP.sr [2, 3, 5, 20, 39] (by kernel_rfl) fun K hK => ?_
     simp (decide := true) only [W, Pr_prog, q1, q2, q10, q11, rdD, ↓reduceIte, Int.reduceToNat]
     refine hK _ _ ?_
     clear hK K
     refine WP.cond (b := _) rfl (fun q12 => ?_) (fun q12 => ?_)
     ·
      refine WP.sr [4] (by kernel_rfl) fun K hK => ?_
      simp (decide := true) only [W, Pr_prog, t_fldD_38_2, t_szD_9, t_aggD_9, t_fldD_43_2, t_tkD_4, q1, q2, q10, q11, q12, rdD, ↓reduceIte, Int.reduceToNat]
      refine hK _ _ ?_
      clear hK K
      refine WP.ret ?_
      exact Ends.pure (.inr rfl) rfl (Le.of_eq (by first | (simp [St.get, lk, W, q1, q2, q10, q11, q12]; done) | (simp [St.get, lk, W, bne, holdsB, possB, wordR, membR, nmembR, q1, q2, q10, q11, q12]; done) | (simp_all [St.get, lk, W, LN, bne, holdsB, possB, wordR, membR, nmembR]; done))) (by simp)
     ·
      refine WP.sr [2, 3, 5, 20, 48] (by kernel_rfl) fun K hK => ?_
      simp (decide := true) only [W, Pr_prog, q1, q2, q10, q11, q12, rdD, ↓reduceIte, Int.reduceToNat]
      refine hK _ _ ?_
      clear hK K
      refine WP.cond (b := _) rfl (fun q13 => ?_) (fun q13 => ?_)
      ·
       have hz := holds_grp c r q1 q13
       refine WP.sr [4] (by kernel_rfl) fun K hK => ?_
       simp (decide := true) only [W, Pr_prog, t_fldD_38_3, t_szD_34, t_aggD_34, t_fldD_43_2, t_szD_9, t_aggD_9, q1, q2, q10, q11, q12, q13, hz, rdD, ↓reduceIte, Int.reduceToNat]
       refine CallK.pure (c_r_contains r.groups r.ng c.v (by have := hr.1; omega) hr.2.1) rfl rfl (by simp [-List.map_take]) ?_
       simp (decide := true) only [W, Pr_prog, t_tkD_4, q1, q2, q10, q11, q12, q13, hz, rdD, ↓reduceIte, Int.reduceToNat]
       refine hK _ _ ?_
       clear hK K
       refine WP.ret ?_
       exact Ends.pure (.inr rfl) rfl (Le.of_eq (by first | (simp [St.get, lk, W, q1, q2, q10, q11, q12, q13, hz]; done) | (simp [St.get, lk, W, bne, holdsB, possB, wordR, membR, nmembR, q1, q2, q10, q11, q12, q13, hz]; done) | (simp_all [St.get, lk, W, LN, bne, holdsB, possB, wordR, membR, nmembR]; done))) (by simp)
      ·
       refine WP.sr [2, 3, 5, 20, 57] (by kernel_rfl) fun K hK => ?_
       simp (decide := true) only [W, Pr_prog, q1, q2, q10, q11, q12, q13, rdD, ↓reduceIte, Int.reduceToNat]
       refine hK _ _ ?_
       clear hK K
       refine WP.cond (b := _) rfl (fun q14 => ?_) (fun q14 => ?_)
       ·
        have hz := holds_scp c r q1 q14
        refine WP.sr [4] (by kernel_rfl) fun K hK => ?_
        simp (decide := true) only [W, Pr_prog, t_fldD_38_4, t_szD_34, t_aggD_34, t_fldD_43_2, t_szD_9, t_aggD_9, q1, q2, q10, q11, q12, q13, q14, hz, rdD, ↓reduceIte, Int.reduceToNat]
        refine CallK.pure (c_r_contains r.scopes r.ns c.v (by have := hr.2.2.1; omega) hr.2.2.2) rfl rfl (by simp [-List.map_take]) ?_
        simp (decide := true) only [W, Pr_prog, t_tkD_4, q1, q2, q10, q11, q12, q13, q14, hz, rdD, ↓reduceIte, Int.reduceToNat]
        refine hK _ _ ?_
        clear hK K
        refine WP.ret ?_
        exact Ends.pure (.inr rfl) rfl (Le.of_eq (by first | (simp [St.get, lk, W, q1, q2, q10, q11, q12, q13, q14, hz]; done) | (simp [St.get, lk, W, bne, holdsB, possB, wordR, membR, nmembR, q1, q2, q10, q11, q12, q13, q14, hz]; done) | (simp_all [St.get, lk, W, LN, bne, holdsB, possB, wordR, membR, nmembR]; done))) (by simp)
       ·
        refine WP.sr [2, 3, 66] (by kernel_rfl) fun K hK => ?_
        simp (decide := true) only [W, Pr_prog, q1, q2, q10, q11, q12, q13, q14, rdD, ↓reduceIte, Int.reduceToNat]
        refine hK _ _ ?_
        clear hK K
        refine WP.cond (b := _) rfl (fun q15 => ?_) (fun q15 => ?_)
        ·
         have hz := holds_tru c r q1 q15
         refine WP.sr [4] (by kernel_rfl) fun K hK => ?_
         simp (decide := true) only [W, Pr_prog, t_fldD_38_6, t_szD_4, t_aggD_4, t_fldD_43_2, t_szD_9, t_aggD_9, t_tkD_4, q1, q2, q10, q11, q12, q13, q14, q15, hz, rdD, ↓reduceIte, Int.reduceToNat]
         refine hK _ _ ?_
         clear hK K
         refine WP.ret ?_
         exact Ends.pure (.inr rfl) rfl (Le.of_eq (by first | (simp [St.get, lk, W, q1, q2, q10, q11, q12, q13, q14, q15, hz]; done) | (simp [St.get, lk, W, bne, holdsB, possB, wordR, membR, nmembR, q1, q2, q10, q11, q12, q13, q14, q15, hz]; done) | (simp_all [St.get, lk, W, LN, bne, holdsB, possB, wordR, membR, nmembR]; done))) (by simp)
        ·
         refine WP.skip ?_
         show WP _ _ _ _ _ _
         refine WP.sr [2, 3, 6] (by kernel_rfl) fun K hK => ?_
         simp (decide := true) only [W, Pr_prog, t_fldD_43_2, t_szD_9, t_aggD_9, q1, q2, q10, q11, q12, q13, q14, q15, rdD, ↓reduceIte, Int.reduceToNat]
         refine CallK.pure (c_r_readint c.v hc.2.2) rfl rfl (by simp [-List.map_take]) ?_
         simp (decide := true) only [W, Pr_prog, q1, q2, q10, q11, q12, q13, q14, q15, rdD, ↓reduceIte, Int.reduceToNat]
         refine hK _ _ ?_
         clear hK K
         refine WP.seq ?_
         refine WP.sr [2, 3, 6, 82] (by kernel_rfl) fun K hK => ?_
         simp (decide := true) only [W, Pr_prog, t_fldD_43_1, t_szD_9, t_aggD_9, q1, q2, q10, q11, q12, q13, q14, q15, rdD, ↓reduceIte, Int.reduceToNat]
         refine hK _ _ ?_
         clear hK K
         refine WP.cond (b := _) rfl (fun q16 => ?_) (fun q16 => ?_)
         ·
          refine WP.sr [4] (by kernel_rfl) fun K hK => ?_
          simp (decide := true) only [W, Pr_prog, t_fldD_43_0, t_szD_9, t_aggD_9, t_szD_38, t_aggD_38, q1, q2, q10, q11, q12, q13, q14, q15, q16, rdD, ↓reduceIte, Int.reduceToNat]
          refine CallK.pure (c_r_amount c.f r) rfl rfl (by simp [-List.map_take]) ?_
          simp (decide := true) only [W, Pr_prog, q1, q2, q10, q11, q12, q13, q14, q15, q16, rdD, ↓reduceIte, Int.reduceToNat]
          refine hK _ _ ?_
          clear hK K
          refine WP.ret ?_
          exact Ends.pure (.inr rfl) rfl (Le.of_eq (by first | (simp [St.get, lk, W, q1, q2, q10, q11, q12, q13, q14, q15, q16]; done) | (simp [St.get, lk, W, bne, holdsB, possB, wordR, membR, nmembR, q1, q2, q10, q11, q12, q13, q14, q15, q16]; done) | (simp_all [St.get, lk, W, LN, bne, holdsB, possB, wordR, membR, nmembR]; done))) (by simp)
         ·
          refine WP.skip ?_
          show WP _ _ _ _ _ _
          refine WP.sr [4] (by kernel_rfl) fun K hK => ?_
          simp (decide := true) only [W, Pr_prog, t_fldD_43_0, t_szD_9, t_aggD_9, t_szD_38, t_aggD_38, q1, q2, q10, q11, q12, q13, q14, q15, q16, rdD, ↓reduceIte, Int.reduceToNat]
          refine CallK.pure (c_r_amount c.f r) rfl rfl (by simp [-List.map_take]) ?_
          simp (decide := true) only [W, Pr_prog, q1, q2, q10, q11, q12, q13, q14, q15, q16, rdD, ↓reduceIte, Int.reduceToNat]
          refine hK _ _ ?_
          clear hK K
          refine WP.ret ?_
          exact Ends.pure (.inr rfl) rfl (Le.of_eq (by first | (simp [St.get, lk, W, q1, q2, q10, q11, q12, q13, q14, q15, q16]; done) | (simp [St.get, lk, W, bne, holdsB, possB, wordR, membR, nmembR, q1, q2, q10, q11, q12, q13, q14, q15, q16]; done) | (simp_all [St.get, lk, W, LN, bne, holdsB, possB, wordR, membR, nmembR]; done))) (by simp)
theorem c_r_first (p : Rule) (r : Req) (hp : p.ok) (hr : r.ok) : CallP Pr 25 [.agg [.str p.name, .bool p.deny, .slice 3 p.nc (p.conds.map Cond.cs) none, .slice 1 p.ns (p.scopes.map fun x => [.str x]) none, .int .i64 p.lvl, .int .i64 p.age], .agg [.str r.user, .str r.client, .str r.tenant, .slice 1 r.ng (r.groups.map fun x => [.str x]) none, .slice 1 r.ns (r.scopes.map fun x => [.str x]) none, .int .i64 r.risk, .bool r.trusted, .int .i64 r.level, .int .i64 r.auth, .int .i64 r.now]] (.int .i64 (firstL r p.conds 0)) := by
 refine CallP.of_wp Tryz.func25 rfl (by kernel_rfl) Tryz.ntmps25 (by simp) ?_
 simp only [frameOf, Nat.reduceAdd, Nat.zero_add]
 refine WP.sr [2, 3] (by kernel_rfl) fun K hK => ?_
 simp (decide := true) only [W, Pr_prog, ↓reduceIte, Int.reduceToNat]
 refine hK _ _ ?_
 clear hK K
 refine WP.seq ?_
 refine WP.sr [2, 3, 5] (by kernel_rfl) fun K hK => ?_
 simp (decide := true) only [W, Pr_prog, ↓reduceIte, Int.reduceToNat]
 refine hK _ _ ?_
 clear hK K
 refine WP.block ?_
 refine WP.lp [2, 3] (X := {k : Nat // k ≤ p.conds.length ∧ firstL r p.conds 0 = firstL r (p.conds.drop k) k}) (fun x => match x with | ⟨(k), _⟩ => [(5, .int .i64 k)]) (fun x => match x with | ⟨(k), _⟩ => [(0, .box 36 [.str p.name, .bool p.deny, .slice 3 p.nc (p.conds.map Cond.cs) none, .slice 1 p.ns (p.scopes.map fun x => [.str x]) none, .int .i64 p.lvl, .int .i64 p.age]), (1, .box 38 [.str r.user, .str r.client, .str r.tenant, .slice 1 r.ng (r.groups.map fun x => [.str x]) none, .slice 1 r.ns (r.scopes.map fun x => [.str x]) none, .int .i64 r.risk, .bool r.trusted, .int .i64 r.level, .int .i64 r.auth, .int .i64 r.now])]) (fun x => match x with | ⟨(k), _⟩ => p.conds.length - k) (by simp (decide := true) only [W, ↓reduceIte, Int.reduceToNat]; rfl) ?_ ⟨(0), ⟨Nat.zero_le _, by simp⟩⟩ ?_
 rotate_left
 · exact Weak.store (by simp [St.get, lk, W, Le.refl, W]) (by simp [lk, W, W]) (by simp [lk, W]) (by simp [BClo, lk]) (by simp [lk])
 rintro ⟨k, hk, hI⟩
 dsimp only
 simp only [List.cons_append, List.nil_append]
 refine WP.seq ?_
 refine WP.sr [2, 3, 5, 10] (by kernel_rfl) fun K hK => ?_
 simp (decide := true) only [W, Pr_prog, t_fldD_36_2, t_szD_33, t_aggD_33, t_isStr_33, t_isSliceT_33, hk, ↓reduceIte, Int.reduceToNat]
 refine hK _ _ ?_
 clear hK K
 refine WP.cond (b := _) rfl (fun q1 => ?_) (fun q1 => ?_)
 ·
  have hlt := lt_of_q q1
  have hg : (p.conds.map Cond.cs)[k]? = some [.str p.conds[k].f, .str p.conds[k].op, .str p.conds[k].v] := getM hlt
  have hnf := nl_false hp.1.2.1 hlt
  rw [dropE hlt] at hI
  simp only [firstL] at hI
  have hp1 := hp.1.1
  refine WP.skip ?_
  show WP _ _ _ _ _ _
  refine WP.seq ?_
  refine WP.block ?_
  refine WP.sd [2, 3, 5, 20] (by kernel_rfl) (by kernel_rfl) fun K hK => ?_
  simp (decide := true) only [W, Pr_prog, t_fldD_36_2, t_szD_33, t_aggD_33, t_elemD_33, t_szD_43, t_aggD_43, t_szD_38, t_aggD_38, hk, q1, hg, hnf, ↓reduceIte, Int.reduceToNat]
  refine CallK.pure (c_r_holds p.conds[k] r (hp.2.2.1 _ (List.getElem_mem hlt)) hr) rfl rfl (by simp [-List.map_take]) ?_
  simp (decide := true) only [W, Pr_prog, hk, q1, hg, hnf, ↓reduceIte, Int.reduceToNat]
  refine hK _ _ (by kernel_rfl) ?_
  clear hK K
  refine WP.cond (b := _) rfl (fun q2 => ?_) (fun q2 => ?_)
  ·
   simp only [Bool.not_eq_true', Bool.not_eq_false'] at q2
   refine WP.sr [4] (by kernel_rfl) fun K hK => ?_
   simp (decide := true) only [W, Pr_prog, hk, q1, hg, hnf, q2, ↓reduceIte, Int.reduceToNat]
   refine hK _ _ ?_
   clear hK K
   refine WP.ret ?_
   exact Ends.pure (.inr rfl) rfl (Le.of_eq (by first | (simp (decide := true) only [St.get, lk, W, hk, q1, hg, hnf, q2, hI, ↓reduceIte]; done) | (simp [St.get, lk, W, bne, hk, q1, hg, hnf, q2, hI]; done) | (simp_all [St.get, lk, W, LN, bne]; done) | (simp_all [St.get, lk, W, LN, bne]; intros; first | omega | (rw [Bool.eq_iff_iff]; simp; try omega)))) (by simp)
  ·
   simp only [Bool.not_eq_true', Bool.not_eq_false'] at q2
   refine WP.skip ?_
   show WP _ _ _ _ _ _
   refine WP.region (by kernel_rfl) fun K hK => ?_
   simp (decide := true) only [W, Pr_prog, hk, q1, hg, hnf, q2, ↓reduceIte, Int.reduceToNat]
   refine hK _ _ ?_
   clear hK K
   show ∃ y, _ ∧ Weak _ _ _
   refine ⟨⟨k + 1, ?_⟩, ?_, ?_⟩
   · exact ⟨by omega, by first | (simpa [hk, q1, hg, hnf, q2] using hI) | (simp_all; done)⟩
   · dsimp only; omega
   · exact Weak.store (by simp [St.get, lk, W, Le.refl, hk, q1, hg, hnf, q2, wrapS hlt (show p.conds.length ≤ 140737488355328 by omega)]) (by simp [lk, W, hk, q1, hg, hnf, q2, wrapS hlt (show p.conds.length ≤ 140737488355328 by omega)]) (by simp [lk, W]) (by simp [BClo, lk]) (by simp [lk])
 ·
  have hge := ge_of_q q1
  rw [dropN hge] at hI
  simp only [firstL] at hI
  refine WP.exit ?_
  show WP _ _ _ _ _ _
  refine WP.sr [4] (by kernel_rfl) fun K hK => ?_
  simp (decide := true) only [W, Pr_prog, hk, q1, ↓reduceIte, Int.reduceToNat]
  refine hK _ _ ?_
  clear hK K
  refine WP.ret ?_
  exact Ends.pure (.inr rfl) rfl (Le.of_eq (by first | (simp (decide := true) only [St.get, lk, W, hk, q1, hI, ↓reduceIte]; done) | (simp [St.get, lk, W, bne, hk, q1, hI]; done) | (simp_all [St.get, lk, W, LN, bne]; done) | (simp_all [St.get, lk, W, LN, bne]; intros; first | omega | (rw [Bool.eq_iff_iff]; simp; try omega)))) (by simp)
end Go.Proofs

set_option linter.unusedSimpArgs false
set_option linter.unusedVariables false
namespace Go.Proofs
open Go Go.Id
def all2 {α β : Type} (p : α → β → Bool) : List α → List β → Bool
  | [], [] => true
  | x :: a, y :: b => p x y && all2 p a b
  | _, _ => false
theorem all2_len {α β : Type} (p : α → β → Bool) : ∀ (a : List α) (b : List β), a.length ≠ b.length → all2 p a b = false
  | [], [], h => absurd rfl h
  | x :: a, y :: b, h => by
    rw [all2, all2_len p a b (by simpa using h), Bool.and_false]
  | [], _ :: _, _ => rfl
  | _ :: _, [], _ => rfl
theorem all2_cons {α β : Type} (p : α → β → Bool) (x : α) (a : List α) (y : β) (b : List β) : all2 p (x :: a) (y :: b) = (p x y && all2 p a b) := rfl
theorem all2_nil {α β : Type} (p : α → β → Bool) : all2 p ([] : List α) ([] : List β) = true := rfl
def eqStr (a b : List UInt8) : Bool := a == b
def eqC (a b : Cond) : Bool := a.f == b.f && (a.op == b.op && a.v == b.v)
def sameR (a b : Rule) : Bool := a.name == b.name && a.deny == b.deny && a.lvl == b.lvl && a.age == b.age && all2 eqC a.conds b.conds && all2 eqStr a.scopes b.scopes
def equalR (a b : List Rule) : Bool := all2 sameR a b
def ixP {α : Type} (p : α → Bool) : List α → Int → Int
  | [], _ => -1
  | x :: l, i => if p x then i else ixP p l (i + 1)
theorem ixP_any {α : Type} (p : α → Bool) : ∀ (l : List α) (i : Int), 0 ≤ i → decide (ixP p l i ≥ 0) = l.any p
  | [], i, _ => by simp [ixP]
  | x :: l, i, hi => by
    have ih := ixP_any p l (i + 1) (by omega)
    by_cases h : p x = true
    · have e : ixP p (x :: l) i = i := by simp [ixP, h]
      simp only [e, List.any_cons, h, Bool.true_or]; simp; omega
    · have e : ixP p (x :: l) i = ixP p l (i + 1) := by simp [ixP, h]
      simp only [e, ih, List.any_cons]; simp [h]
theorem ixP_any0 {α : Type} (p : α → Bool) (l : List α) : decide (0 ≤ ixP p l 0) = l.any p := ixP_any p l 0 (Int.le_refl 0)
def badSc (s : List (List UInt8)) : Bool := (scopeE s != 0) || s.contains [108, 101, 118, 101, 108] || s.contains [97, 103, 101]
def ruleErrB (p : Rule) : Int :=
  if decide ((p.conds.length : Int) > 8) = true then 3
  else if p.conds.any (fun c => !possB c) = true then 4
  else if (p.deny && (decide ((p.scopes.length : Int) > 0) || p.lvl != 0 || p.age != 0)) = true then 2
  else if p.deny = true then 0
  else if ((p.scopes.length : Int) == 0) = true then 6
  else if badSc p.scopes = true then 19
  else if (decide (p.lvl < 0) || decide (p.lvl > 3) || decide (p.age < 0)) = true then 27 else 0
def ruleAt (seen : List Rule) (p : Rule) : Int :=
  if (!wordB p.name) = true then 5 else if seen.any (fun q => q.name == p.name) = true then 7 else ruleErrB p
def chkL (seen : List Rule) : List Rule → Int
  | [] => 0
  | p :: t => if (ruleAt seen p != 0) = true then ruleAt seen p else chkL (seen ++ [p]) t
def checkE (l : List Rule) : Int := if decide ((l.length : Int) > 64) = true then 3 else chkL [] l
end Go.Proofs

set_option linter.unusedSimpArgs false
set_option linter.unusedVariables false
set_option maxRecDepth 10000
namespace Go.Proofs
open Go Go.Id

theorem c_eq_str (a : List (List UInt8)) (na : Bool) (b : List (List UInt8)) (nb : Bool) (ha : a.length ≤ 1099511627776) (hna : na = true → a = []) (hb : b.length ≤ 1099511627776) (hnb : nb = true → b = []) : CallP Pr 97 [.slice 1 na (a.map fun x => [D.str x]) none, .slice 1 nb (b.map fun x => [D.str x]) none] (.bool (all2 eqStr a b)) := by
 refine CallP.of_wp Tryz.func97 rfl (by kernel_rfl) Tryz.ntmps97 (by simp) ?_
 simp only [frameOf, Nat.reduceAdd, Nat.zero_add]
 refine WP.sr [0, 1] (by kernel_rfl) fun K hK => ?_
 simp (decide := true) only [W, Pr_prog, ↓reduceIte, Int.reduceToNat]
 refine hK _ _ ?_
 clear hK K
 refine WP.seq ?_
 refine WP.sr [0, 1, 10] (by kernel_rfl) fun K hK => ?_
 simp (decide := true) only [W, Pr_prog, t_isStr_34, t_isSliceT_34, ↓reduceIte, Int.reduceToNat]
 refine hK _ _ ?_
 clear hK K
 refine WP.cond (b := _) rfl (fun q1 => ?_) (fun q1 => ?_)
 ·
  have hne : a.length ≠ b.length := by simp at q1; omega
  have hz := all2_len eqStr a b hne
  refine WP.sr [4] (by kernel_rfl) fun K hK => ?_
  simp (decide := true) only [W, Pr_prog, q1, hz, ↓reduceIte, Int.reduceToNat]
  refine hK _ _ ?_
  clear hK K
  refine WP.ret ?_
  exact Ends.pure (.inr rfl) rfl (Le.of_eq (by first | (simp (decide := true) only [St.get, lk, W, eqStr, q1, hz, ↓reduceIte]; done) | (simp [St.get, lk, W, bne, eqStr, q1, hz]; done) | (simp_all [St.get, lk, W, LN, bne, eqStr]; done) | (simp_all [St.get, lk, W, LN, bne, eqStr]; intros; first | omega | (rw [Bool.eq_iff_iff]; simp; try omega)))) (by simp)
 ·
  have hlen : a.length = b.length := by simp at q1; omega
  refine WP.skip ?_
  show WP _ _ _ _ _ _
  refine WP.seq ?_
  refine WP.sr [0, 1, 12, 13] (by kernel_rfl) fun K hK => ?_
  simp (decide := true) only [W, Pr_prog, t_isStr_34, t_isSliceT_34, q1, ↓reduceIte, Int.reduceToNat]
  refine hK _ _ ?_
  clear hK K
  refine WP.block ?_
  refine WP.lp [0, 1, 12] (X := {k : Nat // k ≤ a.length ∧ all2 eqStr a b = all2 eqStr (a.drop k) (b.drop k)}) (fun x => match x with | ⟨(k), _⟩ => [(13, .int .i64 k)]) (fun x => match x with | ⟨(k), _⟩ => []) (fun x => match x with | ⟨(k), _⟩ => a.length - k) (by simp (decide := true) only [W, ↓reduceIte, Int.reduceToNat]; rfl) ?_ ⟨(0), ⟨Nat.zero_le _, by simp⟩⟩ ?_
  rotate_left
  · exact Weak.store (by simp [St.get, lk, W, Le.refl, q1]) (by simp [lk, W, q1]) (by simp [lk, W]) (by simp [BClo, lk]) (by simp [lk])
  rintro ⟨k, hk, hI⟩
  dsimp only
  simp only [List.cons_append, List.nil_append]
  refine WP.sr [0, 1, 12, 13, 14] (by kernel_rfl) fun K hK => ?_
  simp (decide := true) only [W, Pr_prog, q1, ↓reduceIte, Int.reduceToNat]
  refine hK _ _ ?_
  clear hK K
  refine WP.seq ?_
  refine WP.cond (b := _) rfl (fun q2 => ?_) (fun q2 => ?_)
  ·
   have hlt := lt_of_q q2
   have hlt2 : k < b.length := by omega
   have hg : (a.map fun x => [D.str x])[k]? = some [.str a[k]] := getM hlt
   have hg2 : (b.map fun x => [D.str x])[k]? = some [.str b[k]] := getM hlt2
   have hnf := nl_false hna hlt
   have hnf2 := nl_false hnb hlt2
   rw [dropE hlt, dropE hlt2, all2_cons] at hI
   refine WP.skip ?_
   show WP _ _ _ _ _ _
   refine WP.seq ?_
   refine WP.block ?_
   refine WP.sr [0, 1, 5, 12, 13] (by kernel_rfl) fun K hK => ?_
   simp (decide := true) only [W, Pr_prog, q1, q2, hg, hg2, hnf, hnf2, ↓reduceIte, Int.reduceToNat]
   refine hK _ _ ?_
   clear hK K
   refine WP.sd [0, 1, 12, 13, 24] (by kernel_rfl) (by kernel_rfl) fun K hK => ?_
   simp (decide := true) only [W, Pr_prog, t_elemD_34, t_szD_9, t_aggD_9, q1, q2, hg, hg2, hnf, hnf2, ↓reduceIte, Int.reduceToNat]
   refine hK _ _ (by kernel_rfl) ?_
   clear hK K
   refine WP.cond (b := _) rfl (fun q3 => ?_) (fun q3 => ?_)
   ·
    refine WP.sr [4] (by kernel_rfl) fun K hK => ?_
    simp (decide := true) only [W, Pr_prog, q1, q2, hg, hg2, hnf, hnf2, q3, ↓reduceIte, Int.reduceToNat]
    refine hK _ _ ?_
    clear hK K
    refine WP.ret ?_
    exact Ends.pure (.inr rfl) rfl (Le.of_eq (by first | (simp (decide := true) only [St.get, lk, W, eqStr, q1, q2, hg, hg2, hnf, hnf2, q3, hI, ↓reduceIte]; done) | (simp [St.get, lk, W, bne, eqStr, q1, q2, hg, hg2, hnf, hnf2, q3, hI]; done) | (simp_all [St.get, lk, W, LN, bne, eqStr]; done) | (simp_all [St.get, lk, W, LN, bne, eqStr]; intros; first | omega | (rw [Bool.eq_iff_iff]; simp; try omega)))) (by simp)
   ·
    refine WP.skip ?_
    show WP _ _ _ _ _ _
    refine WP.region (by kernel_rfl) fun K hK => ?_
    simp (decide := true) only [W, Pr_prog, q1, q2, hg, hg2, hnf, hnf2, q3, ↓reduceIte, Int.reduceToNat]
    refine hK _ _ ?_
    clear hK K
    show ∃ y, _ ∧ Weak _ _ _
    refine ⟨⟨k + 1, ?_⟩, ?_, ?_⟩
    · exact ⟨by omega, by first | (simpa [q1, q2, hg, hg2, hnf, hnf2, q3] using hI) | (simp_all [eqStr, eqC]; done)⟩
    · dsimp only; omega
    · exact Weak.store (by simp [St.get, lk, W, Le.refl, q1, q2, hg, hg2, hnf, hnf2, q3, wrapS hlt (show a.length ≤ 140737488355328 by omega)]) (by simp [lk, W, q1, q2, hg, hg2, hnf, hnf2, q3, wrapS hlt (show a.length ≤ 140737488355328 by omega)]) (by simp [lk, W]) (by simp [BClo, lk]) (by simp [lk])
  ·
   have hge := ge_of_q q2
   rw [dropN hge, dropN (show b.length ≤ k by omega), all2_nil] at hI
   refine WP.exit ?_
   show WP _ _ _ _ _ _
   refine WP.sr [4] (by kernel_rfl) fun K hK => ?_
   simp (decide := true) only [W, Pr_prog, q1, q2, ↓reduceIte, Int.reduceToNat]
   refine hK _ _ ?_
   clear hK K
   refine WP.ret ?_
   exact Ends.pure (.inr rfl) rfl (Le.of_eq (by first | (simp (decide := true) only [St.get, lk, W, eqStr, q1, q2, hI, ↓reduceIte]; done) | (simp [St.get, lk, W, bne, eqStr, q1, q2, hI]; done) | (simp_all [St.get, lk, W, LN, bne, eqStr]; done) | (simp_all [St.get, lk, W, LN, bne, eqStr]; intros; first | omega | (rw [Bool.eq_iff_iff]; simp; try omega)))) (by simp)
theorem c_r_lists (a : List (List UInt8)) (na : Bool) (b : List (List UInt8)) (nb : Bool) (ha : a.length ≤ 1099511627776) (hna : na = true → a = []) (hb : b.length ≤ 1099511627776) (hnb : nb = true → b = []) : CallP Pr 26 [.slice 1 na (a.map fun x => [D.str x]) none, .slice 1 nb (b.map fun x => [D.str x]) none] (.bool (all2 eqStr a b)) := by
 refine CallP.of_wp Tryz.func26 rfl (by kernel_rfl) Tryz.ntmps26 (by simp) ?_
 simp only [frameOf, Nat.reduceAdd, Nat.zero_add]
 refine WP.sr [0, 1] (by kernel_rfl) fun K hK => ?_
 simp (decide := true) only [W, Pr_prog, ↓reduceIte, Int.reduceToNat]
 refine hK _ _ ?_
 clear hK K
 refine WP.seq ?_
 refine WP.sr [0, 1, 10] (by kernel_rfl) fun K hK => ?_
 simp (decide := true) only [W, Pr_prog, t_isStr_34, t_isSliceT_34, ↓reduceIte, Int.reduceToNat]
 refine hK _ _ ?_
 clear hK K
 refine WP.cond (b := _) rfl (fun q1 => ?_) (fun q1 => ?_)
 ·
  have hne : a.length ≠ b.length := by simp at q1; omega
  have hz := all2_len eqStr a b hne
  refine WP.sr [4] (by kernel_rfl) fun K hK => ?_
  simp (decide := true) only [W, Pr_prog, q1, hz, ↓reduceIte, Int.reduceToNat]
  refine hK _ _ ?_
  clear hK K
  refine WP.ret ?_
  exact Ends.pure (.inr rfl) rfl (Le.of_eq (by first | (simp (decide := true) only [St.get, lk, W, eqStr, q1, hz, ↓reduceIte]; done) | (simp [St.get, lk, W, bne, eqStr, q1, hz]; done) | (simp_all [St.get, lk, W, LN, bne, eqStr]; done) | (simp_all [St.get, lk, W, LN, bne, eqStr]; intros; first | omega | (rw [Bool.eq_iff_iff]; simp; try omega)))) (by simp)
 ·
  have hlen : a.length = b.length := by simp at q1; omega
  refine WP.skip ?_
  show WP _ _ _ _ _ _
  refine WP.seq ?_
  refine WP.sr [0, 1, 5] (by kernel_rfl) fun K hK => ?_
  simp (decide := true) only [W, Pr_prog, q1, ↓reduceIte, Int.reduceToNat]
  refine hK _ _ ?_
  clear hK K
  refine WP.block ?_
  refine WP.lp [0, 1] (X := {k : Nat // k ≤ a.length ∧ all2 eqStr a b = all2 eqStr (a.drop k) (b.drop k)}) (fun x => match x with | ⟨(k), _⟩ => [(5, .int .i64 k)]) (fun x => match x with | ⟨(k), _⟩ => []) (fun x => match x with | ⟨(k), _⟩ => a.length - k) (by simp (decide := true) only [W, ↓reduceIte, Int.reduceToNat]; rfl) ?_ ⟨(0), ⟨Nat.zero_le _, by simp⟩⟩ ?_
  rotate_left
  · exact Weak.store (by simp [St.get, lk, W, Le.refl, q1]) (by simp [lk, W, q1]) (by simp [lk, W]) (by simp [BClo, lk]) (by simp [lk])
  rintro ⟨k, hk, hI⟩
  dsimp only
  simp only [List.cons_append, List.nil_append]
  refine WP.seq ?_
  refine WP.sr [0, 1, 5, 14] (by kernel_rfl) fun K hK => ?_
  simp (decide := true) only [W, Pr_prog, t_isStr_34, t_isSliceT_34, q1, ↓reduceIte, Int.reduceToNat]
  refine hK _ _ ?_
  clear hK K
  refine WP.cond (b := _) rfl (fun q2 => ?_) (fun q2 => ?_)
  ·
   have hlt := lt_of_q q2
   have hlt2 : k < b.length := by omega
   have hg : (a.map fun x => [D.str x])[k]? = some [.str a[k]] := getM hlt
   have hg2 : (b.map fun x => [D.str x])[k]? = some [.str b[k]] := getM hlt2
   have hnf := nl_false hna hlt
   have hnf2 := nl_false hnb hlt2
   rw [dropE hlt, dropE hlt2, all2_cons] at hI
   refine WP.skip ?_
   show WP _ _ _ _ _ _
   refine WP.seq ?_
   refine WP.block ?_
   refine WP.sd [0, 1, 5, 25] (by kernel_rfl) (by kernel_rfl) fun K hK => ?_
   simp (decide := true) only [W, Pr_prog, t_elemD_34, t_szD_9, t_aggD_9, q1, q2, hg, hg2, hnf, hnf2, ↓reduceIte, Int.reduceToNat]
   refine hK _ _ (by kernel_rfl) ?_
   clear hK K
   refine WP.cond (b := _) rfl (fun q3 => ?_) (fun q3 => ?_)
   ·
    refine WP.sr [4] (by kernel_rfl) fun K hK => ?_
    simp (decide := true) only [W, Pr_prog, q1, q2, hg, hg2, hnf, hnf2, q3, ↓reduceIte, Int.reduceToNat]
    refine hK _ _ ?_
    clear hK K
    refine WP.ret ?_
    exact Ends.pure (.inr rfl) rfl (Le.of_eq (by first | (simp (decide := true) only [St.get, lk, W, eqStr, q1, q2, hg, hg2, hnf, hnf2, q3, hI, ↓reduceIte]; done) | (simp [St.get, lk, W, bne, eqStr, q1, q2, hg, hg2, hnf, hnf2, q3, hI]; done) | (simp_all [St.get, lk, W, LN, bne, eqStr]; done) | (simp_all [St.get, lk, W, LN, bne, eqStr]; intros; first | omega | (rw [Bool.eq_iff_iff]; simp; try omega)))) (by simp)
   ·
    refine WP.skip ?_
    show WP _ _ _ _ _ _
    refine WP.region (by kernel_rfl) fun K hK => ?_
    simp (decide := true) only [W, Pr_prog, q1, q2, hg, hg2, hnf, hnf2, q3, ↓reduceIte, Int.reduceToNat]
    refine hK _ _ ?_
    clear hK K
    show ∃ y, _ ∧ Weak _ _ _
    refine ⟨⟨k + 1, ?_⟩, ?_, ?_⟩
    · exact ⟨by omega, by first | (simpa [q1, q2, hg, hg2, hnf, hnf2, q3] using hI) | (simp_all [eqStr, eqC]; done)⟩
    · dsimp only; omega
    · exact Weak.store (by simp [St.get, lk, W, Le.refl, q1, q2, hg, hg2, hnf, hnf2, q3, wrapS hlt (show a.length ≤ 140737488355328 by omega)]) (by simp [lk, W, q1, q2, hg, hg2, hnf, hnf2, q3, wrapS hlt (show a.length ≤ 140737488355328 by omega)]) (by simp [lk, W]) (by simp [BClo, lk]) (by simp [lk])
  ·
   have hge := ge_of_q q2
   rw [dropN hge, dropN (show b.length ≤ k by omega), all2_nil] at hI
   refine WP.exit ?_
   show WP _ _ _ _ _ _
   refine WP.sr [4] (by kernel_rfl) fun K hK => ?_
   simp (decide := true) only [W, Pr_prog, q1, q2, ↓reduceIte, Int.reduceToNat]
   refine hK _ _ ?_
   clear hK K
   refine WP.ret ?_
   exact Ends.pure (.inr rfl) rfl (Le.of_eq (by first | (simp (decide := true) only [St.get, lk, W, eqStr, q1, q2, hI, ↓reduceIte]; done) | (simp [St.get, lk, W, bne, eqStr, q1, q2, hI]; done) | (simp_all [St.get, lk, W, LN, bne, eqStr]; done) | (simp_all [St.get, lk, W, LN, bne, eqStr]; intros; first | omega | (rw [Bool.eq_iff_iff]; simp; try omega)))) (by simp)
theorem c_eq_cond (a : List Cond) (na : Bool) (b : List Cond) (nb : Bool) (ha : a.length ≤ 1099511627776) (hna : na = true → a = []) (hb : b.length ≤ 1099511627776) (hnb : nb = true → b = []) : CallP Pr 96 [.slice 3 na (a.map Cond.cs) none, .slice 3 nb (b.map Cond.cs) none] (.bool (all2 eqC a b)) := by
 refine CallP.of_wp Tryz.func96 rfl (by kernel_rfl) Tryz.ntmps96 (by simp) ?_
 simp only [frameOf, Nat.reduceAdd, Nat.zero_add]
 refine WP.sr [0, 1] (by kernel_rfl) fun K hK => ?_
 simp (decide := true) only [W, Pr_prog, ↓reduceIte, Int.reduceToNat]
 refine hK _ _ ?_
 clear hK K
 refine WP.seq ?_
 refine WP.sr [0, 1, 10] (by kernel_rfl) fun K hK => ?_
 simp (decide := true) only [W, Pr_prog, t_isStr_33, t_isSliceT_33, ↓reduceIte, Int.reduceToNat]
 refine hK _ _ ?_
 clear hK K
 refine WP.cond (b := _) rfl (fun q1 => ?_) (fun q1 => ?_)
 ·
  have hne : a.length ≠ b.length := by simp at q1; omega
  have hz := all2_len eqC a b hne
  refine WP.sr [4] (by kernel_rfl) fun K hK => ?_
  simp (decide := true) only [W, Pr_prog, q1, hz, ↓reduceIte, Int.reduceToNat]
  refine hK _ _ ?_
  clear hK K
  refine WP.ret ?_
  exact Ends.pure (.inr rfl) rfl (Le.of_eq (by first | (simp (decide := true) only [St.get, lk, W, q1, hz, ↓reduceIte]; done) | (simp [St.get, lk, W, bne, q1, hz]; done) | (simp_all [St.get, lk, W, LN, bne]; done) | (simp_all [St.get, lk, W, LN, bne]; intros; first | omega | (rw [Bool.eq_iff_iff]; simp; try omega)))) (by simp)
 ·
  have hlen : a.length = b.length := by simp at q1; omega
  refine WP.skip ?_
  show WP _ _ _ _ _ _
  refine WP.seq ?_
  refine WP.sr [0, 1, 12, 13] (by kernel_rfl) fun K hK => ?_
  simp (decide := true) only [W, Pr_prog, t_isStr_33, t_isSliceT_33, q1, ↓reduceIte, Int.reduceToNat]
  refine hK _ _ ?_
  clear hK K
  refine WP.block ?_
  refine WP.lp [0, 1, 12] (X := {k : Nat // k ≤ a.length ∧ all2 eqC a b = all2 eqC (a.drop k) (b.drop k)}) (fun x => match x with | ⟨(k), _⟩ => [(13, .int .i64 k)]) (fun x => match x with | ⟨(k), _⟩ => []) (fun x => match x with | ⟨(k), _⟩ => a.length - k) (by simp (decide := true) only [W, ↓reduceIte, Int.reduceToNat]; rfl) ?_ ⟨(0), ⟨Nat.zero_le _, by simp⟩⟩ ?_
  rotate_left
  · exact Weak.store (by simp [St.get, lk, W, Le.refl, q1]) (by simp [lk, W, q1]) (by simp [lk, W]) (by simp [BClo, lk]) (by simp [lk])
  rintro ⟨k, hk, hI⟩
  dsimp only
  simp only [List.cons_append, List.nil_append]
  refine WP.sr [0, 1, 12, 13, 14] (by kernel_rfl) fun K hK => ?_
  simp (decide := true) only [W, Pr_prog, q1, ↓reduceIte, Int.reduceToNat]
  refine hK _ _ ?_
  clear hK K
  refine WP.seq ?_
  refine WP.cond (b := _) rfl (fun q2 => ?_) (fun q2 => ?_)
  ·
   have hlt := lt_of_q q2
   have hlt2 : k < b.length := by omega
   have hg : (a.map Cond.cs)[k]? = some [.str a[k].f, .str a[k].op, .str a[k].v] := getM hlt
   have hg2 : (b.map Cond.cs)[k]? = some [.str b[k].f, .str b[k].op, .str b[k].v] := getM hlt2
   have hnf := nl_false hna hlt
   have hnf2 := nl_false hnb hlt2
   rw [dropE hlt, dropE hlt2, all2_cons] at hI
   refine WP.skip ?_
   show WP _ _ _ _ _ _
   refine WP.seq ?_
   refine WP.block ?_
   refine WP.sr [0, 1, 5, 12, 13] (by kernel_rfl) fun K hK => ?_
   simp (decide := true) only [W, Pr_prog, q1, q2, hg, hg2, hnf, hnf2, ↓reduceIte, Int.reduceToNat]
   refine hK _ _ ?_
   clear hK K
   refine WP.sd [0, 1, 12, 13, 24] (by kernel_rfl) (by kernel_rfl) fun K hK => ?_
   simp (decide := true) only [W, Pr_prog, t_elemD_33, t_szD_43, t_aggD_43, t_kindsD_43, q1, q2, hg, hg2, hnf, hnf2, ↓reduceIte, Int.reduceToNat]
   refine hK _ _ (by kernel_rfl) ?_
   clear hK K
   refine WP.cond (b := _) rfl (fun q3 => ?_) (fun q3 => ?_)
   ·
    have hz2 : eqC a[k] b[k] = false := by simpa only [eqC, Bool.not_eq_true'] using q3
    refine WP.sr [4] (by kernel_rfl) fun K hK => ?_
    simp (decide := true) only [W, Pr_prog, q1, q2, hg, hg2, hnf, hnf2, q3, hz2, ↓reduceIte, Int.reduceToNat]
    refine hK _ _ ?_
    clear hK K
    refine WP.ret ?_
    exact Ends.pure (.inr rfl) rfl (Le.of_eq (by first | (simp (decide := true) only [St.get, lk, W, q1, q2, hg, hg2, hnf, hnf2, q3, hz2, hI, ↓reduceIte]; done) | (simp [St.get, lk, W, bne, q1, q2, hg, hg2, hnf, hnf2, q3, hz2, hI]; done) | (simp_all [St.get, lk, W, LN, bne]; done) | (simp_all [St.get, lk, W, LN, bne]; intros; first | omega | (rw [Bool.eq_iff_iff]; simp; try omega)))) (by simp)
   ·
    have hz2 : eqC a[k] b[k] = true := by simpa only [eqC, Bool.not_eq_false'] using q3
    refine WP.skip ?_
    show WP _ _ _ _ _ _
    refine WP.region (by kernel_rfl) fun K hK => ?_
    simp (decide := true) only [W, Pr_prog, q1, q2, hg, hg2, hnf, hnf2, q3, hz2, ↓reduceIte, Int.reduceToNat]
    refine hK _ _ ?_
    clear hK K
    show ∃ y, _ ∧ Weak _ _ _
    refine ⟨⟨k + 1, ?_⟩, ?_, ?_⟩
    · exact ⟨by omega, by first | (simpa [q1, q2, hg, hg2, hnf, hnf2, q3, hz2] using hI) | (simp_all [eqStr, eqC]; done)⟩
    · dsimp only; omega
    · exact Weak.store (by simp [St.get, lk, W, Le.refl, q1, q2, hg, hg2, hnf, hnf2, q3, hz2, wrapS hlt (show a.length ≤ 140737488355328 by omega)]) (by simp [lk, W, q1, q2, hg, hg2, hnf, hnf2, q3, hz2, wrapS hlt (show a.length ≤ 140737488355328 by omega)]) (by simp [lk, W]) (by simp [BClo, lk]) (by simp [lk])
  ·
   have hge := ge_of_q q2
   rw [dropN hge, dropN (show b.length ≤ k by omega), all2_nil] at hI
   refine WP.exit ?_
   show WP _ _ _ _ _ _
   refine WP.sr [4] (by kernel_rfl) fun K hK => ?_
   simp (decide := true) only [W, Pr_prog, q1, q2, ↓reduceIte, Int.reduceToNat]
   refine hK _ _ ?_
   clear hK K
   refine WP.ret ?_
   exact Ends.pure (.inr rfl) rfl (Le.of_eq (by first | (simp (decide := true) only [St.get, lk, W, q1, q2, hI, ↓reduceIte]; done) | (simp [St.get, lk, W, bne, q1, q2, hI]; done) | (simp_all [St.get, lk, W, LN, bne]; done) | (simp_all [St.get, lk, W, LN, bne]; intros; first | omega | (rw [Bool.eq_iff_iff]; simp; try omega)))) (by simp)
theorem c_same (a b : Rule) (ha : a.ok0) (hb : b.ok0) : CallP Pr 61 [.agg [.str a.name, .bool a.deny, .slice 3 a.nc (a.conds.map Cond.cs) none, .slice 1 a.ns (a.scopes.map fun x => [.str x]) none, .int .i64 a.lvl, .int .i64 a.age], .agg [.str b.name, .bool b.deny, .slice 3 b.nc (b.conds.map Cond.cs) none, .slice 1 b.ns (b.scopes.map fun x => [.str x]) none, .int .i64 b.lvl, .int .i64 b.age]] (.bool (sameR a b)) := by
 refine CallP.of_wp Tryz.func61 rfl (by kernel_rfl) Tryz.ntmps61 (by simp) ?_
 simp only [frameOf, Nat.reduceAdd, Nat.zero_add]
 refine WP.sr [2, 3] (by kernel_rfl) fun K hK => ?_
 simp (decide := true) only [W, Pr_prog, ↓reduceIte, Int.reduceToNat]
 refine hK _ _ ?_
 clear hK K
 refine WP.sm [2, 3] 5 (.bool (a.name == b.name && a.deny == b.deny && a.lvl == b.lvl && a.age == b.age)) (by kernel_rfl) (fun K hK => ?_) ?_
 ·
  refine runOps.take 6 fun J hJ => ?_
  simp (decide := true) only [W, Pr_prog, t_fldD_36_0, t_szD_9, t_aggD_9, ↓reduceIte, Int.reduceToNat]
  refine hJ _ _ ?_
  clear hJ J
  refine runOps.part 11 rfl (fun q1 => ?_) (fun q1 => ?_)
  ·
   refine runOps.take 7 fun J hJ => ?_
   simp (decide := true) only [W, Pr_prog, t_fldD_36_1, t_szD_4, t_aggD_4, t_tkD_4, q1, ↓reduceIte, Int.reduceToNat]
   refine hJ _ _ ?_
   clear hJ J
   refine runOps.part 18 rfl (fun q2 => ?_) (fun q2 => ?_)
   ·
    refine runOps.take 7 fun J hJ => ?_
    simp (decide := true) only [W, Pr_prog, t_fldD_36_4, t_szD_3, t_aggD_3, q1, q2, ↓reduceIte, Int.reduceToNat]
    refine hJ _ _ ?_
    clear hJ J
    refine runOps.part 25 rfl (fun q3 => ?_) (fun q3 => ?_)
    ·
     simp (decide := true) only [W, Pr_prog, t_fldD_36_5, t_szD_3, t_aggD_3, q1, q2, q3, ↓reduceIte, Int.reduceToNat]
     exact hK _ _ (by simp [St.get, lk, W]) rfl (Le.of_eq (by first | (simp [St.get, lk, W, bne, q1, q2, q3]; done) | (simp_all [St.get, lk, W, LN, bne]; done) | (simp_all [St.get, lk, W, LN, bne]; rw [Bool.eq_iff_iff]; simp; try omega)))
    ·
     simp (decide := true) only [W, Pr_prog, t_fldD_36_5, t_szD_3, t_aggD_3, q1, q2, q3, ↓reduceIte, Int.reduceToNat]
     exact hK _ _ (by simp [St.get, lk, W]) rfl (Le.of_eq (by first | (simp [St.get, lk, W, bne, q1, q2, q3]; done) | (simp_all [St.get, lk, W, LN, bne]; done) | (simp_all [St.get, lk, W, LN, bne]; rw [Bool.eq_iff_iff]; simp; try omega)))
   ·
    simp (decide := true) only [W, Pr_prog, t_fldD_36_4, t_szD_3, t_aggD_3, t_fldD_36_5, q1, q2, ↓reduceIte, Int.reduceToNat]
    exact hK _ _ (by simp [St.get, lk, W]) rfl (Le.of_eq (by first | (simp [St.get, lk, W, bne, q1, q2]; done) | (simp_all [St.get, lk, W, LN, bne]; done) | (simp_all [St.get, lk, W, LN, bne]; rw [Bool.eq_iff_iff]; simp; try omega)))
  ·
   simp (decide := true) only [W, Pr_prog, t_fldD_36_1, t_szD_4, t_aggD_4, t_tkD_4, t_fldD_36_4, t_szD_3, t_aggD_3, t_fldD_36_5, q1, ↓reduceIte, Int.reduceToNat]
   exact hK _ _ (by simp [St.get, lk, W]) rfl (Le.of_eq (by first | (simp [St.get, lk, W, bne, q1]; done) | (simp_all [St.get, lk, W, LN, bne]; done) | (simp_all [St.get, lk, W, LN, bne]; rw [Bool.eq_iff_iff]; simp; try omega)))
 ·
  refine WP.sr [4] (by kernel_rfl) fun K hK => ?_
  refine runOps.take 2 fun J hJ => ?_
  simp (decide := true) only [W, Pr_prog, ↓reduceIte, Int.reduceToNat]
  refine hJ _ _ ?_
  clear hJ J
  refine runOps.part 33 rfl (fun q4 => ?_) (fun q4 => ?_)
  ·
   simp (decide := true) only [W, Pr_prog, t_fldD_36_2, t_szD_33, t_aggD_33, q4, ↓reduceIte, Int.reduceToNat]
   refine CallK.pure (c_eq_cond a.conds a.nc b.conds b.nc ha.1 ha.2.1 hb.1 hb.2.1) rfl rfl (by simp [-List.map_take]) ?_
   refine runOps.take 2 fun J hJ => ?_
   simp (decide := true) only [W, Pr_prog, q4, ↓reduceIte, Int.reduceToNat]
   refine hJ _ _ ?_
   clear hJ J
   refine runOps.part 40 rfl (fun q5 => ?_) (fun q5 => ?_)
   ·
    simp (decide := true) only [W, Pr_prog, t_fldD_36_3, t_szD_34, t_aggD_34, q4, q5, ↓reduceIte, Int.reduceToNat]
    refine CallK.pure (c_eq_str a.scopes a.ns b.scopes b.ns ha.2.2.1 ha.2.2.2 hb.2.2.1 hb.2.2.2) rfl rfl (by simp [-List.map_take]) ?_
    simp (decide := true) only [W, Pr_prog, q4, q5, ↓reduceIte, Int.reduceToNat]
    refine hK _ _ ?_
    clear hK K
    refine WP.ret ?_
    exact Ends.pure (.inr rfl) rfl (Le.of_eq (by first | (simp (decide := true) only [St.get, lk, W, sameR, q4, q5, ↓reduceIte]; done) | (simp [St.get, lk, W, bne, sameR, q4, q5]; done) | (simp_all [St.get, lk, W, LN, bne, sameR]; done) | (simp_all [St.get, lk, W, LN, bne, sameR]; intros; first | omega | (rw [Bool.eq_iff_iff]; simp; try omega)))) (by simp)
   ·
    simp (decide := true) only [W, Pr_prog, t_fldD_36_3, t_szD_34, t_aggD_34, q4, q5, ↓reduceIte, Int.reduceToNat]
    refine hK _ _ ?_
    clear hK K
    refine WP.ret ?_
    exact Ends.pure (.inr rfl) rfl (Le.of_eq (by first | (simp (decide := true) only [St.get, lk, W, sameR, q4, q5, ↓reduceIte]; done) | (simp [St.get, lk, W, bne, sameR, q4, q5]; done) | (simp_all [St.get, lk, W, LN, bne, sameR]; done) | (simp_all [St.get, lk, W, LN, bne, sameR]; intros; first | omega | (rw [Bool.eq_iff_iff]; simp; try omega)))) (by simp)
  ·
   simp (decide := true) only [W, Pr_prog, t_fldD_36_2, t_szD_33, t_aggD_33, t_fldD_36_3, t_szD_34, t_aggD_34, q4, ↓reduceIte, Int.reduceToNat]
   refine hK _ _ ?_
   clear hK K
   refine WP.ret ?_
   exact Ends.pure (.inr rfl) rfl (Le.of_eq (by first | (simp (decide := true) only [St.get, lk, W, sameR, q4, ↓reduceIte]; done) | (simp [St.get, lk, W, bne, sameR, q4]; done) | (simp_all [St.get, lk, W, LN, bne, sameR]; done) | (simp_all [St.get, lk, W, LN, bne, sameR]; intros; first | omega | (rw [Bool.eq_iff_iff]; simp; try omega)))) (by simp)
theorem c_eqfunc (a : List Rule) (na : Bool) (b : List Rule) (nb : Bool) (ha : a.length ≤ 1099511627776) (hna : na = true → a = []) (hb : b.length ≤ 1099511627776) (hnb : nb = true → b = []) (hoa : ∀ p ∈ a, p.ok0) (hob : ∀ p ∈ b, p.ok0) : CallP Pr 60 [.slice 6 na (a.map Rule.cs) none, .slice 6 nb (b.map Rule.cs) none, .fn (.func 61) [] []] (.bool (equalR a b)) := by
 refine CallP.of_wp Tryz.func60 rfl (by kernel_rfl) Tryz.ntmps60 (by simp) ?_
 simp only [frameOf, Nat.reduceAdd, Nat.zero_add]
 refine WP.sr [0, 1, 2] (by kernel_rfl) fun K hK => ?_
 simp (decide := true) only [W, Pr_prog, ↓reduceIte, Int.reduceToNat]
 refine hK _ _ ?_
 clear hK K
 refine WP.seq ?_
 refine WP.sr [0, 1, 2, 14] (by kernel_rfl) fun K hK => ?_
 simp (decide := true) only [W, Pr_prog, t_isStr_22, t_isSliceT_22, ↓reduceIte, Int.reduceToNat]
 refine hK _ _ ?_
 clear hK K
 refine WP.cond (b := _) rfl (fun q1 => ?_) (fun q1 => ?_)
 ·
  have hne : a.length ≠ b.length := by simp at q1; omega
  have hz := all2_len sameR a b hne
  refine WP.sr [6] (by kernel_rfl) fun K hK => ?_
  simp (decide := true) only [W, Pr_prog, q1, hz, ↓reduceIte, Int.reduceToNat]
  refine hK _ _ ?_
  clear hK K
  refine WP.ret ?_
  exact Ends.pure (.inr rfl) rfl (Le.of_eq (by first | (simp (decide := true) only [St.get, lk, W, equalR, q1, hz, ↓reduceIte]; done) | (simp [St.get, lk, W, bne, equalR, q1, hz]; done) | (simp_all [St.get, lk, W, LN, bne, equalR]; done) | (simp_all [St.get, lk, W, LN, bne, equalR]; intros; first | omega | (rw [Bool.eq_iff_iff]; simp; try omega)))) (by simp)
 ·
  have hlen : a.length = b.length := by simp at q1; omega
  refine WP.skip ?_
  show WP _ _ _ _ _ _
  refine WP.seq ?_
  refine WP.sr [1, 2, 15, 16, 17] (by kernel_rfl) fun K hK => ?_
  simp (decide := true) only [W, Pr_prog, t_isStr_22, t_isSliceT_22, q1, ↓reduceIte, Int.reduceToNat]
  refine hK _ _ ?_
  clear hK K
  refine WP.block ?_
  refine WP.lp [1, 2, 15, 16] (X := {k : Nat // k ≤ a.length ∧ equalR a b = all2 sameR (a.drop k) (b.drop k)}) (fun x => match x with | ⟨(k), _⟩ => [(17, .int .i64 k)]) (fun x => match x with | ⟨(k), _⟩ => []) (fun x => match x with | ⟨(k), _⟩ => a.length - k) (by simp (decide := true) only [W, ↓reduceIte, Int.reduceToNat]; rfl) ?_ ⟨(0), ⟨Nat.zero_le _, by simp [equalR]⟩⟩ ?_
  rotate_left
  · exact Weak.store (by simp [St.get, lk, W, Le.refl, q1]) (by simp [lk, W, q1]) (by simp [lk, W]) (by simp [BClo, lk]) (by simp [lk])
  rintro ⟨k, hk, hI⟩
  dsimp only
  simp only [List.cons_append, List.nil_append]
  refine WP.sr [1, 2, 15, 16, 17, 18] (by kernel_rfl) fun K hK => ?_
  simp (decide := true) only [W, Pr_prog, q1, ↓reduceIte, Int.reduceToNat]
  refine hK _ _ ?_
  clear hK K
  refine WP.seq ?_
  refine WP.cond (b := _) rfl (fun q2 => ?_) (fun q2 => ?_)
  ·
   have hlt := lt_of_q q2
   have hlt2 : k < b.length := by omega
   have hg : (a.map Rule.cs)[k]? = some [.str a[k].name, .bool a[k].deny, .slice 3 a[k].nc (a[k].conds.map Cond.cs) none, .slice 1 a[k].ns (a[k].scopes.map fun x => [.str x]) none, .int .i64 a[k].lvl, .int .i64 a[k].age] := getM hlt
   have hg2 : (b.map Rule.cs)[k]? = some [.str b[k].name, .bool b[k].deny, .slice 3 b[k].nc (b[k].conds.map Cond.cs) none, .slice 1 b[k].ns (b[k].scopes.map fun x => [.str x]) none, .int .i64 b[k].lvl, .int .i64 b[k].age] := getM hlt2
   have hnf := nl_false hna hlt
   have hnf2 := nl_false hnb hlt2
   rw [dropE hlt, dropE hlt2, all2_cons] at hI
   refine WP.skip ?_
   show WP _ _ _ _ _ _
   refine WP.seq ?_
   refine WP.block ?_
   refine WP.sr [1, 2, 7, 8, 15, 16, 17] (by kernel_rfl) fun K hK => ?_
   simp (decide := true) only [W, Pr_prog, t_elemD_22, t_szD_36, t_aggD_36, t_zeroD_36, q1, q2, hg, hg2, hnf, hnf2, ↓reduceIte, Int.reduceToNat]
   refine hK _ _ ?_
   clear hK K
   refine WP.sr [1, 2, 8, 9, 15, 16, 17] (by kernel_rfl) fun K hK => ?_
   simp (decide := true) only [W, Pr_prog, t_elemD_22, t_szD_36, t_aggD_36, t_zeroD_36, q1, q2, hg, hg2, hnf, hnf2, ↓reduceIte, Int.reduceToNat]
   refine hK _ _ ?_
   clear hK K
   refine WP.sr [1, 2, 15, 16, 17, 30] (by kernel_rfl) fun K hK => ?_
   simp (decide := true) only [W, Pr_prog, t_szD_36, t_aggD_36, q1, q2, hg, hg2, hnf, hnf2, ↓reduceIte, Int.reduceToNat]
   refine CallK.pure (c_same a[k] b[k] (hoa _ (List.getElem_mem hlt)) (hob _ (List.getElem_mem hlt2))) rfl rfl (by simp [-List.map_take]) ?_
   simp (decide := true) only [W, Pr_prog, q1, q2, hg, hg2, hnf, hnf2, ↓reduceIte, Int.reduceToNat]
   refine hK _ _ ?_
   clear hK K
   refine WP.cond (b := _) rfl (fun q3 => ?_) (fun q3 => ?_)
   ·
    simp only [Bool.not_eq_true', Bool.not_eq_false'] at q3
    refine WP.sr [6] (by kernel_rfl) fun K hK => ?_
    simp (decide := true) only [W, Pr_prog, q1, q2, hg, hg2, hnf, hnf2, q3, ↓reduceIte, Int.reduceToNat]
    refine hK _ _ ?_
    clear hK K
    refine WP.ret ?_
    exact Ends.pure (.inr rfl) rfl (Le.of_eq (by first | (simp (decide := true) only [St.get, lk, W, equalR, q1, q2, hg, hg2, hnf, hnf2, q3, hI, ↓reduceIte]; done) | (simp [St.get, lk, W, bne, equalR, q1, q2, hg, hg2, hnf, hnf2, q3, hI]; done) | (simp_all [St.get, lk, W, LN, bne, equalR]; done) | (simp_all [St.get, lk, W, LN, bne, equalR]; intros; first | omega | (rw [Bool.eq_iff_iff]; simp; try omega)))) (by simp)
   ·
    simp only [Bool.not_eq_true', Bool.not_eq_false'] at q3
    refine WP.skip ?_
    show WP _ _ _ _ _ _
    refine WP.region (by kernel_rfl) fun K hK => ?_
    simp (decide := true) only [W, Pr_prog, q1, q2, hg, hg2, hnf, hnf2, q3, ↓reduceIte, Int.reduceToNat]
    refine hK _ _ ?_
    clear hK K
    show ∃ y, _ ∧ Weak _ _ _
    refine ⟨⟨k + 1, ?_⟩, ?_, ?_⟩
    · exact ⟨by omega, by first | (simpa [q1, q2, hg, hg2, hnf, hnf2, q3] using hI) | (simp_all [eqStr, eqC]; done)⟩
    · dsimp only; omega
    · exact Weak.store (by simp [St.get, lk, W, Le.refl, q1, q2, hg, hg2, hnf, hnf2, q3, wrapS hlt (show a.length ≤ 140737488355328 by omega)]) (by simp [lk, W, q1, q2, hg, hg2, hnf, hnf2, q3, wrapS hlt (show a.length ≤ 140737488355328 by omega)]) (by simp [lk, W]) (by simp [BClo, lk]) (by simp [lk])
  ·
   have hge := ge_of_q q2
   rw [dropN hge, dropN (show b.length ≤ k by omega), all2_nil] at hI
   refine WP.exit ?_
   show WP _ _ _ _ _ _
   refine WP.sr [6] (by kernel_rfl) fun K hK => ?_
   simp (decide := true) only [W, Pr_prog, q1, q2, ↓reduceIte, Int.reduceToNat]
   refine hK _ _ ?_
   clear hK K
   refine WP.ret ?_
   exact Ends.pure (.inr rfl) rfl (Le.of_eq (by first | (simp (decide := true) only [St.get, lk, W, equalR, q1, q2, hI, ↓reduceIte]; done) | (simp [St.get, lk, W, bne, equalR, q1, q2, hI]; done) | (simp_all [St.get, lk, W, LN, bne, equalR]; done) | (simp_all [St.get, lk, W, LN, bne, equalR]; intros; first | omega | (rw [Bool.eq_iff_iff]; simp; try omega)))) (by simp)
theorem c_equal (a : List Rule) (na : Bool) (b : List Rule) (nb : Bool) (ha : a.length ≤ 1099511627776) (hna : na = true → a = []) (hb : b.length ≤ 1099511627776) (hnb : nb = true → b = []) (hoa : ∀ p ∈ a, p.ok0) (hob : ∀ p ∈ b, p.ok0) : CallP Pr 29 [.slice 6 na (a.map Rule.cs) none, .slice 6 nb (b.map Rule.cs) none] (.bool (equalR a b)) := by
 refine CallP.of_wp Tryz.func29 rfl (by kernel_rfl) Tryz.ntmps29 (by simp) ?_
 simp only [frameOf, Nat.reduceAdd, Nat.zero_add]
 refine WP.sr [0, 1] (by kernel_rfl) fun K hK => ?_
 simp (decide := true) only [W, Pr_prog, ↓reduceIte, Int.reduceToNat]
 refine hK _ _ ?_
 clear hK K
 refine WP.sr [4] (by kernel_rfl) fun K hK => ?_
 simp (decide := true) only [W, Pr_prog, ↓reduceIte, Int.reduceToNat]
 refine CallK.pure (c_eqfunc a na b nb ha hna hb hnb hoa hob) rfl rfl (by simp [-List.map_take]) ?_
 simp (decide := true) only [W, Pr_prog, ↓reduceIte, Int.reduceToNat]
 refine hK _ _ ?_
 clear hK K
 refine WP.ret ?_
 exact Ends.pure (.inr rfl) rfl (Le.of_eq (by first | (simp (decide := true) only [St.get, lk, W, ↓reduceIte]; done) | (simp [St.get, lk, W, bne]; done) | (simp_all [St.get, lk, W, LN, bne]; done) | (simp_all [St.get, lk, W, LN, bne]; intros; first | omega | (rw [Bool.eq_iff_iff]; simp; try omega)))) (by simp)
theorem c_odd (c : Cond) (hc : c.ok) : CallP Pr 80 [.agg [.str c.f, .str c.op, .str c.v]] (.bool (!(possB c))) := by
 refine CallP.of_wp Tryz.func80 rfl (by kernel_rfl) Tryz.ntmps80 (by simp) ?_
 simp only [frameOf, Nat.reduceAdd, Nat.zero_add]
 refine WP.sr [1] (by kernel_rfl) fun K hK => ?_
 simp (decide := true) only [W, Pr_prog, ↓reduceIte, Int.reduceToNat]
 refine hK _ _ ?_
 clear hK K
 refine WP.sr [2] (by kernel_rfl) fun K hK => ?_
 simp (decide := true) only [W, Pr_prog, t_szD_43, t_aggD_43, ↓reduceIte, Int.reduceToNat]
 refine CallK.pure (c_possible c hc) rfl rfl (by simp [-List.map_take]) ?_
 simp (decide := true) only [W, Pr_prog, ↓reduceIte, Int.reduceToNat]
 refine hK _ _ ?_
 clear hK K
 refine WP.ret ?_
 exact Ends.pure (.inr rfl) rfl (Le.of_eq (by first | (simp (decide := true) only [St.get, lk, W, ↓reduceIte]; done) | (simp [St.get, lk, W, bne]; done) | (simp_all [St.get, lk, W, LN, bne]; done) | (simp_all [St.get, lk, W, LN, bne]; intros; first | omega | (rw [Bool.eq_iff_iff]; simp; try omega)))) (by simp)
theorem c_indexfunc_odd (l : List Cond) (nl : Bool) (hn : l.length ≤ 1099511627776) (hnl : nl = true → l = []) (hl : ∀ c ∈ l, c.ok) : CallP Pr 58 [.slice 3 nl (l.map Cond.cs) none, .fn (.func 80) [] []] (.int .i64 (ixP (fun c => !(possB c)) l 0)) := by
 refine CallP.of_wp Tryz.func58 rfl (by kernel_rfl) Tryz.ntmps58 (by simp) ?_
 simp only [frameOf, Nat.reduceAdd, Nat.zero_add]
 refine WP.sr [0, 1] (by kernel_rfl) fun K hK => ?_
 simp (decide := true) only [W, Pr_prog, ↓reduceIte, Int.reduceToNat]
 refine hK _ _ ?_
 clear hK K
 refine WP.seq ?_
 refine WP.sr [0, 1, 7, 8] (by kernel_rfl) fun K hK => ?_
 simp (decide := true) only [W, Pr_prog, t_isStr_33, t_isSliceT_33, ↓reduceIte, Int.reduceToNat]
 refine hK _ _ ?_
 clear hK K
 refine WP.block ?_
 refine WP.lp [0, 1, 7] (X := {k : Nat // k ≤ l.length ∧ ixP (fun c => !(possB c)) l 0 = ixP (fun c => !(possB c)) (l.drop k) k}) (fun x => match x with | ⟨(k), _⟩ => [(8, .int .i64 k)]) (fun x => match x with | ⟨(k), _⟩ => []) (fun x => match x with | ⟨(k), _⟩ => l.length - k) (by simp (decide := true) only [W, ↓reduceIte, Int.reduceToNat]; rfl) ?_ ⟨(0), ⟨Nat.zero_le _, by simp⟩⟩ ?_
 rotate_left
 · exact Weak.store (by simp [St.get, lk, W, Le.refl, W]) (by simp [lk, W, W]) (by simp [lk, W]) (by simp [BClo, lk]) (by simp [lk])
 rintro ⟨k, hk, hI⟩
 dsimp only
 simp only [List.cons_append, List.nil_append]
 refine WP.sr [0, 1, 7, 8, 9] (by kernel_rfl) fun K hK => ?_
 simp (decide := true) only [W, Pr_prog, hk, ↓reduceIte, Int.reduceToNat]
 refine hK _ _ ?_
 clear hK K
 refine WP.seq ?_
 refine WP.cond (b := _) rfl (fun q1 => ?_) (fun q1 => ?_)
 ·
  have hlt := lt_of_q q1
  have hg : (l.map Cond.cs)[k]? = some [.str l[k].f, .str l[k].op, .str l[k].v] := getM hlt
  have hnf := nl_false hnl hlt
  rw [dropE hlt] at hI
  simp only [ixP] at hI
  refine WP.skip ?_
  show WP _ _ _ _ _ _
  refine WP.seq ?_
  refine WP.block ?_
  refine WP.sr [0, 1, 5, 7, 8] (by kernel_rfl) fun K hK => ?_
  simp (decide := true) only [W, Pr_prog, hk, q1, hg, hnf, ↓reduceIte, Int.reduceToNat]
  refine hK _ _ ?_
  clear hK K
  refine WP.sr [0, 1, 5, 7, 8, 16] (by kernel_rfl) fun K hK => ?_
  simp (decide := true) only [W, Pr_prog, t_elemD_33, t_szD_43, t_aggD_43, hk, q1, hg, hnf, ↓reduceIte, Int.reduceToNat]
  refine CallK.pure (c_odd l[k] (hl _ (List.getElem_mem hlt))) rfl rfl (by simp [-List.map_take]) ?_
  simp (decide := true) only [W, Pr_prog, hk, q1, hg, hnf, ↓reduceIte, Int.reduceToNat]
  refine hK _ _ ?_
  clear hK K
  refine WP.cond (b := _) rfl (fun q2 => ?_) (fun q2 => ?_)
  ·
   refine WP.sr [4] (by kernel_rfl) fun K hK => ?_
   simp (decide := true) only [W, Pr_prog, hk, q1, hg, hnf, q2, ↓reduceIte, Int.reduceToNat]
   refine hK _ _ ?_
   clear hK K
   refine WP.ret ?_
   exact Ends.pure (.inr rfl) rfl (Le.of_eq (by first | (simp (decide := true) only [St.get, lk, W, hk, q1, hg, hnf, q2, hI, ↓reduceIte]; done) | (simp [St.get, lk, W, bne, hk, q1, hg, hnf, q2, hI]; done) | (simp_all [St.get, lk, W, LN, bne]; done) | (simp_all [St.get, lk, W, LN, bne]; intros; first | omega | (rw [Bool.eq_iff_iff]; simp; try omega)))) (by simp)
  ·
   refine WP.skip ?_
   show WP _ _ _ _ _ _
   refine WP.region (by kernel_rfl) fun K hK => ?_
   simp (decide := true) only [W, Pr_prog, hk, q1, hg, hnf, q2, ↓reduceIte, Int.reduceToNat]
   refine hK _ _ ?_
   clear hK K
   show ∃ y, _ ∧ Weak _ _ _
   refine ⟨⟨k + 1, ?_⟩, ?_, ?_⟩
   · exact ⟨by omega, by first | (simpa [hk, q1, hg, hnf, q2] using hI) | (simp_all; done)⟩
   · dsimp only; omega
   · exact Weak.store (by simp [St.get, lk, W, Le.refl, hk, q1, hg, hnf, q2, wrapS hlt (show l.length ≤ 140737488355328 by omega)]) (by simp [lk, W, hk, q1, hg, hnf, q2, wrapS hlt (show l.length ≤ 140737488355328 by omega)]) (by simp [lk, W]) (by simp [BClo, lk]) (by simp [lk])
 ·
  have hge := ge_of_q q1
  rw [dropN hge] at hI
  simp only [ixP] at hI
  refine WP.exit ?_
  show WP _ _ _ _ _ _
  refine WP.sr [4] (by kernel_rfl) fun K hK => ?_
  simp (decide := true) only [W, Pr_prog, hk, q1, ↓reduceIte, Int.reduceToNat]
  refine hK _ _ ?_
  clear hK K
  refine WP.ret ?_
  exact Ends.pure (.inr rfl) rfl (Le.of_eq (by first | (simp (decide := true) only [St.get, lk, W, hk, q1, hI, ↓reduceIte]; done) | (simp [St.get, lk, W, bne, hk, q1, hI]; done) | (simp_all [St.get, lk, W, LN, bne]; done) | (simp_all [St.get, lk, W, LN, bne]; intros; first | omega | (rw [Bool.eq_iff_iff]; simp; try omega)))) (by simp)
theorem c_contfunc_odd (l : List Cond) (nl : Bool) (hn : l.length ≤ 1099511627776) (hnl : nl = true → l = []) (hl : ∀ c ∈ l, c.ok) : CallP Pr 81 [.slice 3 nl (l.map Cond.cs) none, .fn (.func 80) [] []] (.bool (l.any fun c => !(possB c))) := by
 refine CallP.of_wp Tryz.func81 rfl (by kernel_rfl) Tryz.ntmps81 (by simp) ?_
 simp only [frameOf, Nat.reduceAdd, Nat.zero_add]
 refine WP.sr [0, 1] (by kernel_rfl) fun K hK => ?_
 simp (decide := true) only [W, Pr_prog, ↓reduceIte, Int.reduceToNat]
 refine hK _ _ ?_
 clear hK K
 refine WP.sr [4] (by kernel_rfl) fun K hK => ?_
 simp (decide := true) only [W, Pr_prog, ↓reduceIte, Int.reduceToNat]
 refine CallK.pure (c_indexfunc_odd l nl hn hnl hl) rfl rfl (by simp [-List.map_take]) ?_
 simp (decide := true) only [W, Pr_prog, ↓reduceIte, Int.reduceToNat]
 refine hK _ _ ?_
 clear hK K
 refine WP.ret ?_
 exact Ends.pure (.inr rfl) rfl (Le.of_eq (by first | (simp (decide := true) only [St.get, lk, W, ixP_any0, ↓reduceIte]; done) | (simp [St.get, lk, W, bne, ixP_any0]; done) | (simp_all [St.get, lk, W, LN, bne, ixP_any0]; done) | (simp_all [St.get, lk, W, LN, bne, ixP_any0]; intros; first | omega | (rw [Bool.eq_iff_iff]; simp; try omega)))) (by simp)
theorem c_ruleerr (p : Rule) (hp : p.ok) : CallP Pr 42 [.agg [.str p.name, .bool p.deny, .slice 3 p.nc (p.conds.map Cond.cs) none, .slice 1 p.ns (p.scopes.map fun x => [.str x]) none, .int .i64 p.lvl, .int .i64 p.age]] (.int .i64 (ruleErrB p)) := by
 refine CallP.of_wp Tryz.func42 rfl (by kernel_rfl) Tryz.ntmps42 (by simp) ?_
 simp only [frameOf, Nat.reduceAdd, Nat.zero_add]
 refine WP.sr [1] (by kernel_rfl) fun K hK => ?_
 simp (decide := true) only [W, Pr_prog, ↓reduceIte, Int.reduceToNat]
 refine hK _ _ ?_
 clear hK K
 refine WP.sr [1, 3] (by kernel_rfl) fun K hK => ?_
 simp (decide := true) only [W, Pr_prog, ↓reduceIte, Int.reduceToNat]
 refine hK _ _ ?_
 clear hK K
 refine WP.seq ?_
 refine WP.block ?_
 refine WP.sr [1, 3, 4] (by kernel_rfl) fun K hK => ?_
 simp (decide := true) only [W, Pr_prog, t_fldD_36_2, t_szD_33, t_aggD_33, t_isStr_33, t_isSliceT_33, ↓reduceIte, Int.reduceToNat]
 refine hK _ _ ?_
 clear hK K
 refine WP.cond (b := _) rfl (fun q1 => ?_) (fun q1 => ?_)
 ·
  refine WP.sr [2] (by kernel_rfl) fun K hK => ?_
  simp (decide := true) only [W, Pr_prog, q1, ↓reduceIte, Int.reduceToNat]
  refine hK _ _ ?_
  clear hK K
  refine WP.ret ?_
  exact Ends.pure (.inr rfl) rfl (Le.of_eq (by first | (simp (decide := true) only [St.get, lk, W, ruleErrB, badSc, q1, ↓reduceIte]; done) | (simp [St.get, lk, W, bne, ruleErrB, badSc, q1]; done) | (simp_all [St.get, lk, W, LN, bne, ruleErrB, badSc]; done) | (simp_all [St.get, lk, W, LN, bne, ruleErrB, badSc]; intros; first | omega | (rw [Bool.eq_iff_iff]; simp; try omega)))) (by simp)
 ·
  refine WP.sr [1, 9] (by kernel_rfl) fun K hK => ?_
  simp (decide := true) only [W, Pr_prog, t_fldD_36_2, t_szD_33, t_aggD_33, q1, ↓reduceIte, Int.reduceToNat]
  refine CallK.pure (c_contfunc_odd p.conds p.nc hp.1.1 hp.1.2.1 hp.2.2.1) rfl rfl (by simp [-List.map_take]) ?_
  simp (decide := true) only [W, Pr_prog, q1, ↓reduceIte, Int.reduceToNat]
  refine hK _ _ ?_
  clear hK K
  refine WP.cond (b := _) rfl (fun q2 => ?_) (fun q2 => ?_)
  ·
   refine WP.sr [2] (by kernel_rfl) fun K hK => ?_
   simp (decide := true) only [W, Pr_prog, q1, q2, ↓reduceIte, Int.reduceToNat]
   refine hK _ _ ?_
   clear hK K
   refine WP.ret ?_
   exact Ends.pure (.inr rfl) rfl (Le.of_eq (by first | (simp (decide := true) only [St.get, lk, W, ruleErrB, badSc, q1, q2, ↓reduceIte]; done) | (simp [St.get, lk, W, bne, ruleErrB, badSc, q1, q2]; done) | (simp_all [St.get, lk, W, LN, bne, ruleErrB, badSc]; done) | (simp_all [St.get, lk, W, LN, bne, ruleErrB, badSc]; intros; first | omega | (rw [Bool.eq_iff_iff]; simp; try omega)))) (by simp)
  ·
   refine WP.sr [1, 14] (by kernel_rfl) fun K hK => ?_
   refine runOps.take 3 fun J hJ => ?_
   simp (decide := true) only [W, Pr_prog, t_fldD_36_1, t_szD_4, t_aggD_4, q1, q2, ↓reduceIte, Int.reduceToNat]
   refine hJ _ _ ?_
   clear hJ J
   refine runOps.part 17 rfl (fun q3 => ?_) (fun q3 => ?_)
   ·
    refine runOps.take 5 fun J hJ => ?_
    simp (decide := true) only [W, Pr_prog, t_fldD_36_3, t_szD_34, t_aggD_34, t_isStr_34, t_isSliceT_34, q1, q2, q3, ↓reduceIte, Int.reduceToNat]
    refine hJ _ _ ?_
    clear hJ J
    refine runOps.part 22 rfl (fun q4 => ?_) (fun q4 => ?_)
    ·
     simp (decide := true) only [W, Pr_prog, t_fldD_36_4, t_szD_3, t_aggD_3, t_fldD_36_5, q1, q2, q3, q4, ↓reduceIte, Int.reduceToNat]
     refine hK _ _ ?_
     clear hK K
     refine WP.cond (b := true) (by first | rfl | simp [W, q1, q2, q3, q4]) (fun _ => ?_) nofun
     refine WP.sr [2] (by kernel_rfl) fun K hK => ?_
     simp (decide := true) only [W, Pr_prog, q1, q2, q3, q4, ↓reduceIte, Int.reduceToNat]
     refine hK _ _ ?_
     clear hK K
     refine WP.ret ?_
     exact Ends.pure (.inr rfl) rfl (Le.of_eq (by first | (simp (decide := true) only [St.get, lk, W, ruleErrB, badSc, q1, q2, q3, q4, ↓reduceIte]; done) | (simp [St.get, lk, W, bne, ruleErrB, badSc, q1, q2, q3, q4]; done) | (simp_all [St.get, lk, W, LN, bne, ruleErrB, badSc]; done) | (simp_all [St.get, lk, W, LN, bne, ruleErrB, badSc]; intros; first | omega | (rw [Bool.eq_iff_iff]; simp; try omega)))) (by simp)
    ·
     refine runOps.take 5 fun J hJ => ?_
     simp (decide := true) only [W, Pr_prog, t_fldD_36_4, t_szD_3, t_aggD_3, q1, q2, q3, q4, ↓reduceIte, Int.reduceToNat]
     refine hJ _ _ ?_
     clear hJ J
     refine runOps.part 27 rfl (fun q5 => ?_) (fun q5 => ?_)
     ·
      simp (decide := true) only [W, Pr_prog, t_fldD_36_5, t_szD_3, t_aggD_3, q1, q2, q3, q4, q5, ↓reduceIte, Int.reduceToNat]
      refine hK _ _ ?_
      clear hK K
      refine WP.cond (b := true) (by first | rfl | simp [W, q1, q2, q3, q4, q5]) (fun _ => ?_) nofun
      refine WP.sr [2] (by kernel_rfl) fun K hK => ?_
      simp (decide := true) only [W, Pr_prog, q1, q2, q3, q4, q5, ↓reduceIte, Int.reduceToNat]
      refine hK _ _ ?_
      clear hK K
      refine WP.ret ?_
      exact Ends.pure (.inr rfl) rfl (Le.of_eq (by first | (simp (decide := true) only [St.get, lk, W, ruleErrB, badSc, q1, q2, q3, q4, q5, ↓reduceIte]; done) | (simp [St.get, lk, W, bne, ruleErrB, badSc, q1, q2, q3, q4, q5]; done) | (simp_all [St.get, lk, W, LN, bne, ruleErrB, badSc]; done) | (simp_all [St.get, lk, W, LN, bne, ruleErrB, badSc]; intros; first | omega | (rw [Bool.eq_iff_iff]; simp; try omega)))) (by simp)
     ·
      simp (decide := true) only [W, Pr_prog, t_fldD_36_5, t_szD_3, t_aggD_3, q1, q2, q3, q4, q5, ↓reduceIte, Int.reduceToNat]
      refine hK _ _ ?_
      clear hK K
      refine WP.cond (b := _) rfl (fun q6 => ?_) (fun q6 => ?_)
      ·
       refine WP.sr [2] (by kernel_rfl) fun K hK => ?_
       simp (decide := true) only [W, Pr_prog, q1, q2, q3, q4, q5, q6, ↓reduceIte, Int.reduceToNat]
       refine hK _ _ ?_
       clear hK K
       refine WP.ret ?_
       exact Ends.pure (.inr rfl) rfl (Le.of_eq (by first | (simp (decide := true) only [St.get, lk, W, ruleErrB, badSc, q1, q2, q3, q4, q5, q6, ↓reduceIte]; done) | (simp [St.get, lk, W, bne, ruleErrB, badSc, q1, q2, q3, q4, q5, q6]; done) | (simp_all [St.get, lk, W, LN, bne, ruleErrB, badSc]; done) | (simp_all [St.get, lk, W, LN, bne, ruleErrB, badSc]; intros; first | omega | (rw [Bool.eq_iff_iff]; simp; try omega)))) (by simp)
      ·
       refine WP.sr [1, 33] (by kernel_rfl) fun K hK => ?_
       simp (decide := true) only [W, Pr_prog, t_fldD_36_1, t_szD_4, t_aggD_4, q1, q2, q3, q4, q5, q6, ↓reduceIte, Int.reduceToNat]
       refine hK _ _ ?_
       clear hK K
       refine WP.cond (b := true) (by first | rfl | simp [W, q1, q2, q3, q4, q5, q6]) (fun _ => ?_) nofun
       refine WP.sr [2] (by kernel_rfl) fun K hK => ?_
       simp (decide := true) only [W, Pr_prog, q1, q2, q3, q4, q5, q6, ↓reduceIte, Int.reduceToNat]
       refine hK _ _ ?_
       clear hK K
       refine WP.ret ?_
       exact Ends.pure (.inr rfl) rfl (Le.of_eq (by first | (simp (decide := true) only [St.get, lk, W, ruleErrB, badSc, q1, q2, q3, q4, q5, q6, ↓reduceIte]; done) | (simp [St.get, lk, W, bne, ruleErrB, badSc, q1, q2, q3, q4, q5, q6]; done) | (simp_all [St.get, lk, W, LN, bne, ruleErrB, badSc]; done) | (simp_all [St.get, lk, W, LN, bne, ruleErrB, badSc]; intros; first | omega | (rw [Bool.eq_iff_iff]; simp; try omega)))) (by simp)
   ·
    simp (decide := true) only [W, Pr_prog, t_fldD_36_3, t_szD_34, t_aggD_34, t_isStr_34, t_isSliceT_34, t_fldD_36_4, t_szD_3, t_aggD_3, t_fldD_36_5, q1, q2, q3, ↓reduceIte, Int.reduceToNat]
    refine hK _ _ ?_
    clear hK K
    refine WP.cond (b := false) (by first | rfl | simp [W, q1, q2, q3]) nofun (fun _ => ?_)
    refine WP.sr [1, 33] (by kernel_rfl) fun K hK => ?_
    simp (decide := true) only [W, Pr_prog, t_fldD_36_1, t_szD_4, t_aggD_4, q1, q2, q3, ↓reduceIte, Int.reduceToNat]
    refine hK _ _ ?_
    clear hK K
    refine WP.cond (b := false) (by first | rfl | simp [W, q1, q2, q3]) nofun (fun _ => ?_)
    refine WP.sr [1, 36] (by kernel_rfl) fun K hK => ?_
    simp (decide := true) only [W, Pr_prog, t_fldD_36_3, t_szD_34, t_aggD_34, t_isStr_34, t_isSliceT_34, q1, q2, q3, ↓reduceIte, Int.reduceToNat]
    refine hK _ _ ?_
    clear hK K
    refine WP.cond (b := _) rfl (fun q7 => ?_) (fun q7 => ?_)
    ·
     refine WP.sr [2] (by kernel_rfl) fun K hK => ?_
     simp (decide := true) only [W, Pr_prog, q1, q2, q3, q7, ↓reduceIte, Int.reduceToNat]
     refine hK _ _ ?_
     clear hK K
     refine WP.ret ?_
     exact Ends.pure (.inr rfl) rfl (Le.of_eq (by first | (simp (decide := true) only [St.get, lk, W, ruleErrB, badSc, q1, q2, q3, q7, ↓reduceIte]; done) | (simp [St.get, lk, W, bne, ruleErrB, badSc, q1, q2, q3, q7]; done) | (simp_all [St.get, lk, W, LN, bne, ruleErrB, badSc]; done) | (simp_all [St.get, lk, W, LN, bne, ruleErrB, badSc]; intros; first | omega | (rw [Bool.eq_iff_iff]; simp; try omega)))) (by simp)
    ·
     refine WP.sr [1, 41] (by kernel_rfl) fun K hK => ?_
     simp (decide := true) only [W, Pr_prog, t_fldD_36_3, t_szD_34, t_aggD_34, q1, q2, q3, q7, ↓reduceIte, Int.reduceToNat]
     refine CallK.pure (c_sc_check p.scopes p.ns (by have := hp.1.2.2.1; omega) hp.1.2.2.2 (fun x hx => by have := hp.2.2.2 x hx; omega)) rfl rfl (by simp [-List.map_take]) ?_
     refine runOps.take 2 fun J hJ => ?_
     simp (decide := true) only [W, Pr_prog, q1, q2, q3, q7, ↓reduceIte, Int.reduceToNat]
     refine hJ _ _ ?_
     clear hJ J
     refine runOps.part 46 rfl (fun q8 => ?_) (fun q8 => ?_)
     ·
      simp (decide := true) only [W, Pr_prog, t_fldD_36_3, t_szD_34, t_aggD_34, q1, q2, q3, q7, q8, ↓reduceIte, Int.reduceToNat]
      refine hK _ _ ?_
      clear hK K
      refine WP.cond (b := true) (by first | rfl | simp [W, q1, q2, q3, q7, q8]) (fun _ => ?_) nofun
      refine WP.sr [2] (by kernel_rfl) fun K hK => ?_
      simp (decide := true) only [W, Pr_prog, q1, q2, q3, q7, q8, ↓reduceIte, Int.reduceToNat]
      refine hK _ _ ?_
      clear hK K
      refine WP.ret ?_
      exact Ends.pure (.inr rfl) rfl (Le.of_eq (by first | (simp (decide := true) only [St.get, lk, W, ruleErrB, badSc, q1, q2, q3, q7, q8, ↓reduceIte]; done) | (simp [St.get, lk, W, bne, ruleErrB, badSc, q1, q2, q3, q7, q8]; done) | (simp_all [St.get, lk, W, LN, bne, ruleErrB, badSc]; done) | (simp_all [St.get, lk, W, LN, bne, ruleErrB, badSc]; intros; first | omega | (rw [Bool.eq_iff_iff]; simp; try omega)))) (by simp)
     ·
      simp (decide := true) only [W, Pr_prog, t_fldD_36_3, t_szD_34, t_aggD_34, q1, q2, q3, q7, q8, ↓reduceIte, Int.reduceToNat]
      refine CallK.pure (c_contains p.scopes p.ns _ (by have := hp.1.2.2.1; omega) hp.1.2.2.2) rfl rfl (by simp [-List.map_take]) ?_
      refine runOps.take 2 fun J hJ => ?_
      simp (decide := true) only [W, Pr_prog, q1, q2, q3, q7, q8, ↓reduceIte, Int.reduceToNat]
      refine hJ _ _ ?_
      clear hJ J
      refine runOps.part 51 rfl (fun q9 => ?_) (fun q9 => ?_)
      ·
       simp (decide := true) only [W, Pr_prog, t_fldD_36_3, t_szD_34, t_aggD_34, q1, q2, q3, q7, q8, q9, ↓reduceIte, Int.reduceToNat]
       refine hK _ _ ?_
       clear hK K
       refine WP.cond (b := true) (by first | rfl | simp [W, q1, q2, q3, q7, q8, q9]) (fun _ => ?_) nofun
       refine WP.sr [2] (by kernel_rfl) fun K hK => ?_
       simp (decide := true) only [W, Pr_prog, q1, q2, q3, q7, q8, q9, ↓reduceIte, Int.reduceToNat]
       refine hK _ _ ?_
       clear hK K
       refine WP.ret ?_
       exact Ends.pure (.inr rfl) rfl (Le.of_eq (by first | (simp (decide := true) only [St.get, lk, W, ruleErrB, badSc, q1, q2, q3, q7, q8, q9, ↓reduceIte]; done) | (simp [St.get, lk, W, bne, ruleErrB, badSc, q1, q2, q3, q7, q8, q9]; done) | (simp_all [St.get, lk, W, LN, bne, ruleErrB, badSc]; done) | (simp_all [St.get, lk, W, LN, bne, ruleErrB, badSc]; intros; first | omega | (rw [Bool.eq_iff_iff]; simp; try omega)))) (by simp)
      ·
       simp (decide := true) only [W, Pr_prog, t_fldD_36_3, t_szD_34, t_aggD_34, q1, q2, q3, q7, q8, q9, ↓reduceIte, Int.reduceToNat]
       refine CallK.pure (c_contains p.scopes p.ns _ (by have := hp.1.2.2.1; omega) hp.1.2.2.2) rfl rfl (by simp [-List.map_take]) ?_
       simp (decide := true) only [W, Pr_prog, q1, q2, q3, q7, q8, q9, ↓reduceIte, Int.reduceToNat]
       refine hK _ _ ?_
       clear hK K
       refine WP.cond (b := _) rfl (fun q10 => ?_) (fun q10 => ?_)
       ·
        refine WP.sr [2] (by kernel_rfl) fun K hK => ?_
        simp (decide := true) only [W, Pr_prog, q1, q2, q3, q7, q8, q9, q10, ↓reduceIte, Int.reduceToNat]
        refine hK _ _ ?_
        clear hK K
        refine WP.ret ?_
        exact Ends.pure (.inr rfl) rfl (Le.of_eq (by first | (simp (decide := true) only [St.get, lk, W, ruleErrB, badSc, q1, q2, q3, q7, q8, q9, q10, ↓reduceIte]; done) | (simp [St.get, lk, W, bne, ruleErrB, badSc, q1, q2, q3, q7, q8, q9, q10]; done) | (simp_all [St.get, lk, W, LN, bne, ruleErrB, badSc]; done) | (simp_all [St.get, lk, W, LN, bne, ruleErrB, badSc]; intros; first | omega | (rw [Bool.eq_iff_iff]; simp; try omega)))) (by simp)
       ·
        refine WP.sr [56] (by kernel_rfl) fun K hK => ?_
        refine runOps.take 4 fun J hJ => ?_
        simp (decide := true) only [W, Pr_prog, t_fldD_36_4, t_szD_3, t_aggD_3, q1, q2, q3, q7, q8, q9, q10, ↓reduceIte, Int.reduceToNat]
        refine hJ _ _ ?_
        clear hJ J
        refine runOps.part 60 rfl (fun q11 => ?_) (fun q11 => ?_)
        ·
         simp (decide := true) only [W, Pr_prog, t_fldD_36_4, t_szD_3, t_aggD_3, t_fldD_36_5, q1, q2, q3, q7, q8, q9, q10, q11, ↓reduceIte, Int.reduceToNat]
         refine hK _ _ ?_
         clear hK K
         refine WP.cond (b := true) (by first | rfl | simp [W, q1, q2, q3, q7, q8, q9, q10, q11]) (fun _ => ?_) nofun
         refine WP.sr [2] (by kernel_rfl) fun K hK => ?_
         simp (decide := true) only [W, Pr_prog, q1, q2, q3, q7, q8, q9, q10, q11, ↓reduceIte, Int.reduceToNat]
         refine hK _ _ ?_
         clear hK K
         refine WP.ret ?_
         exact Ends.pure (.inr rfl) rfl (Le.of_eq (by first | (simp (decide := true) only [St.get, lk, W, ruleErrB, badSc, q1, q2, q3, q7, q8, q9, q10, q11, ↓reduceIte]; done) | (simp [St.get, lk, W, bne, ruleErrB, badSc, q1, q2, q3, q7, q8, q9, q10, q11]; done) | (simp_all [St.get, lk, W, LN, bne, ruleErrB, badSc]; done) | (simp_all [St.get, lk, W, LN, bne, ruleErrB, badSc]; intros; first | omega | (rw [Bool.eq_iff_iff]; simp; try omega)))) (by simp)
        ·
         refine runOps.take 5 fun J hJ => ?_
         simp (decide := true) only [W, Pr_prog, t_fldD_36_4, t_szD_3, t_aggD_3, q1, q2, q3, q7, q8, q9, q10, q11, ↓reduceIte, Int.reduceToNat]
         refine hJ _ _ ?_
         clear hJ J
         refine runOps.part 65 rfl (fun q12 => ?_) (fun q12 => ?_)
         ·
          simp (decide := true) only [W, Pr_prog, t_fldD_36_5, t_szD_3, t_aggD_3, q1, q2, q3, q7, q8, q9, q10, q11, q12, ↓reduceIte, Int.reduceToNat]
          refine hK _ _ ?_
          clear hK K
          refine WP.cond (b := true) (by first | rfl | simp [W, q1, q2, q3, q7, q8, q9, q10, q11, q12]) (fun _ => ?_) nofun
          refine WP.sr [2] (by kernel_rfl) fun K hK => ?_
          simp (decide := true) only [W, Pr_prog, q1, q2, q3, q7, q8, q9, q10, q11, q12, ↓reduceIte, Int.reduceToNat]
          refine hK _ _ ?_
          clear hK K
          refine WP.ret ?_
          exact Ends.pure (.inr rfl) rfl (Le.of_eq (by first | (simp (decide := true) only [St.get, lk, W, ruleErrB, badSc, q1, q2, q3, q7, q8, q9, q10, q11, q12, ↓reduceIte]; done) | (simp [St.get, lk, W, bne, ruleErrB, badSc, q1, q2, q3, q7, q8, q9, q10, q11, q12]; done) | (simp_all [St.get, lk, W, LN, bne, ruleErrB, badSc]; done) | (simp_all [St.get, lk, W, LN, bne, ruleErrB, badSc]; intros; first | omega | (rw [Bool.eq_iff_iff]; simp; try omega)))) (by simp)
         ·
          simp (decide := true) only [W, Pr_prog, t_fldD_36_5, t_szD_3, t_aggD_3, q1, q2, q3, q7, q8, q9, q10, q11, q12, ↓reduceIte, Int.reduceToNat]
          refine hK _ _ ?_
          clear hK K
          refine WP.cond (b := _) rfl (fun q13 => ?_) (fun q13 => ?_)
          ·
           refine WP.sr [2] (by kernel_rfl) fun K hK => ?_
           simp (decide := true) only [W, Pr_prog, q1, q2, q3, q7, q8, q9, q10, q11, q12, q13, ↓reduceIte, Int.reduceToNat]
           refine hK _ _ ?_
           clear hK K
           refine WP.ret ?_
           exact Ends.pure (.inr rfl) rfl (Le.of_eq (by first | (simp (decide := true) only [St.get, lk, W, ruleErrB, badSc, q1, q2, q3, q7, q8, q9, q10, q11, q12, q13, ↓reduceIte]; done) | (simp [St.get, lk, W, bne, ruleErrB, badSc, q1, q2, q3, q7, q8, q9, q10, q11, q12, q13]; done) | (simp_all [St.get, lk, W, LN, bne, ruleErrB, badSc]; done) | (simp_all [St.get, lk, W, LN, bne, ruleErrB, badSc]; intros; first | omega | (rw [Bool.eq_iff_iff]; simp; try omega)))) (by simp)
          ·
           refine WP.skip ?_
           show WP _ _ _ _ _ _
           refine WP.sr [2] (by kernel_rfl) fun K hK => ?_
           simp (decide := true) only [W, Pr_prog, q1, q2, q3, q7, q8, q9, q10, q11, q12, q13, ↓reduceIte, Int.reduceToNat]
           refine hK _ _ ?_
           clear hK K
           refine WP.ret ?_
           exact Ends.pure (.inr rfl) rfl (Le.of_eq (by first | (simp (decide := true) only [St.get, lk, W, ruleErrB, badSc, q1, q2, q3, q7, q8, q9, q10, q11, q12, q13, ↓reduceIte]; done) | (simp [St.get, lk, W, bne, ruleErrB, badSc, q1, q2, q3, q7, q8, q9, q10, q11, q12, q13]; done) | (simp_all [St.get, lk, W, LN, bne, ruleErrB, badSc]; done) | (simp_all [St.get, lk, W, LN, bne, ruleErrB, badSc]; intros; first | omega | (rw [Bool.eq_iff_iff]; simp; try omega)))) (by simp)
theorem c_named (q p : Rule) : CallE Pr 39 [.agg [.str q.name, .bool q.deny, .slice 3 q.nc (q.conds.map Cond.cs) none, .slice 1 q.ns (q.scopes.map fun x => [.str x]) none, .int .i64 q.lvl, .int .i64 q.age], .ref 0 0] [(0, .box 36 [.str p.name, .bool p.deny, .slice 3 p.nc (p.conds.map Cond.cs) none, .slice 1 p.ns (p.scopes.map fun x => [.str x]) none, .int .i64 p.lvl, .int .i64 p.age])] (.bool (q.name == p.name)) [(0, .box 36 [.str p.name, .bool p.deny, .slice 3 p.nc (p.conds.map Cond.cs) none, .slice 1 p.ns (p.scopes.map fun x => [.str x]) none, .int .i64 p.lvl, .int .i64 p.age])] := by
 refine CallE.of_wp Tryz.func39 rfl (by kernel_rfl) Tryz.ntmps39 (by simp) ?_
 simp only [frameOf, Nat.reduceAdd, Nat.zero_add, List.map_cons, List.map_nil]
 refine WP.sr [1, 2] (by kernel_rfl) fun K hK => ?_
 simp (decide := true) only [W, Pr_prog, ↓reduceIte, Int.reduceToNat]
 refine hK _ _ ?_
 clear hK K
 refine WP.sr [3] (by kernel_rfl) fun K hK => ?_
 simp (decide := true) only [W, Pr_prog, t_fldD_36_0, t_szD_9, t_aggD_9, ↓reduceIte, Int.reduceToNat]
 refine hK _ _ ?_
 clear hK K
 refine WP.ret ?_
 refine Ends.imp (.inr rfl) rfl (Le.of_eq (by first | (simp (decide := true) only [St.get, lk, W, ↓reduceIte]; done) | (simp [St.get, lk, W, bne]; done) | (simp_all [St.get, lk, W, LN, bne]; done) | (simp_all [St.get, lk, W, LN, bne]; intros; first | omega | (rw [Bool.eq_iff_iff]; simp; try omega)))) ?_ ?_ ?_
 · simp
 · simp [St.get, lk, W, BClo, W]
 · simp [lk]
theorem c_indexfunc_named (l : List Rule) (nl : Bool) (p : Rule) (hn : l.length ≤ 1099511627776) (hnl : nl = true → l = []) : CallE Pr 79 [.slice 6 nl (l.map Rule.cs) none, .fn (.func 39) [] [.ref 0 0]] [(0, .box 36 [.str p.name, .bool p.deny, .slice 3 p.nc (p.conds.map Cond.cs) none, .slice 1 p.ns (p.scopes.map fun x => [.str x]) none, .int .i64 p.lvl, .int .i64 p.age])] (.int .i64 (ixP (fun q => q.name == p.name) l 0)) [(0, .box 36 [.str p.name, .bool p.deny, .slice 3 p.nc (p.conds.map Cond.cs) none, .slice 1 p.ns (p.scopes.map fun x => [.str x]) none, .int .i64 p.lvl, .int .i64 p.age])] := by
 refine CallE.of_wp Tryz.func79 rfl (by kernel_rfl) Tryz.ntmps79 (by simp) ?_
 simp only [frameOf, Nat.reduceAdd, Nat.zero_add, List.map_cons, List.map_nil]
 refine WP.sr [0, 1] (by kernel_rfl) fun K hK => ?_
 simp (decide := true) only [W, Pr_prog, ↓reduceIte, Int.reduceToNat]
 refine hK _ _ ?_
 clear hK K
 refine WP.seq ?_
 refine WP.sr [0, 1, 7, 8] (by kernel_rfl) fun K hK => ?_
 simp (decide := true) only [W, Pr_prog, t_isStr_22, t_isSliceT_22, ↓reduceIte, Int.reduceToNat]
 refine hK _ _ ?_
 clear hK K
 refine WP.block ?_
 refine WP.lp [0, 1, 7] (X := {k : Nat // k ≤ l.length ∧ ixP (fun q => q.name == p.name) l 0 = ixP (fun q => q.name == p.name) (l.drop k) k}) (fun x => match x with | ⟨(k), _⟩ => [(8, .int .i64 k)]) (fun x => match x with | ⟨(k), _⟩ => [(0, .box 36 [.str p.name, .bool p.deny, .slice 3 p.nc (p.conds.map Cond.cs) none, .slice 1 p.ns (p.scopes.map fun x => [.str x]) none, .int .i64 p.lvl, .int .i64 p.age])]) (fun x => match x with | ⟨(k), _⟩ => l.length - k) (by simp (decide := true) only [W, ↓reduceIte, Int.reduceToNat]; rfl) ?_ ⟨(0), ⟨Nat.zero_le _, by simp⟩⟩ ?_
 rotate_left
 · exact Weak.store (by simp [St.get, lk, W, Le.refl, W]) (by simp [lk, W, W]) (by simp [lk, W]) (by simp [BClo, lk]) (by simp [lk])
 rintro ⟨k, hk, hI⟩
 dsimp only
 simp only [List.cons_append, List.nil_append]
 refine WP.sr [0, 1, 7, 8, 9] (by kernel_rfl) fun K hK => ?_
 simp (decide := true) only [W, Pr_prog, hk, ↓reduceIte, Int.reduceToNat]
 refine hK _ _ ?_
 clear hK K
 refine WP.seq ?_
 refine WP.cond (b := _) rfl (fun q1 => ?_) (fun q1 => ?_)
 ·
  have hlt := lt_of_q q1
  have hg : (l.map Rule.cs)[k]? = some [.str l[k].name, .bool l[k].deny, .slice 3 l[k].nc (l[k].conds.map Cond.cs) none, .slice 1 l[k].ns (l[k].scopes.map fun x => [.str x]) none, .int .i64 l[k].lvl, .int .i64 l[k].age] := getM hlt
  have hnf := nl_false hnl hlt
  rw [dropE hlt] at hI
  simp only [ixP] at hI
  refine WP.skip ?_
  show WP _ _ _ _ _ _
  refine WP.seq ?_
  refine WP.block ?_
  refine WP.sr [0, 1, 5, 7, 8] (by kernel_rfl) fun K hK => ?_
  simp (decide := true) only [W, Pr_prog, hk, q1, hg, hnf, ↓reduceIte, Int.reduceToNat]
  refine hK _ _ ?_
  clear hK K
  refine WP.sr [0, 1, 5, 7, 8, 16] (by kernel_rfl) fun K hK => ?_
  simp (decide := true) only [W, Pr_prog, t_elemD_22, t_szD_36, t_aggD_36, hk, q1, hg, hnf, ↓reduceIte, Int.reduceToNat]
  refine CallK.imp (c_named l[k] p) rfl rfl (by simp [lk, BClo]) (by simp [lk]) (by simp [lk]) ?_
  simp (decide := true) only [W, Pr_prog, hk, q1, hg, hnf, ↓reduceIte, Int.reduceToNat]
  refine hK _ _ ?_
  clear hK K
  refine WP.cond (b := _) rfl (fun q2 => ?_) (fun q2 => ?_)
  ·
   refine WP.sr [4] (by kernel_rfl) fun K hK => ?_
   simp (decide := true) only [W, Pr_prog, hk, q1, hg, hnf, q2, ↓reduceIte, Int.reduceToNat]
   refine hK _ _ ?_
   clear hK K
   refine WP.ret ?_
   refine Ends.imp (.inr rfl) rfl (Le.of_eq (by first | (simp (decide := true) only [St.get, lk, W, hk, q1, hg, hnf, q2, hI, ↓reduceIte]; done) | (simp [St.get, lk, W, bne, hk, q1, hg, hnf, q2, hI]; done) | (simp_all [St.get, lk, W, LN, bne]; done) | (simp_all [St.get, lk, W, LN, bne]; intros; first | omega | (rw [Bool.eq_iff_iff]; simp; try omega)))) ?_ ?_ ?_
   · simp
   · simp [St.get, lk, W, BClo, hk, q1, hg, hnf, q2]
   · simp [lk]
  ·
   refine WP.skip ?_
   show WP _ _ _ _ _ _
   refine WP.region (by kernel_rfl) fun K hK => ?_
   simp (decide := true) only [W, Pr_prog, hk, q1, hg, hnf, q2, ↓reduceIte, Int.reduceToNat]
   refine hK _ _ ?_
   clear hK K
   show ∃ y, _ ∧ Weak _ _ _
   refine ⟨⟨k + 1, ?_⟩, ?_, ?_⟩
   · exact ⟨by omega, by first | (simpa [hk, q1, hg, hnf, q2] using hI) | (simp_all; done)⟩
   · dsimp only; omega
   · exact Weak.store (by simp [St.get, lk, W, Le.refl, hk, q1, hg, hnf, q2, wrapS hlt (show l.length ≤ 140737488355328 by omega)]) (by simp [lk, W, hk, q1, hg, hnf, q2, wrapS hlt (show l.length ≤ 140737488355328 by omega)]) (by simp [lk, W]) (by simp [BClo, lk]) (by simp [lk])
 ·
  have hge := ge_of_q q1
  rw [dropN hge] at hI
  simp only [ixP] at hI
  refine WP.exit ?_
  show WP _ _ _ _ _ _
  refine WP.sr [4] (by kernel_rfl) fun K hK => ?_
  simp (decide := true) only [W, Pr_prog, hk, q1, ↓reduceIte, Int.reduceToNat]
  refine hK _ _ ?_
  clear hK K
  refine WP.ret ?_
  refine Ends.imp (.inr rfl) rfl (Le.of_eq (by first | (simp (decide := true) only [St.get, lk, W, hk, q1, hI, ↓reduceIte]; done) | (simp [St.get, lk, W, bne, hk, q1, hI]; done) | (simp_all [St.get, lk, W, LN, bne]; done) | (simp_all [St.get, lk, W, LN, bne]; intros; first | omega | (rw [Bool.eq_iff_iff]; simp; try omega)))) ?_ ?_ ?_
  · simp
  · simp [St.get, lk, W, BClo, hk, q1]
  · simp [lk]
theorem c_contfunc_named (l : List Rule) (nl : Bool) (p : Rule) (hn : l.length ≤ 1099511627776) (hnl : nl = true → l = []) : CallE Pr 41 [.slice 6 nl (l.map Rule.cs) none, .fn (.func 39) [] [.ref 0 0]] [(0, .box 36 [.str p.name, .bool p.deny, .slice 3 p.nc (p.conds.map Cond.cs) none, .slice 1 p.ns (p.scopes.map fun x => [.str x]) none, .int .i64 p.lvl, .int .i64 p.age])] (.bool (l.any fun q => q.name == p.name)) [(0, .box 36 [.str p.name, .bool p.deny, .slice 3 p.nc (p.conds.map Cond.cs) none, .slice 1 p.ns (p.scopes.map fun x => [.str x]) none, .int .i64 p.lvl, .int .i64 p.age])] := by
 refine CallE.of_wp Tryz.func41 rfl (by kernel_rfl) Tryz.ntmps41 (by simp) ?_
 simp only [frameOf, Nat.reduceAdd, Nat.zero_add, List.map_cons, List.map_nil]
 refine WP.sr [0, 1] (by kernel_rfl) fun K hK => ?_
 simp (decide := true) only [W, Pr_prog, ↓reduceIte, Int.reduceToNat]
 refine hK _ _ ?_
 clear hK K
 refine WP.sr [4] (by kernel_rfl) fun K hK => ?_
 simp (decide := true) only [W, Pr_prog, ↓reduceIte, Int.reduceToNat]
 refine CallK.imp (c_indexfunc_named l nl p hn hnl) rfl rfl (by simp [lk, BClo]) (by simp [lk]) (by simp [lk]) ?_
 simp (decide := true) only [W, Pr_prog, ↓reduceIte, Int.reduceToNat]
 refine hK _ _ ?_
 clear hK K
 refine WP.ret ?_
 refine Ends.imp (.inr rfl) rfl (Le.of_eq (by first | (simp (decide := true) only [St.get, lk, W, ixP_any0, ↓reduceIte]; done) | (simp [St.get, lk, W, bne, ixP_any0]; done) | (simp_all [St.get, lk, W, LN, bne, ixP_any0]; done) | (simp_all [St.get, lk, W, LN, bne, ixP_any0]; intros; first | omega | (rw [Bool.eq_iff_iff]; simp; try omega)))) ?_ ?_ ?_
 · simp
 · simp [St.get, lk, W, BClo, W]
 · simp [lk]
theorem c_check (l : List Rule) (nl : Bool) (hn : l.length ≤ 1099511627776) (hnl : nl = true → l = []) (hl : ∀ p ∈ l, p.ok) : CallP Pr 15 [.slice 6 nl (l.map Rule.cs) none] (.int .i64 (checkE l)) := by
 refine CallP.of_wp Tryz.func15 rfl (by kernel_rfl) Tryz.ntmps15 (by simp) ?_
 simp only [frameOf, Nat.reduceAdd, Nat.zero_add]
 refine WP.sr [0] (by kernel_rfl) fun K hK => ?_
 simp (decide := true) only [W, Pr_prog, ← List.map_take, ↓reduceIte, Int.reduceToNat]
 refine hK _ _ ?_
 clear hK K
 refine WP.seq ?_
 refine WP.sr [0, 9] (by kernel_rfl) fun K hK => ?_
 simp (decide := true) only [W, Pr_prog, t_isStr_22, t_isSliceT_22, ← List.map_take, ↓reduceIte, Int.reduceToNat]
 refine hK _ _ ?_
 clear hK K
 refine WP.cond (b := _) rfl (fun q1 => ?_) (fun q1 => ?_)
 ·
  refine WP.sr [2] (by kernel_rfl) fun K hK => ?_
  simp (decide := true) only [W, Pr_prog, q1, ← List.map_take, ↓reduceIte, Int.reduceToNat]
  refine hK _ _ ?_
  clear hK K
  refine WP.ret ?_
  exact Ends.pure (.inr rfl) rfl (Le.of_eq (by first | (simp (decide := true) only [St.get, lk, W, checkE, ruleAt, q1, ↓reduceIte]; done) | (simp [St.get, lk, W, bne, checkE, ruleAt, q1]; done) | (simp_all [St.get, lk, W, LN, bne, checkE, ruleAt]; done) | (simp_all [St.get, lk, W, LN, bne, checkE, ruleAt]; intros; first | omega | (rw [Bool.eq_iff_iff]; simp; try omega)))) (by simp)
 ·
  refine WP.skip ?_
  show WP _ _ _ _ _ _
  refine WP.seq ?_
  refine WP.sr [0, 10, 11, 12] (by kernel_rfl) fun K hK => ?_
  simp (decide := true) only [W, Pr_prog, t_isStr_22, t_isSliceT_22, q1, ← List.map_take, ↓reduceIte, Int.reduceToNat]
  refine hK _ _ ?_
  clear hK K
  refine WP.block ?_
  refine WP.lp [0, 10, 11] (X := {k : Nat // k ≤ l.length ∧ chkL [] l = chkL (l.take k) (l.drop k)}) (fun x => match x with | ⟨(k), _⟩ => [(12, .int .i64 k)]) (fun x => match x with | ⟨(k), _⟩ => []) (fun x => match x with | ⟨(k), _⟩ => l.length - k) (by simp (decide := true) only [W, ↓reduceIte, Int.reduceToNat]; rfl) ?_ ⟨(0), ⟨Nat.zero_le _, by simp⟩⟩ ?_
  rotate_left
  · exact Weak.store (by simp [St.get, lk, W, Le.refl, q1]) (by simp [lk, W, q1]) (by simp [lk, W]) (by simp [BClo, lk]) (by simp [lk])
  rintro ⟨k, hk, hI⟩
  dsimp only
  simp only [List.cons_append, List.nil_append]
  refine WP.sr [0, 10, 11, 12, 13] (by kernel_rfl) fun K hK => ?_
  simp (decide := true) only [W, Pr_prog, q1, hk, ← List.map_take, ↓reduceIte, Int.reduceToNat]
  refine hK _ _ ?_
  clear hK K
  refine WP.seq ?_
  refine WP.cond (b := _) rfl (fun q2 => ?_) (fun q2 => ?_)
  ·
   have hlt := lt_of_q q2
   have hg : (l.map Rule.cs)[k]? = some [.str l[k].name, .bool l[k].deny, .slice 3 l[k].nc (l[k].conds.map Cond.cs) none, .slice 1 l[k].ns (l[k].scopes.map fun x => [.str x]) none, .int .i64 l[k].lvl, .int .i64 l[k].age] := getM hlt
   have hnf := nl_false hnl hlt
   rw [dropE hlt] at hI
   simp only [chkL, ruleAt] at hI
   refine WP.skip ?_
   show WP _ _ _ _ _ _
   refine WP.seq ?_
   refine WP.block ?_
   refine WP.sr [0, 3, 4, 10, 11, 12] (by kernel_rfl) fun K hK => ?_
   simp (decide := true) only [W, Pr_prog, t_elemD_22, t_szD_36, t_aggD_36, t_zeroD_36, q1, hk, q2, hg, hnf, ← List.map_take, ↓reduceIte, Int.reduceToNat]
   refine hK _ _ ?_
   clear hK K
   refine WP.sr [0, 3, 4, 5, 10, 11, 12] (by kernel_rfl) fun K hK => ?_
   simp (decide := true) only [W, Pr_prog, q1, hk, q2, hg, hnf, ← List.map_take, ↓reduceIte, Int.reduceToNat]
   refine hK _ _ ?_
   clear hK K
   refine WP.seq ?_
   refine WP.sr [0, 3, 4, 5, 10, 11, 12, 21] (by kernel_rfl) fun K hK => ?_
   simp (decide := true) only [W, Pr_prog, t_fldD_36_0, t_szD_9, t_aggD_9, q1, hk, q2, hg, hnf, ← List.map_take, ↓reduceIte, Int.reduceToNat]
   refine CallK.pure (c_word l[k].name (by have := (hl _ (List.getElem_mem hlt)).2.1; omega)) rfl rfl (by simp [-List.map_take]) ?_
   simp (decide := true) only [W, Pr_prog, q1, hk, q2, hg, hnf, ← List.map_take, ↓reduceIte, Int.reduceToNat]
   refine hK _ _ ?_
   clear hK K
   refine WP.cond (b := _) rfl (fun q3 => ?_) (fun q3 => ?_)
   ·
    simp only [Bool.not_eq_true', Bool.not_eq_false'] at q3
    refine WP.sr [2] (by kernel_rfl) fun K hK => ?_
    simp (decide := true) only [W, Pr_prog, q1, hk, q2, hg, hnf, q3, ← List.map_take, ↓reduceIte, Int.reduceToNat]
    refine hK _ _ ?_
    clear hK K
    refine WP.ret ?_
    exact Ends.pure (.inr rfl) rfl (Le.of_eq (by first | (simp (decide := true) only [St.get, lk, W, checkE, ruleAt, q1, hk, q2, hg, hnf, q3, hI, ↓reduceIte]; done) | (simp [St.get, lk, W, bne, checkE, ruleAt, q1, hk, q2, hg, hnf, q3, hI]; done) | (simp_all [St.get, lk, W, LN, bne, checkE, ruleAt]; done) | (simp_all [St.get, lk, W, LN, bne, checkE, ruleAt]; intros; first | omega | (rw [Bool.eq_iff_iff]; simp; try omega)))) (by simp)
   ·
    simp only [Bool.not_eq_true', Bool.not_eq_false'] at q3
    refine WP.skip ?_
    show WP _ _ _ _ _ _
    refine WP.seq ?_
    refine WP.sr [0, 4, 10, 11, 12, 26] (by kernel_rfl) fun K hK => ?_
    simp (decide := true) only [W, Pr_prog, t_isStr_22, t_elemD_22, q1, hk, q2, hg, hnf, q3, ← List.map_take, ↓reduceIte, Int.reduceToNat]
    refine CallK.imp (c_contfunc_named (l.take k) false l[k] (by simp; omega) nofun) rfl rfl (by simp [lk, BClo]) (by simp [lk]) (by simp [lk, -List.map_take]) ?_
    simp (decide := true) only [W, Pr_prog, q1, hk, q2, hg, hnf, q3, ← List.map_take, ↓reduceIte, Int.reduceToNat]
    refine hK _ _ ?_
    clear hK K
    refine WP.cond (b := _) rfl (fun q4 => ?_) (fun q4 => ?_)
    ·
     refine WP.sr [2] (by kernel_rfl) fun K hK => ?_
     simp (decide := true) only [W, Pr_prog, q1, hk, q2, hg, hnf, q3, q4, ← List.map_take, ↓reduceIte, Int.reduceToNat]
     refine hK _ _ ?_
     clear hK K
     refine WP.ret ?_
     exact Ends.pure (.inr rfl) rfl (Le.of_eq (by first | (simp (decide := true) only [St.get, lk, W, checkE, ruleAt, q1, hk, q2, hg, hnf, q3, q4, hI, ↓reduceIte]; done) | (simp [St.get, lk, W, bne, checkE, ruleAt, q1, hk, q2, hg, hnf, q3, q4, hI]; done) | (simp_all [St.get, lk, W, LN, bne, checkE, ruleAt]; done) | (simp_all [St.get, lk, W, LN, bne, checkE, ruleAt]; intros; first | omega | (rw [Bool.eq_iff_iff]; simp; try omega)))) (by simp)
    ·
     refine WP.skip ?_
     show WP _ _ _ _ _ _
     refine WP.sr [0, 6, 10, 11, 12] (by kernel_rfl) fun K hK => ?_
     simp (decide := true) only [W, Pr_prog, t_szD_36, t_aggD_36, q1, hk, q2, hg, hnf, q3, q4, ← List.map_take, ↓reduceIte, Int.reduceToNat]
     refine CallK.pure (c_ruleerr l[k] (hl _ (List.getElem_mem hlt))) rfl rfl (by simp [-List.map_take]) ?_
     simp (decide := true) only [W, Pr_prog, q1, hk, q2, hg, hnf, q3, q4, ← List.map_take, ↓reduceIte, Int.reduceToNat]
     refine hK _ _ ?_
     clear hK K
     refine WP.sr [0, 6, 10, 11, 12, 30] (by kernel_rfl) fun K hK => ?_
     simp (decide := true) only [W, Pr_prog, q1, hk, q2, hg, hnf, q3, q4, ← List.map_take, ↓reduceIte, Int.reduceToNat]
     refine hK _ _ ?_
     clear hK K
     refine WP.cond (b := _) rfl (fun q5 => ?_) (fun q5 => ?_)
     ·
      refine WP.sr [2] (by kernel_rfl) fun K hK => ?_
      simp (decide := true) only [W, Pr_prog, q1, hk, q2, hg, hnf, q3, q4, q5, ← List.map_take, ↓reduceIte, Int.reduceToNat]
      refine hK _ _ ?_
      clear hK K
      refine WP.ret ?_
      exact Ends.pure (.inr rfl) rfl (Le.of_eq (by first | (simp (decide := true) only [St.get, lk, W, checkE, ruleAt, q1, hk, q2, hg, hnf, q3, q4, q5, hI, ↓reduceIte]; done) | (simp [St.get, lk, W, bne, checkE, ruleAt, q1, hk, q2, hg, hnf, q3, q4, q5, hI]; done) | (simp_all [St.get, lk, W, LN, bne, checkE, ruleAt]; done) | (simp_all [St.get, lk, W, LN, bne, checkE, ruleAt]; intros; first | omega | (rw [Bool.eq_iff_iff]; simp; try omega)))) (by simp)
     ·
      refine WP.skip ?_
      show WP _ _ _ _ _ _
      refine WP.region (by kernel_rfl) fun K hK => ?_
      simp (decide := true) only [W, Pr_prog, q1, hk, q2, hg, hnf, q3, q4, q5, ← List.map_take, ↓reduceIte, Int.reduceToNat]
      refine hK _ _ ?_
      clear hK K
      show ∃ y, _ ∧ Weak _ _ _
      refine ⟨⟨k + 1, ?_⟩, ?_, ?_⟩
      · exact ⟨by omega, by first | (simpa [q1, hk, q2, hg, hnf, q3, q4, q5] using hI) | (simp_all; done)⟩
      · dsimp only; omega
      · exact Weak.store (by simp [St.get, lk, W, Le.refl, q1, hk, q2, hg, hnf, q3, q4, q5, wrapS hlt (show l.length ≤ 140737488355328 by omega)]) (by simp [lk, W, q1, hk, q2, hg, hnf, q3, q4, q5, wrapS hlt (show l.length ≤ 140737488355328 by omega)]) (by simp [lk, W]) (by simp [BClo, lk]) (by simp [lk])
  ·
   have hge := ge_of_q q2
   rw [dropN hge] at hI
   simp only [chkL] at hI
   refine WP.exit ?_
   show WP _ _ _ _ _ _
   refine WP.sr [2] (by kernel_rfl) fun K hK => ?_
   simp (decide := true) only [W, Pr_prog, q1, hk, q2, ← List.map_take, ↓reduceIte, Int.reduceToNat]
   refine hK _ _ ?_
   clear hK K
   refine WP.ret ?_
   exact Ends.pure (.inr rfl) rfl (Le.of_eq (by first | (simp (decide := true) only [St.get, lk, W, checkE, ruleAt, q1, hk, q2, hI, ↓reduceIte]; done) | (simp [St.get, lk, W, bne, checkE, ruleAt, q1, hk, q2, hI]; done) | (simp_all [St.get, lk, W, LN, bne, checkE, ruleAt]; done) | (simp_all [St.get, lk, W, LN, bne, checkE, ruleAt]; intros; first | omega | (rw [Bool.eq_iff_iff]; simp; try omega)))) (by simp)
theorem c_r_rule (l : List Rule) (nl : Bool) (i : Nat) (hi : i < l.length) (hn : l.length ≤ 1099511627776) (hnl : nl = true → l = []) (hl : ∀ p ∈ l, p.ok) : CallP Pr 43 [.slice 6 nl (l.map Rule.cs) none, .int .i64 i] (.int .i64 (ruleAt (l.take i) l[i])) := by
 have hg0 : (l.map Rule.cs)[i]? = some [.str l[i].name, .bool l[i].deny, .slice 3 l[i].nc (l[i].conds.map Cond.cs) none, .slice 1 l[i].ns (l[i].scopes.map fun x => [.str x]) none, .int .i64 l[i].lvl, .int .i64 l[i].age] := getM hi
 have hnf0 := nl_false hnl hi
 have hp := hl _ (List.getElem_mem hi)
 refine CallP.of_wp Tryz.func43 rfl (by kernel_rfl) Tryz.ntmps43 (by simp) ?_
 simp only [frameOf, Nat.reduceAdd, Nat.zero_add]
 refine WP.sr [0, 1] (by kernel_rfl) fun K hK => ?_
 simp (decide := true) only [W, Pr_prog, hg0, hnf0, ↓reduceIte, Int.reduceToNat]
 refine hK _ _ ?_
 clear hK K
 refine WP.sr [0, 1, 5] (by kernel_rfl) fun K hK => ?_
 simp (decide := true) only [W, Pr_prog, t_elemD_22, t_szD_36, t_aggD_36, t_zeroD_36, hg0, hnf0, ↓reduceIte, Int.reduceToNat]
 refine hK _ _ ?_
 clear hK K
 refine WP.seq ?_
 refine WP.sr [0, 1, 5, 15] (by kernel_rfl) fun K hK => ?_
 simp (decide := true) only [W, Pr_prog, t_fldD_36_0, t_szD_9, t_aggD_9, hg0, hnf0, ↓reduceIte, Int.reduceToNat]
 refine CallK.pure (c_r_word l[i].name (by have := hp.2.1; omega)) rfl rfl (by simp [-List.map_take]) ?_
 simp (decide := true) only [W, Pr_prog, hg0, hnf0, ↓reduceIte, Int.reduceToNat]
 refine hK _ _ ?_
 clear hK K
 refine WP.cond (b := _) rfl (fun q1 => ?_) (fun q1 => ?_)
 ·
  simp only [Bool.not_eq_true', Bool.not_eq_false'] at q1
  refine WP.sr [4] (by kernel_rfl) fun K hK => ?_
  simp (decide := true) only [W, Pr_prog, hg0, hnf0, q1, ↓reduceIte, Int.reduceToNat]
  refine hK _ _ ?_
  clear hK K
  refine WP.ret ?_
  exact Ends.pure (.inr rfl) rfl (Le.of_eq (by first | (simp (decide := true) only [St.get, lk, W, ruleAt, ruleErrB, badSc, hg0, hnf0, q1, ↓reduceIte]; done) | (simp [St.get, lk, W, bne, ruleAt, ruleErrB, badSc, hg0, hnf0, q1]; done) | (simp_all [St.get, lk, W, LN, bne, ruleAt, ruleErrB, badSc]; done) | (simp_all [St.get, lk, W, LN, bne, ruleAt, ruleErrB, badSc]; intros; first | omega | (rw [Bool.eq_iff_iff]; simp; try omega)))) (by simp)
 ·
  simp only [Bool.not_eq_true', Bool.not_eq_false'] at q1
  refine WP.skip ?_
  show WP _ _ _ _ _ _
  refine WP.seq ?_
  refine WP.sr [0, 1, 5, 6] (by kernel_rfl) fun K hK => ?_
  simp (decide := true) only [W, Pr_prog, hg0, hnf0, q1, ↓reduceIte, Int.reduceToNat]
  refine hK _ _ ?_
  clear hK K
  refine WP.block ?_
  refine WP.lp [0, 1, 5] (X := {j : Nat // j ≤ i ∧ ((l.take i).any fun q => q.name == l[i].name) = ((l.take i).drop j).any (fun q => q.name == l[i].name)}) (fun x => match x with | ⟨(j), _⟩ => [(6, .int .i64 j)]) (fun x => match x with | ⟨(j), _⟩ => [(0, .box 36 [.str l[i].name, .bool l[i].deny, .slice 3 l[i].nc (l[i].conds.map Cond.cs) none, .slice 1 l[i].ns (l[i].scopes.map fun x => [.str x]) none, .int .i64 l[i].lvl, .int .i64 l[i].age])]) (fun x => match x with | ⟨(j), _⟩ => i - j) (by simp (decide := true) only [W, ↓reduceIte, Int.reduceToNat]; rfl) ?_ ⟨(0), ⟨Nat.zero_le _, by rw [List.drop_zero]⟩⟩ ?_
  rotate_left
  · exact Weak.store (by simp [St.get, lk, W, Le.refl, hg0, hnf0, q1]) (by simp [lk, W, hg0, hnf0, q1]) (by simp [lk, W]) (by simp [BClo, lk]) (by simp [lk])
  rintro ⟨j, hj, hJ⟩
  dsimp only
  simp only [List.cons_append, List.nil_append]
  refine WP.seq ?_
  refine WP.sr [0, 1, 5, 6, 18] (by kernel_rfl) fun K hK => ?_
  simp (decide := true) only [W, Pr_prog, hg0, hnf0, q1, ↓reduceIte, Int.reduceToNat]
  refine hK _ _ ?_
  clear hK K
  refine WP.cond (b := _) rfl (fun q2 => ?_) (fun q2 => ?_)
  ·
   have hjl : j < (l.take i).length := by simp at q2 ⊢; omega
   have hjk : j < i := by simp at hjl; omega
   have hgj : (l.map Rule.cs)[j]? = some [.str l[j].name, .bool l[j].deny, .slice 3 l[j].nc (l[j].conds.map Cond.cs) none, .slice 1 l[j].ns (l[j].scopes.map fun x => [.str x]) none, .int .i64 l[j].lvl, .int .i64 l[j].age] := getM (by omega)
   rw [dropE hjl] at hJ
   simp only [List.any_cons, List.getElem_take] at hJ
   refine WP.skip ?_
   show WP _ _ _ _ _ _
   refine WP.seq ?_
   refine WP.block ?_
   refine WP.sd [0, 1, 5, 6, 28] (by kernel_rfl) (by kernel_rfl) fun K hK => ?_
   simp (decide := true) only [W, Pr_prog, t_elemD_22, t_fldD_36_0, t_szD_9, t_aggD_9, hg0, hnf0, q1, q2, hgj, ↓reduceIte, Int.reduceToNat]
   refine hK _ _ (by kernel_rfl) ?_
   clear hK K
   refine WP.cond (b := _) rfl (fun q3 => ?_) (fun q3 => ?_)
   ·
    refine WP.sr [4] (by kernel_rfl) fun K hK => ?_
    simp (decide := true) only [W, Pr_prog, hg0, hnf0, q1, q2, hgj, q3, ↓reduceIte, Int.reduceToNat]
    refine hK _ _ ?_
    clear hK K
    refine WP.ret ?_
    exact Ends.pure (.inr rfl) rfl (Le.of_eq (by first | (simp (decide := true) only [St.get, lk, W, ruleAt, ruleErrB, badSc, hg0, hnf0, q1, q2, hgj, q3, hJ, ↓reduceIte]; done) | (simp [St.get, lk, W, bne, ruleAt, ruleErrB, badSc, hg0, hnf0, q1, q2, hgj, q3, hJ]; done) | (simp_all [St.get, lk, W, LN, bne, ruleAt, ruleErrB, badSc]; done) | (simp_all [St.get, lk, W, LN, bne, ruleAt, ruleErrB, badSc]; intros; first | omega | (rw [Bool.eq_iff_iff]; simp; try omega)))) (by simp)
   ·
    refine WP.skip ?_
    show WP _ _ _ _ _ _
    refine WP.region (by kernel_rfl) fun K hK => ?_
    simp (decide := true) only [W, Pr_prog, hg0, hnf0, q1, q2, hgj, q3, ↓reduceIte, Int.reduceToNat]
    refine hK _ _ ?_
    clear hK K
    show ∃ y, _ ∧ Weak _ _ _
    refine ⟨⟨j + 1, ?_⟩, ?_, ?_⟩
    · exact ⟨by omega, by first | (simpa [hg0, hnf0, q1, q2, hgj, q3] using hJ) | (simp_all; done)⟩
    · dsimp only; omega
    · exact Weak.store (by simp [St.get, lk, W, Le.refl, hg0, hnf0, q1, q2, hgj, q3, wrapS hjk (show i ≤ 140737488355328 by omega)]) (by simp [lk, W, hg0, hnf0, q1, q2, hgj, q3, wrapS hjk (show i ≤ 140737488355328 by omega)]) (by simp [lk, W]) (by simp [BClo, lk]) (by simp [lk])
  ·
   have hjg : (l.take i).length ≤ j := by simp at q2 ⊢; omega
   rw [dropN hjg] at hJ
   simp only [List.any_nil] at hJ
   refine WP.exit ?_
   show WP _ _ _ _ _ _
   refine WP.seq ?_
   refine WP.sr [5, 32] (by kernel_rfl) fun K hK => ?_
   simp (decide := true) only [W, Pr_prog, t_fldD_36_2, t_szD_33, t_aggD_33, t_isStr_33, t_isSliceT_33, hg0, hnf0, q1, q2, ↓reduceIte, Int.reduceToNat]
   refine hK _ _ ?_
   clear hK K
   refine WP.cond (b := _) rfl (fun q4 => ?_) (fun q4 => ?_)
   ·
    refine WP.sr [4] (by kernel_rfl) fun K hK => ?_
    simp (decide := true) only [W, Pr_prog, hg0, hnf0, q1, q2, q4, ↓reduceIte, Int.reduceToNat]
    refine hK _ _ ?_
    clear hK K
    refine WP.ret ?_
    exact Ends.pure (.inr rfl) rfl (Le.of_eq (by first | (simp (decide := true) only [St.get, lk, W, ruleAt, ruleErrB, badSc, hg0, hnf0, q1, q2, q4, hJ, ↓reduceIte]; done) | (simp [St.get, lk, W, bne, ruleAt, ruleErrB, badSc, hg0, hnf0, q1, q2, q4, hJ]; done) | (simp_all [St.get, lk, W, LN, bne, ruleAt, ruleErrB, badSc]; done) | (simp_all [St.get, lk, W, LN, bne, ruleAt, ruleErrB, badSc]; intros; first | omega | (rw [Bool.eq_iff_iff]; simp; try omega)))) (by simp)
   ·
    refine WP.skip ?_
    show WP _ _ _ _ _ _
    refine WP.seq ?_
    refine WP.sr [5, 7] (by kernel_rfl) fun K hK => ?_
    simp (decide := true) only [W, Pr_prog, hg0, hnf0, q1, q2, q4, ↓reduceIte, Int.reduceToNat]
    refine hK _ _ ?_
    clear hK K
    refine WP.block ?_
    refine WP.lp [5] (X := {k : Nat // k ≤ l[i].conds.length ∧ (l[i].conds.any fun c => !possB c) = (l[i].conds.drop k).any (fun c => !possB c)}) (fun x => match x with | ⟨(k), _⟩ => [(7, .int .i64 k)]) (fun x => match x with | ⟨(k), _⟩ => [(0, .box 36 [.str l[i].name, .bool l[i].deny, .slice 3 l[i].nc (l[i].conds.map Cond.cs) none, .slice 1 l[i].ns (l[i].scopes.map fun x => [.str x]) none, .int .i64 l[i].lvl, .int .i64 l[i].age])]) (fun x => match x with | ⟨(k), _⟩ => l[i].conds.length - k) (by simp (decide := true) only [W, ↓reduceIte, Int.reduceToNat]; rfl) ?_ ⟨(0), ⟨Nat.zero_le _, by rw [List.drop_zero]⟩⟩ ?_
    rotate_left
    · exact Weak.store (by simp [St.get, lk, W, Le.refl, hg0, hnf0, q1, q2, q4]) (by simp [lk, W, hg0, hnf0, q1, q2, q4]) (by simp [lk, W]) (by simp [BClo, lk]) (by simp [lk])
    rintro ⟨k, hk, hC⟩
    dsimp only
    simp only [List.cons_append, List.nil_append]
    refine WP.seq ?_
    refine WP.sr [5, 7, 37] (by kernel_rfl) fun K hK => ?_
    simp (decide := true) only [W, Pr_prog, t_fldD_36_2, t_szD_33, t_aggD_33, t_isStr_33, t_isSliceT_33, hg0, hnf0, q1, q2, q4, hk, ↓reduceIte, Int.reduceToNat]
    refine hK _ _ ?_
    clear hK K
    refine WP.cond (b := _) rfl (fun q5 => ?_) (fun q5 => ?_)
    ·
     have hlt := lt_of_q q5
     have hg : (l[i].conds.map Cond.cs)[k]? = some [.str l[i].conds[k].f, .str l[i].conds[k].op, .str l[i].conds[k].v] := getM hlt
     have hnf := nl_false hp.1.2.1 hlt
     rw [dropE hlt] at hC
     simp only [List.any_cons] at hC
     have hp1 := hp.1.1
     refine WP.skip ?_
     show WP _ _ _ _ _ _
     refine WP.seq ?_
     refine WP.block ?_
     refine WP.sr [5, 7, 46] (by kernel_rfl) fun K hK => ?_
     simp (decide := true) only [W, Pr_prog, t_fldD_36_2, t_szD_33, t_aggD_33, t_elemD_33, t_szD_43, t_aggD_43, hg0, hnf0, q1, q2, q4, hk, q5, hg, hnf, ↓reduceIte, Int.reduceToNat]
     refine CallK.pure (c_r_possible l[i].conds[k] (hp.2.2.1 _ (List.getElem_mem hlt))) rfl rfl (by simp [-List.map_take]) ?_
     simp (decide := true) only [W, Pr_prog, hg0, hnf0, q1, q2, q4, hk, q5, hg, hnf, ↓reduceIte, Int.reduceToNat]
     refine hK _ _ ?_
     clear hK K
     refine WP.cond (b := _) rfl (fun q6 => ?_) (fun q6 => ?_)
     ·
      simp only [Bool.not_eq_true', Bool.not_eq_false'] at q6
      refine WP.sr [4] (by kernel_rfl) fun K hK => ?_
      simp (decide := true) only [W, Pr_prog, hg0, hnf0, q1, q2, q4, hk, q5, hg, hnf, q6, ↓reduceIte, Int.reduceToNat]
      refine hK _ _ ?_
      clear hK K
      refine WP.ret ?_
      exact Ends.pure (.inr rfl) rfl (Le.of_eq (by first | (simp (decide := true) only [St.get, lk, W, ruleAt, ruleErrB, badSc, hg0, hnf0, q1, q2, q4, hk, q5, hg, hnf, q6, hC, hJ, ↓reduceIte]; done) | (simp [St.get, lk, W, bne, ruleAt, ruleErrB, badSc, hg0, hnf0, q1, q2, q4, hk, q5, hg, hnf, q6, hC, hJ]; done) | (simp_all [St.get, lk, W, LN, bne, ruleAt, ruleErrB, badSc]; done) | (simp_all [St.get, lk, W, LN, bne, ruleAt, ruleErrB, badSc]; intros; first | omega | (rw [Bool.eq_iff_iff]; simp; try omega)))) (by simp)
     ·
      simp only [Bool.not_eq_true', Bool.not_eq_false'] at q6
      refine WP.skip ?_
      show WP _ _ _ _ _ _
      refine WP.region (by kernel_rfl) fun K hK => ?_
      simp (decide := true) only [W, Pr_prog, hg0, hnf0, q1, q2, q4, hk, q5, hg, hnf, q6, ↓reduceIte, Int.reduceToNat]
      refine hK _ _ ?_
      clear hK K
      show ∃ y, _ ∧ Weak _ _ _
      refine ⟨⟨k + 1, ?_⟩, ?_, ?_⟩
      · exact ⟨by omega, by first | (simpa [hg0, hnf0, q1, q2, q4, hk, q5, hg, hnf, q6] using hC) | (simp_all; done)⟩
      · dsimp only; omega
      · exact Weak.store (by simp [St.get, lk, W, Le.refl, hg0, hnf0, q1, q2, q4, hk, q5, hg, hnf, q6, wrapS hlt (show l[i].conds.length ≤ 140737488355328 by omega)]) (by simp [lk, W, hg0, hnf0, q1, q2, q4, hk, q5, hg, hnf, q6, wrapS hlt (show l[i].conds.length ≤ 140737488355328 by omega)]) (by simp [lk, W]) (by simp [BClo, lk]) (by simp [lk])
    ·
     have hge := ge_of_q q5
     rw [dropN hge] at hC
     simp only [List.any_nil] at hC
     refine WP.exit ?_
     show WP _ _ _ _ _ _
     refine WP.seq ?_
     refine WP.sr [5, 48] (by kernel_rfl) fun K hK => ?_
     simp (decide := true) only [W, Pr_prog, t_fldD_36_1, t_szD_4, t_aggD_4, hg0, hnf0, q1, q2, q4, hk, q5, ↓reduceIte, Int.reduceToNat]
     refine hK _ _ ?_
     clear hK K
     refine WP.cond (b := _) rfl (fun q7 => ?_) (fun q7 => ?_)
     ·
      refine WP.seq ?_
      refine WP.sr [62] (by kernel_rfl) fun K hK => ?_
      refine runOps.take 5 fun J hJ => ?_
      simp (decide := true) only [W, Pr_prog, t_fldD_36_3, t_szD_34, t_aggD_34, t_isStr_34, t_isSliceT_34, hg0, hnf0, q1, q2, q4, hk, q5, q7, ↓reduceIte, Int.reduceToNat]
      refine hJ _ _ ?_
      clear hJ J
      refine runOps.part 53 rfl (fun q8 => ?_) (fun q8 => ?_)
      ·
       simp (decide := true) only [W, Pr_prog, t_fldD_36_4, t_szD_3, t_aggD_3, t_fldD_36_5, hg0, hnf0, q1, q2, q4, hk, q5, q7, q8, ↓reduceIte, Int.reduceToNat]
       refine hK _ _ ?_
       clear hK K
       refine WP.cond (b := true) (by first | rfl | simp [W, hg0, hnf0, q1, q2, q4, hk, q5, q7, q8]) (fun _ => ?_) nofun
       refine WP.sr [4] (by kernel_rfl) fun K hK => ?_
       simp (decide := true) only [W, Pr_prog, hg0, hnf0, q1, q2, q4, hk, q5, q7, q8, ↓reduceIte, Int.reduceToNat]
       refine hK _ _ ?_
       clear hK K
       refine WP.ret ?_
       exact Ends.pure (.inr rfl) rfl (Le.of_eq (by first | (simp (decide := true) only [St.get, lk, W, ruleAt, ruleErrB, badSc, hg0, hnf0, q1, q2, q4, hk, q5, q7, q8, hC, hJ, ↓reduceIte]; done) | (simp [St.get, lk, W, bne, ruleAt, ruleErrB, badSc, hg0, hnf0, q1, q2, q4, hk, q5, q7, q8, hC, hJ]; done) | (simp_all [St.get, lk, W, LN, bne, ruleAt, ruleErrB, badSc]; done) | (simp_all [St.get, lk, W, LN, bne, ruleAt, ruleErrB, badSc]; intros; first | omega | (rw [Bool.eq_iff_iff]; simp; try omega)))) (by simp)
      ·
       refine runOps.take 5 fun J hJ => ?_
       simp (decide := true) only [W, Pr_prog, t_fldD_36_4, t_szD_3, t_aggD_3, hg0, hnf0, q1, q2, q4, hk, q5, q7, q8, ↓reduceIte, Int.reduceToNat]
       refine hJ _ _ ?_
       clear hJ J
       refine runOps.part 58 rfl (fun q9 => ?_) (fun q9 => ?_)
       ·
        simp (decide := true) only [W, Pr_prog, t_fldD_36_5, t_szD_3, t_aggD_3, hg0, hnf0, q1, q2, q4, hk, q5, q7, q8, q9, ↓reduceIte, Int.reduceToNat]
        refine hK _ _ ?_
        clear hK K
        refine WP.cond (b := true) (by first | rfl | simp [W, hg0, hnf0, q1, q2, q4, hk, q5, q7, q8, q9]) (fun _ => ?_) nofun
        refine WP.sr [4] (by kernel_rfl) fun K hK => ?_
        simp (decide := true) only [W, Pr_prog, hg0, hnf0, q1, q2, q4, hk, q5, q7, q8, q9, ↓reduceIte, Int.reduceToNat]
        refine hK _ _ ?_
        clear hK K
        refine WP.ret ?_
        exact Ends.pure (.inr rfl) rfl (Le.of_eq (by first | (simp (decide := true) only [St.get, lk, W, ruleAt, ruleErrB, badSc, hg0, hnf0, q1, q2, q4, hk, q5, q7, q8, q9, hC, hJ, ↓reduceIte]; done) | (simp [St.get, lk, W, bne, ruleAt, ruleErrB, badSc, hg0, hnf0, q1, q2, q4, hk, q5, q7, q8, q9, hC, hJ]; done) | (simp_all [St.get, lk, W, LN, bne, ruleAt, ruleErrB, badSc]; done) | (simp_all [St.get, lk, W, LN, bne, ruleAt, ruleErrB, badSc]; intros; first | omega | (rw [Bool.eq_iff_iff]; simp; try omega)))) (by simp)
       ·
        simp (decide := true) only [W, Pr_prog, t_fldD_36_5, t_szD_3, t_aggD_3, hg0, hnf0, q1, q2, q4, hk, q5, q7, q8, q9, ↓reduceIte, Int.reduceToNat]
        refine hK _ _ ?_
        clear hK K
        refine WP.cond (b := _) rfl (fun q10 => ?_) (fun q10 => ?_)
        ·
         refine WP.sr [4] (by kernel_rfl) fun K hK => ?_
         simp (decide := true) only [W, Pr_prog, hg0, hnf0, q1, q2, q4, hk, q5, q7, q8, q9, q10, ↓reduceIte, Int.reduceToNat]
         refine hK _ _ ?_
         clear hK K
         refine WP.ret ?_
         exact Ends.pure (.inr rfl) rfl (Le.of_eq (by first | (simp (decide := true) only [St.get, lk, W, ruleAt, ruleErrB, badSc, hg0, hnf0, q1, q2, q4, hk, q5, q7, q8, q9, q10, hC, hJ, ↓reduceIte]; done) | (simp [St.get, lk, W, bne, ruleAt, ruleErrB, badSc, hg0, hnf0, q1, q2, q4, hk, q5, q7, q8, q9, q10, hC, hJ]; done) | (simp_all [St.get, lk, W, LN, bne, ruleAt, ruleErrB, badSc]; done) | (simp_all [St.get, lk, W, LN, bne, ruleAt, ruleErrB, badSc]; intros; first | omega | (rw [Bool.eq_iff_iff]; simp; try omega)))) (by simp)
        ·
         refine WP.skip ?_
         show WP _ _ _ _ _ _
         refine WP.sr [4] (by kernel_rfl) fun K hK => ?_
         simp (decide := true) only [W, Pr_prog, hg0, hnf0, q1, q2, q4, hk, q5, q7, q8, q9, q10, ↓reduceIte, Int.reduceToNat]
         refine hK _ _ ?_
         clear hK K
         refine WP.ret ?_
         exact Ends.pure (.inr rfl) rfl (Le.of_eq (by first | (simp (decide := true) only [St.get, lk, W, ruleAt, ruleErrB, badSc, hg0, hnf0, q1, q2, q4, hk, q5, q7, q8, q9, q10, hC, hJ, ↓reduceIte]; done) | (simp [St.get, lk, W, bne, ruleAt, ruleErrB, badSc, hg0, hnf0, q1, q2, q4, hk, q5, q7, q8, q9, q10, hC, hJ]; done) | (simp_all [St.get, lk, W, LN, bne, ruleAt, ruleErrB, badSc]; done) | (simp_all [St.get, lk, W, LN, bne, ruleAt, ruleErrB, badSc]; intros; first | omega | (rw [Bool.eq_iff_iff]; simp; try omega)))) (by simp)
     ·
      refine WP.skip ?_
      show WP _ _ _ _ _ _
      refine WP.seq ?_
      refine WP.sr [5, 66] (by kernel_rfl) fun K hK => ?_
      simp (decide := true) only [W, Pr_prog, t_fldD_36_3, t_szD_34, t_aggD_34, t_isStr_34, t_isSliceT_34, hg0, hnf0, q1, q2, q4, hk, q5, q7, ↓reduceIte, Int.reduceToNat]
      refine hK _ _ ?_
      clear hK K
      refine WP.cond (b := _) rfl (fun q11 => ?_) (fun q11 => ?_)
      ·
       refine WP.sr [4] (by kernel_rfl) fun K hK => ?_
       simp (decide := true) only [W, Pr_prog, hg0, hnf0, q1, q2, q4, hk, q5, q7, q11, ↓reduceIte, Int.reduceToNat]
       refine hK _ _ ?_
       clear hK K
       refine WP.ret ?_
       exact Ends.pure (.inr rfl) rfl (Le.of_eq (by first | (simp (decide := true) only [St.get, lk, W, ruleAt, ruleErrB, badSc, hg0, hnf0, q1, q2, q4, hk, q5, q7, q11, hC, hJ, ↓reduceIte]; done) | (simp [St.get, lk, W, bne, ruleAt, ruleErrB, badSc, hg0, hnf0, q1, q2, q4, hk, q5, q7, q11, hC, hJ]; done) | (simp_all [St.get, lk, W, LN, bne, ruleAt, ruleErrB, badSc]; done) | (simp_all [St.get, lk, W, LN, bne, ruleAt, ruleErrB, badSc]; intros; first | omega | (rw [Bool.eq_iff_iff]; simp; try omega)))) (by simp)
      ·
       refine WP.skip ?_
       show WP _ _ _ _ _ _
       refine WP.seq ?_
       refine WP.sr [5, 80] (by kernel_rfl) fun K hK => ?_
       simp (decide := true) only [W, Pr_prog, t_fldD_36_3, t_szD_34, t_aggD_34, hg0, hnf0, q1, q2, q4, hk, q5, q7, q11, ↓reduceIte, Int.reduceToNat]
       refine CallK.pure (c_r_sc_check l[i].scopes l[i].ns (by have := hp.1.2.2.1; omega) hp.1.2.2.2 (fun x hx => by have := hp.2.2.2 x hx; omega)) rfl rfl (by simp [-List.map_take]) ?_
       refine runOps.take 2 fun J hJ => ?_
       simp (decide := true) only [W, Pr_prog, hg0, hnf0, q1, q2, q4, hk, q5, q7, q11, ↓reduceIte, Int.reduceToNat]
       refine hJ _ _ ?_
       clear hJ J
       refine runOps.part 71 rfl (fun q12 => ?_) (fun q12 => ?_)
       ·
        simp (decide := true) only [W, Pr_prog, t_fldD_36_3, t_szD_34, t_aggD_34, hg0, hnf0, q1, q2, q4, hk, q5, q7, q11, q12, ↓reduceIte, Int.reduceToNat]
        refine hK _ _ ?_
        clear hK K
        refine WP.cond (b := true) (by first | rfl | simp [W, hg0, hnf0, q1, q2, q4, hk, q5, q7, q11, q12]) (fun _ => ?_) nofun
        refine WP.sr [4] (by kernel_rfl) fun K hK => ?_
        simp (decide := true) only [W, Pr_prog, hg0, hnf0, q1, q2, q4, hk, q5, q7, q11, q12, ↓reduceIte, Int.reduceToNat]
        refine hK _ _ ?_
        clear hK K
        refine WP.ret ?_
        exact Ends.pure (.inr rfl) rfl (Le.of_eq (by first | (simp (decide := true) only [St.get, lk, W, ruleAt, ruleErrB, badSc, hg0, hnf0, q1, q2, q4, hk, q5, q7, q11, q12, hC, hJ, ↓reduceIte]; done) | (simp [St.get, lk, W, bne, ruleAt, ruleErrB, badSc, hg0, hnf0, q1, q2, q4, hk, q5, q7, q11, q12, hC, hJ]; done) | (simp_all [St.get, lk, W, LN, bne, ruleAt, ruleErrB, badSc]; done) | (simp_all [St.get, lk, W, LN, bne, ruleAt, ruleErrB, badSc]; intros; first | omega | (rw [Bool.eq_iff_iff]; simp; try omega)))) (by simp)
       ·
        simp (decide := true) only [W, Pr_prog, t_fldD_36_3, t_szD_34, t_aggD_34, hg0, hnf0, q1, q2, q4, hk, q5, q7, q11, q12, ↓reduceIte, Int.reduceToNat]
        refine CallK.pure (c_r_contains l[i].scopes l[i].ns _ (by have := hp.1.2.2.1; omega) hp.1.2.2.2) rfl rfl (by simp [-List.map_take]) ?_
        refine runOps.take 2 fun J hJ => ?_
        simp (decide := true) only [W, Pr_prog, hg0, hnf0, q1, q2, q4, hk, q5, q7, q11, q12, ↓reduceIte, Int.reduceToNat]
        refine hJ _ _ ?_
        clear hJ J
        refine runOps.part 76 rfl (fun q13 => ?_) (fun q13 => ?_)
        ·
         simp (decide := true) only [W, Pr_prog, t_fldD_36_3, t_szD_34, t_aggD_34, hg0, hnf0, q1, q2, q4, hk, q5, q7, q11, q12, q13, ↓reduceIte, Int.reduceToNat]
         refine hK _ _ ?_
         clear hK K
         refine WP.cond (b := true) (by first | rfl | simp [W, hg0, hnf0, q1, q2, q4, hk, q5, q7, q11, q12, q13]) (fun _ => ?_) nofun
         refine WP.sr [4] (by kernel_rfl) fun K hK => ?_
         simp (decide := true) only [W, Pr_prog, hg0, hnf0, q1, q2, q4, hk, q5, q7, q11, q12, q13, ↓reduceIte, Int.reduceToNat]
         refine hK _ _ ?_
         clear hK K
         refine WP.ret ?_
         exact Ends.pure (.inr rfl) rfl (Le.of_eq (by first | (simp (decide := true) only [St.get, lk, W, ruleAt, ruleErrB, badSc, hg0, hnf0, q1, q2, q4, hk, q5, q7, q11, q12, q13, hC, hJ, ↓reduceIte]; done) | (simp [St.get, lk, W, bne, ruleAt, ruleErrB, badSc, hg0, hnf0, q1, q2, q4, hk, q5, q7, q11, q12, q13, hC, hJ]; done) | (simp_all [St.get, lk, W, LN, bne, ruleAt, ruleErrB, badSc]; done) | (simp_all [St.get, lk, W, LN, bne, ruleAt, ruleErrB, badSc]; intros; first | omega | (rw [Bool.eq_iff_iff]; simp; try omega)))) (by simp)
        ·
         simp (decide := true) only [W, Pr_prog, t_fldD_36_3, t_szD_34, t_aggD_34, hg0, hnf0, q1, q2, q4, hk, q5, q7, q11, q12, q13, ↓reduceIte, Int.reduceToNat]
         refine CallK.pure (c_r_contains l[i].scopes l[i].ns _ (by have := hp.1.2.2.1; omega) hp.1.2.2.2) rfl rfl (by simp [-List.map_take]) ?_
         simp (decide := true) only [W, Pr_prog, hg0, hnf0, q1, q2, q4, hk, q5, q7, q11, q12, q13, ↓reduceIte, Int.reduceToNat]
         refine hK _ _ ?_
         clear hK K
         refine WP.cond (b := _) rfl (fun q14 => ?_) (fun q14 => ?_)
         ·
          refine WP.sr [4] (by kernel_rfl) fun K hK => ?_
          simp (decide := true) only [W, Pr_prog, hg0, hnf0, q1, q2, q4, hk, q5, q7, q11, q12, q13, q14, ↓reduceIte, Int.reduceToNat]
          refine hK _ _ ?_
          clear hK K
          refine WP.ret ?_
          exact Ends.pure (.inr rfl) rfl (Le.of_eq (by first | (simp (decide := true) only [St.get, lk, W, ruleAt, ruleErrB, badSc, hg0, hnf0, q1, q2, q4, hk, q5, q7, q11, q12, q13, q14, hC, hJ, ↓reduceIte]; done) | (simp [St.get, lk, W, bne, ruleAt, ruleErrB, badSc, hg0, hnf0, q1, q2, q4, hk, q5, q7, q11, q12, q13, q14, hC, hJ]; done) | (simp_all [St.get, lk, W, LN, bne, ruleAt, ruleErrB, badSc]; done) | (simp_all [St.get, lk, W, LN, bne, ruleAt, ruleErrB, badSc]; intros; first | omega | (rw [Bool.eq_iff_iff]; simp; try omega)))) (by simp)
         ·
          refine WP.skip ?_
          show WP _ _ _ _ _ _
          refine WP.seq ?_
          refine WP.sr [93] (by kernel_rfl) fun K hK => ?_
          refine runOps.take 4 fun J hJ => ?_
          simp (decide := true) only [W, Pr_prog, t_fldD_36_4, t_szD_3, t_aggD_3, hg0, hnf0, q1, q2, q4, hk, q5, q7, q11, q12, q13, q14, ↓reduceIte, Int.reduceToNat]
          refine hJ _ _ ?_
          clear hJ J
          refine runOps.part 84 rfl (fun q15 => ?_) (fun q15 => ?_)
          ·
           simp (decide := true) only [W, Pr_prog, t_fldD_36_4, t_szD_3, t_aggD_3, t_fldD_36_5, hg0, hnf0, q1, q2, q4, hk, q5, q7, q11, q12, q13, q14, q15, ↓reduceIte, Int.reduceToNat]
           refine hK _ _ ?_
           clear hK K
           refine WP.cond (b := true) (by first | rfl | simp [W, hg0, hnf0, q1, q2, q4, hk, q5, q7, q11, q12, q13, q14, q15]) (fun _ => ?_) nofun
           refine WP.sr [4] (by kernel_rfl) fun K hK => ?_
           simp (decide := true) only [W, Pr_prog, hg0, hnf0, q1, q2, q4, hk, q5, q7, q11, q12, q13, q14, q15, ↓reduceIte, Int.reduceToNat]
           refine hK _ _ ?_
           clear hK K
           refine WP.ret ?_
           exact Ends.pure (.inr rfl) rfl (Le.of_eq (by first | (simp (decide := true) only [St.get, lk, W, ruleAt, ruleErrB, badSc, hg0, hnf0, q1, q2, q4, hk, q5, q7, q11, q12, q13, q14, q15, hC, hJ, ↓reduceIte]; done) | (simp [St.get, lk, W, bne, ruleAt, ruleErrB, badSc, hg0, hnf0, q1, q2, q4, hk, q5, q7, q11, q12, q13, q14, q15, hC, hJ]; done) | (simp_all [St.get, lk, W, LN, bne, ruleAt, ruleErrB, badSc]; done) | (simp_all [St.get, lk, W, LN, bne, ruleAt, ruleErrB, badSc]; intros; first | omega | (rw [Bool.eq_iff_iff]; simp; try omega)))) (by simp)
          ·
           refine runOps.take 5 fun J hJ => ?_
           simp (decide := true) only [W, Pr_prog, t_fldD_36_4, t_szD_3, t_aggD_3, hg0, hnf0, q1, q2, q4, hk, q5, q7, q11, q12, q13, q14, q15, ↓reduceIte, Int.reduceToNat]
           refine hJ _ _ ?_
           clear hJ J
           refine runOps.part 89 rfl (fun q16 => ?_) (fun q16 => ?_)
           ·
            simp (decide := true) only [W, Pr_prog, t_fldD_36_5, t_szD_3, t_aggD_3, hg0, hnf0, q1, q2, q4, hk, q5, q7, q11, q12, q13, q14, q15, q16, ↓reduceIte, Int.reduceToNat]
            refine hK _ _ ?_
            clear hK K
            refine WP.cond (b := true) (by first | rfl | simp [W, hg0, hnf0, q1, q2, q4, hk, q5, q7, q11, q12, q13, q14, q15, q16]) (fun _ => ?_) nofun
            refine WP.sr [4] (by kernel_rfl) fun K hK => ?_
            simp (decide := true) only [W, Pr_prog, hg0, hnf0, q1, q2, q4, hk, q5, q7, q11, q12, q13, q14, q15, q16, ↓reduceIte, Int.reduceToNat]
            refine hK _ _ ?_
            clear hK K
            refine WP.ret ?_
            exact Ends.pure (.inr rfl) rfl (Le.of_eq (by first | (simp (decide := true) only [St.get, lk, W, ruleAt, ruleErrB, badSc, hg0, hnf0, q1, q2, q4, hk, q5, q7, q11, q12, q13, q14, q15, q16, hC, hJ, ↓reduceIte]; done) | (simp [St.get, lk, W, bne, ruleAt, ruleErrB, badSc, hg0, hnf0, q1, q2, q4, hk, q5, q7, q11, q12, q13, q14, q15, q16, hC, hJ]; done) | (simp_all [St.get, lk, W, LN, bne, ruleAt, ruleErrB, badSc]; done) | (simp_all [St.get, lk, W, LN, bne, ruleAt, ruleErrB, badSc]; intros; first | omega | (rw [Bool.eq_iff_iff]; simp; try omega)))) (by simp)
           ·
            simp (decide := true) only [W, Pr_prog, t_fldD_36_5, t_szD_3, t_aggD_3, hg0, hnf0, q1, q2, q4, hk, q5, q7, q11, q12, q13, q14, q15, q16, ↓reduceIte, Int.reduceToNat]
            refine hK _ _ ?_
            clear hK K
            refine WP.cond (b := _) rfl (fun q17 => ?_) (fun q17 => ?_)
            ·
             refine WP.sr [4] (by kernel_rfl) fun K hK => ?_
             simp (decide := true) only [W, Pr_prog, hg0, hnf0, q1, q2, q4, hk, q5, q7, q11, q12, q13, q14, q15, q16, q17, ↓reduceIte, Int.reduceToNat]
             refine hK _ _ ?_
             clear hK K
             refine WP.ret ?_
             exact Ends.pure (.inr rfl) rfl (Le.of_eq (by first | (simp (decide := true) only [St.get, lk, W, ruleAt, ruleErrB, badSc, hg0, hnf0, q1, q2, q4, hk, q5, q7, q11, q12, q13, q14, q15, q16, q17, hC, hJ, ↓reduceIte]; done) | (simp [St.get, lk, W, bne, ruleAt, ruleErrB, badSc, hg0, hnf0, q1, q2, q4, hk, q5, q7, q11, q12, q13, q14, q15, q16, q17, hC, hJ]; done) | (simp_all [St.get, lk, W, LN, bne, ruleAt, ruleErrB, badSc]; done) | (simp_all [St.get, lk, W, LN, bne, ruleAt, ruleErrB, badSc]; intros; first | omega | (rw [Bool.eq_iff_iff]; simp; try omega)))) (by simp)
            ·
             refine WP.skip ?_
             show WP _ _ _ _ _ _
             refine WP.sr [4] (by kernel_rfl) fun K hK => ?_
             simp (decide := true) only [W, Pr_prog, hg0, hnf0, q1, q2, q4, hk, q5, q7, q11, q12, q13, q14, q15, q16, q17, ↓reduceIte, Int.reduceToNat]
             refine hK _ _ ?_
             clear hK K
             refine WP.ret ?_
             exact Ends.pure (.inr rfl) rfl (Le.of_eq (by first | (simp (decide := true) only [St.get, lk, W, ruleAt, ruleErrB, badSc, hg0, hnf0, q1, q2, q4, hk, q5, q7, q11, q12, q13, q14, q15, q16, q17, hC, hJ, ↓reduceIte]; done) | (simp [St.get, lk, W, bne, ruleAt, ruleErrB, badSc, hg0, hnf0, q1, q2, q4, hk, q5, q7, q11, q12, q13, q14, q15, q16, q17, hC, hJ]; done) | (simp_all [St.get, lk, W, LN, bne, ruleAt, ruleErrB, badSc]; done) | (simp_all [St.get, lk, W, LN, bne, ruleAt, ruleErrB, badSc]; intros; first | omega | (rw [Bool.eq_iff_iff]; simp; try omega)))) (by simp)
theorem c_r_check (l : List Rule) (nl : Bool) (hn : l.length ≤ 1099511627776) (hnl : nl = true → l = []) (hl : ∀ p ∈ l, p.ok) : CallP Pr 16 [.slice 6 nl (l.map Rule.cs) none] (.int .i64 (checkE l)) := by
 refine CallP.of_wp Tryz.func16 rfl (by kernel_rfl) Tryz.ntmps16 (by simp) ?_
 simp only [frameOf, Nat.reduceAdd, Nat.zero_add]
 refine WP.sr [0] (by kernel_rfl) fun K hK => ?_
 simp (decide := true) only [W, Pr_prog, ↓reduceIte, Int.reduceToNat]
 refine hK _ _ ?_
 clear hK K
 refine WP.seq ?_
 refine WP.sr [0, 7] (by kernel_rfl) fun K hK => ?_
 simp (decide := true) only [W, Pr_prog, t_isStr_22, t_isSliceT_22, ↓reduceIte, Int.reduceToNat]
 refine hK _ _ ?_
 clear hK K
 refine WP.cond (b := _) rfl (fun q1 => ?_) (fun q1 => ?_)
 ·
  refine WP.sr [2] (by kernel_rfl) fun K hK => ?_
  simp (decide := true) only [W, Pr_prog, q1, ↓reduceIte, Int.reduceToNat]
  refine hK _ _ ?_
  clear hK K
  refine WP.ret ?_
  exact Ends.pure (.inr rfl) rfl (Le.of_eq (by first | (simp (decide := true) only [St.get, lk, W, checkE, q1, ↓reduceIte]; done) | (simp [St.get, lk, W, bne, checkE, q1]; done) | (simp_all [St.get, lk, W, LN, bne, checkE]; done) | (simp_all [St.get, lk, W, LN, bne, checkE]; intros; first | omega | (rw [Bool.eq_iff_iff]; simp; try omega)))) (by simp)
 ·
  refine WP.skip ?_
  show WP _ _ _ _ _ _
  refine WP.seq ?_
  refine WP.sr [0, 3] (by kernel_rfl) fun K hK => ?_
  simp (decide := true) only [W, Pr_prog, q1, ↓reduceIte, Int.reduceToNat]
  refine hK _ _ ?_
  clear hK K
  refine WP.block ?_
  refine WP.lp [0] (X := {k : Nat // k ≤ l.length ∧ chkL [] l = chkL (l.take k) (l.drop k)}) (fun x => match x with | ⟨(k), _⟩ => [(3, .int .i64 k)]) (fun x => match x with | ⟨(k), _⟩ => []) (fun x => match x with | ⟨(k), _⟩ => l.length - k) (by simp (decide := true) only [W, ↓reduceIte, Int.reduceToNat]; rfl) ?_ ⟨(0), ⟨Nat.zero_le _, by simp⟩⟩ ?_
  rotate_left
  · exact Weak.store (by simp [St.get, lk, W, Le.refl, q1]) (by simp [lk, W, q1]) (by simp [lk, W]) (by simp [BClo, lk]) (by simp [lk])
  rintro ⟨k, hk, hI⟩
  dsimp only
  simp only [List.cons_append, List.nil_append]
  refine WP.seq ?_
  refine WP.sr [0, 3, 11] (by kernel_rfl) fun K hK => ?_
  simp (decide := true) only [W, Pr_prog, t_isStr_22, t_isSliceT_22, q1, hk, ↓reduceIte, Int.reduceToNat]
  refine hK _ _ ?_
  clear hK K
  refine WP.cond (b := _) rfl (fun q2 => ?_) (fun q2 => ?_)
  ·
   have hlt := lt_of_q q2
   have hg : (l.map Rule.cs)[k]? = some [.str l[k].name, .bool l[k].deny, .slice 3 l[k].nc (l[k].conds.map Cond.cs) none, .slice 1 l[k].ns (l[k].scopes.map fun x => [.str x]) none, .int .i64 l[k].lvl, .int .i64 l[k].age] := getM hlt
   have hnf := nl_false hnl hlt
   rw [dropE hlt] at hI
   simp only [chkL] at hI
   refine WP.skip ?_
   show WP _ _ _ _ _ _
   refine WP.seq ?_
   refine WP.block ?_
   refine WP.sr [0, 3, 4] (by kernel_rfl) fun K hK => ?_
   simp (decide := true) only [W, Pr_prog, q1, hk, q2, hg, hnf, ↓reduceIte, Int.reduceToNat]
   refine CallK.pure (c_r_rule l false k hlt hn nofun hl) rfl rfl (by simp [-List.map_take]) ?_
   simp (decide := true) only [W, Pr_prog, q1, hk, q2, hg, hnf, ↓reduceIte, Int.reduceToNat]
   refine hK _ _ ?_
   clear hK K
   refine WP.sr [0, 3, 4, 18] (by kernel_rfl) fun K hK => ?_
   simp (decide := true) only [W, Pr_prog, q1, hk, q2, hg, hnf, ↓reduceIte, Int.reduceToNat]
   refine hK _ _ ?_
   clear hK K
   refine WP.cond (b := _) rfl (fun q3 => ?_) (fun q3 => ?_)
   ·
    refine WP.sr [2] (by kernel_rfl) fun K hK => ?_
    simp (decide := true) only [W, Pr_prog, q1, hk, q2, hg, hnf, q3, ↓reduceIte, Int.reduceToNat]
    refine hK _ _ ?_
    clear hK K
    refine WP.ret ?_
    exact Ends.pure (.inr rfl) rfl (Le.of_eq (by first | (simp (decide := true) only [St.get, lk, W, checkE, q1, hk, q2, hg, hnf, q3, hI, ↓reduceIte]; done) | (simp [St.get, lk, W, bne, checkE, q1, hk, q2, hg, hnf, q3, hI]; done) | (simp_all [St.get, lk, W, LN, bne, checkE]; done) | (simp_all [St.get, lk, W, LN, bne, checkE]; intros; first | omega | (rw [Bool.eq_iff_iff]; simp; try omega)))) (by simp)
   ·
    refine WP.skip ?_
    show WP _ _ _ _ _ _
    refine WP.region (by kernel_rfl) fun K hK => ?_
    simp (decide := true) only [W, Pr_prog, q1, hk, q2, hg, hnf, q3, ↓reduceIte, Int.reduceToNat]
    refine hK _ _ ?_
    clear hK K
    show ∃ y, _ ∧ Weak _ _ _
    refine ⟨⟨k + 1, ?_⟩, ?_, ?_⟩
    · exact ⟨by omega, by first | (simpa [q1, hk, q2, hg, hnf, q3] using hI) | (simp_all; done)⟩
    · dsimp only; omega
    · exact Weak.store (by simp [St.get, lk, W, Le.refl, q1, hk, q2, hg, hnf, q3, wrapS hlt (show l.length ≤ 140737488355328 by omega)]) (by simp [lk, W, q1, hk, q2, hg, hnf, q3, wrapS hlt (show l.length ≤ 140737488355328 by omega)]) (by simp [lk, W]) (by simp [BClo, lk]) (by simp [lk])
  ·
   have hge := ge_of_q q2
   rw [dropN hge] at hI
   simp only [chkL] at hI
   refine WP.exit ?_
   show WP _ _ _ _ _ _
   refine WP.sr [2] (by kernel_rfl) fun K hK => ?_
   simp (decide := true) only [W, Pr_prog, q1, hk, q2, ↓reduceIte, Int.reduceToNat]
   refine hK _ _ ?_
   clear hK K
   refine WP.ret ?_
   exact Ends.pure (.inr rfl) rfl (Le.of_eq (by first | (simp (decide := true) only [St.get, lk, W, checkE, q1, hk, q2, hI, ↓reduceIte]; done) | (simp [St.get, lk, W, bne, checkE, q1, hk, q2, hI]; done) | (simp_all [St.get, lk, W, LN, bne, checkE]; done) | (simp_all [St.get, lk, W, LN, bne, checkE]; intros; first | omega | (rw [Bool.eq_iff_iff]; simp; try omega)))) (by simp)
end Go.Proofs

set_option linter.unusedSimpArgs false
set_option linter.unusedVariables false
namespace Go.Proofs
open Go Go.Id
/-- A rule of moderate size. -/
def Rule.sm (p : Rule) : Prop := p.name.length ≤ 100000 ∧ p.conds.length ≤ 100000 ∧ (∀ c ∈ p.conds, c.f.length ≤ 100000 ∧ c.op.length ≤ 100000 ∧ c.v.length ≤ 100000) ∧ p.scopes.length ≤ 100000 ∧ (∀ s ∈ p.scopes, s.length ≤ 100000) ∧
  (p.nc = true → p.conds = []) ∧ (p.ns = true → p.scopes = []) ∧ (-9223372036854775808 ≤ p.lvl ∧ p.lvl ≤ 9223372036854775807) ∧ (-9223372036854775808 ≤ p.age ∧ p.age ≤ 9223372036854775807)
theorem Rule.sm.ok {p : Rule} (h : p.sm) : p.ok := by
  obtain ⟨h1, h2, h3, h4, h5, h6, h7, _, _⟩ := h
  refine ⟨⟨by omega, h6, by omega, h7⟩, by omega, fun c hc => ?_, fun s hs => ?_⟩
  · have := h3 c hc; exact ⟨by omega, by omega, by omega⟩
  · have := h5 s hs; omega
def headW (p : Rule) : List (List UInt8) := [[114, 117, 108, 101], p.name, if p.deny then [100, 101, 110, 121] else [112, 101, 114, 109, 105, 116]]
def leadW (k : Nat) : List UInt8 := if k = 0 then [105, 102] else [97, 110, 100]
def condsW (k : Nat) : List Cond → List (List UInt8)
  | [] => []
  | c :: t => leadW k :: c.f :: c.op :: escB c.v :: condsW (k + 1) t
def wC (p : Rule) (k : Nat) : List (List UInt8) := headW p ++ condsW 0 (p.conds.take k)
def lineW (p : Rule) : List (List UInt8) :=
  wC p p.conds.length ++ (if decide ((p.scopes.length : Int) > 0) = true then [[115, 99, 111, 112, 101, 115]] ++ p.scopes else []) ++ (if (p.lvl != 0) = true then [[108, 101, 118, 101, 108], Lib.itoa p.lvl] else []) ++ (if (p.age != 0) = true then [[97, 103, 101], Lib.itoa p.age] else [])
def lineB (p : Rule) : List UInt8 := Lib.join (lineW p) [32]
def textB (l : List Rule) : List UInt8 := l.flatMap fun p => lineB p ++ [10]
theorem condsW_snoc : ∀ (l : List Cond) (k : Nat) (c : Cond), condsW k (l ++ [c]) = condsW k l ++ [leadW (k + l.length), c.f, c.op, escB c.v]
  | [], k, c => by simp [condsW]
  | a :: l, k, c => by
    simp only [List.cons_append, condsW, condsW_snoc l (k + 1) c, List.length_cons]
    have : k + 1 + l.length = k + (l.length + 1) := by omega
    rw [this]
theorem wC_0 (p : Rule) : wC p 0 = headW p := by simp [wC, condsW]
theorem wC_next (p : Rule) (k : Nat) (h : k < p.conds.length) : wC p (k + 1) = wC p k ++ [leadW k, p.conds[k].f, p.conds[k].op, escB p.conds[k].v] := by
  unfold wC
  rw [takeS h, condsW_snoc, List.append_assoc]
  simp only [List.length_take, Nat.zero_add]
  rw [Nat.min_eq_left (by omega)]
theorem condsW_len : ∀ (l : List Cond) (k : Nat), (condsW k l).length = 4 * l.length
  | [], k => rfl
  | c :: l, k => by simp only [condsW, List.length_cons, condsW_len l (k + 1)]; omega
theorem wC_len (p : Rule) (k : Nat) (h : k ≤ p.conds.length) : (wC p k).length = 3 + 4 * k := by
  unfold wC
  rw [List.length_append, condsW_len, List.length_take, Nat.min_eq_left h]; rfl
theorem leadW_len (k : Nat) : (leadW k).length ≤ 3 := by unfold leadW; split <;> simp
theorem condsW_mem : ∀ (l : List Cond) (k : Nat), (∀ c ∈ l, c.f.length ≤ 100000 ∧ c.op.length ≤ 100000 ∧ c.v.length ≤ 100000) → ∀ x ∈ condsW k l, x.length ≤ 300000
  | [], k, _, x, hx => by simp [condsW] at hx
  | c :: l, k, h, x, hx => by
    have hc := h c (by simp)
    have hl := leadW_len k
    have he := escB_len c.v
    simp only [condsW, List.mem_cons] at hx
    rcases hx with rfl | rfl | rfl | rfl | hx
    · omega
    · omega
    · omega
    · omega
    · exact condsW_mem l (k + 1) (fun c hc => h c (by simp [hc])) x hx
theorem headW_mem (p : Rule) (h : p.sm) : ∀ x ∈ headW p, x.length ≤ 300000 := by
  intro x hx
  have h1 := h.1
  simp only [headW, List.mem_cons, List.mem_nil_iff, or_false] at hx
  rcases hx with rfl | rfl | rfl
  · decide
  · omega
  · split <;> decide
theorem wC_mem (p : Rule) (h : p.sm) (k : Nat) : ∀ x ∈ wC p k, x.length ≤ 300000 := by
  intro x hx
  rcases List.mem_append.1 hx with hx | hx
  · exact headW_mem p h x hx
  · exact condsW_mem _ 0 (fun c hc => h.2.2.1 c (List.mem_of_mem_take hc)) x hx
theorem lineW_mem (p : Rule) (h : p.sm) : ∀ x ∈ lineW p, x.length ≤ 300000 := by
  intro x hx
  have hsm := h
  obtain ⟨_, _, _, _, h5, _, _, h8, h9⟩ := h
  have i1 := Lib.itoa_length_le p.lvl h8.1 h8.2
  have i2 := Lib.itoa_length_le p.age h9.1 h9.2
  simp only [lineW, List.mem_append] at hx
  rcases hx with ((hx | hx) | hx) | hx
  · exact wC_mem p hsm _ x hx
  · split at hx
    · simp only [List.mem_append, List.mem_singleton] at hx
      rcases hx with rfl | hx
      · decide
      · have := h5 x hx; omega
    · cases hx
  · split at hx
    · simp only [List.mem_cons, List.mem_nil_iff, or_false] at hx
      rcases hx with rfl | rfl
      · decide
      · omega
    · cases hx
  · split at hx
    · simp only [List.mem_cons, List.mem_nil_iff, or_false] at hx
      rcases hx with rfl | rfl
      · decide
      · omega
    · cases hx
theorem lens_le (B : Nat) : ∀ ls : List (List UInt8), (∀ x ∈ ls, x.length ≤ B) → Lib.lens ls ≤ ls.length * B
  | [], _ => by simp [Lib.lens]
  | x :: ls, h => by
    have ih := lens_le B ls (fun y hy => h y (by simp [hy]))
    have hx := h x (by simp)
    simp only [Lib.lens, List.map_cons, List.sum_cons, List.length_cons, Nat.succ_mul] at ih ⊢
    omega
theorem join_le (B : Nat) (ls : List (List UInt8)) (h : ∀ x ∈ ls, x.length ≤ B) : (Lib.join ls [32]).length ≤ ls.length * B + ls.length := by
  cases ls with
  | nil => simp [Lib.join_nil]
  | cons x r =>
    rw [Lib.join_length]
    have := lens_le B (x :: r) h
    simp only [List.length_cons, List.length_nil] at this ⊢
    omega
theorem lineW_len (p : Rule) (h : p.sm) : (lineW p).length ≤ 500012 := by
  have h2 := h.2.1; have h4 := h.2.2.2.1
  have := wC_len p p.conds.length (Nat.le_refl _)
  simp only [lineW, List.length_append, this]
  split <;> split <;> split <;> simp only [List.length_append, List.length_cons, List.length_nil] <;> omega
theorem lineB_len (p : Rule) (h : p.sm) : (lineB p).length ≤ 151000000000 := by
  have h1 := join_le 300000 (lineW p) (lineW_mem p h)
  have h2 := lineW_len p h
  unfold lineB
  have : (lineW p).length * 300000 ≤ 500012 * 300000 := Nat.mul_le_mul_right _ h2
  omega
theorem joinC_len (p : Rule) (h : p.sm) (k : Nat) (hk : k ≤ p.conds.length) : (Lib.join (wC p k) [32]).length ≤ 151000000000 := by
  have h1 := join_le 300000 (wC p k) (wC_mem p h k)
  have h2 := wC_len p k hk
  have h3 := h.2.1
  have : (wC p k).length * 300000 ≤ 400003 * 300000 := Nat.mul_le_mul_right _ (by omega)
  omega
theorem join_snoc (ls : List (List UInt8)) (x : List UInt8) (h : ls ≠ []) : Lib.join (ls ++ [x]) [32] = Lib.join ls [32] ++ ([32] ++ x) := by
  cases ls with
  | nil => exact absurd rfl h
  | cons a r =>
    rw [List.cons_append, Lib.join_cons, Lib.join_cons]
    simp [Lib.joinTail]
theorem wC_ne (p : Rule) (k : Nat) : wC p k ≠ [] := by simp [wC, headW]
theorem join_head (p : Rule) : Lib.join (headW p) [32] = [114, 117, 108, 101, 32] ++ p.name ++ (if p.deny = true then [32, 100, 101, 110, 121] else [32, 112, 101, 114, 109, 105, 116]) := by
  simp only [headW, Lib.join_cons, Lib.joinTail]
  cases p.deny <;> simp
theorem join_next (p : Rule) (k : Nat) (h : k < p.conds.length) : Lib.join (wC p (k + 1)) [32] = Lib.join (wC p k) [32] ++ ([32] ++ leadW k ++ [32] ++ p.conds[k].f ++ [32] ++ p.conds[k].op ++ [32] ++ escB p.conds[k].v) := by
  rw [wC_next p k h]
  have e : wC p k ++ [leadW k, p.conds[k].f, p.conds[k].op, escB p.conds[k].v] = (((wC p k ++ [leadW k]) ++ [p.conds[k].f]) ++ [p.conds[k].op]) ++ [escB p.conds[k].v] := by simp
  rw [e, join_snoc _ _ (by simp), join_snoc _ _ (by simp), join_snoc _ _ (by simp), join_snoc _ _ (wC_ne p k)]
  simp [List.append_assoc]
theorem isE_app (a b : List UInt8) : (a ++ b).isEmpty = (a.isEmpty && b.isEmpty) := by cases a <;> cases b <;> rfl
theorem map1 (A : List (List UInt8)) (a : List UInt8) : (A.map fun x => [D.str x]) ++ [[.str a]] = (A ++ [a]).map fun x => [D.str x] := by simp
theorem map2 (A : List (List UInt8)) (a b : List UInt8) : (A.map fun x => [D.str x]) ++ [[.str a], [.str b]] = (A ++ [a, b]).map fun x => [D.str x] := by simp
theorem map4 (A : List (List UInt8)) (a b c d : List UInt8) : (A.map fun x => [D.str x]) ++ [[.str a], [.str b], [.str c], [.str d]] = (A ++ [a, b, c, d]).map fun x => [D.str x] := by simp
theorem mapL (A B : List (List UInt8)) : (A.map fun x => [D.str x]) ++ (B.map fun x => [D.str x]) = (A ++ B).map fun x => [D.str x] := by simp
theorem textB_next (l : List Rule) (k : Nat) (h : k < l.length) : textB (l.take (k + 1)) = textB (l.take k) ++ (lineB l[k] ++ [10]) := by
  rw [takeS h]; simp only [textB, List.flatMap_append, List.flatMap_cons, List.flatMap_nil, List.append_nil]
theorem textB_len (l : List Rule) (h : ∀ p ∈ l, p.sm) : (textB l).length ≤ l.length * 151000000001 := by
  induction l with
  | nil => simp [textB]
  | cons p l ih =>
    have h1 := lineB_len p (h p (by simp))
    have h2 := ih (fun q hq => h q (by simp [hq]))
    simp only [textB, List.flatMap_cons, List.length_append, List.length_cons, List.length_nil, Nat.succ_mul] at h2 ⊢
    omega
theorem textB_take (l : List Rule) (h : ∀ p ∈ l, p.sm) (k : Nat) (hk : k ≤ 64) : (textB (l.take k)).length ≤ 9664000000064 :=
  Nat.le_trans (textB_len (l.take k) (fun p hp => h p (List.mem_of_mem_take hp))) (Nat.le_trans (Nat.mul_le_mul_right 151000000001 (show (l.take k).length ≤ 64 by rw [List.length_take]; omega)) (by decide))
theorem check_64 {l : List Rule} (h : checkE l = 0) : l.length ≤ 64 := by
  unfold checkE at h
  split at h
  · cases h
  · rename_i hc; simp at hc; omega
/-- The reference's line up to the scopes. -/
def preJ (p : Rule) : List UInt8 := Lib.join (wC p p.conds.length) [32] ++ (if decide ((p.scopes.length : Int) > 0) = true then [32, 115, 99, 111, 112, 101, 115] else [])
theorem preJ_len (p : Rule) (h : p.sm) : (preJ p).length ≤ 151000000007 := by
  have := joinC_len p h _ (Nat.le_refl _)
  unfold preJ
  split <;> simp only [List.length_append, List.length_cons, List.length_nil] <;> omega
def spS (l : List (List UInt8)) : List UInt8 := l.flatMap fun x => 32 :: x
theorem spS_nil : spS [] = [] := rfl
theorem flatS_next (l : List (List UInt8)) (j : Nat) (h : j < l.length) : spS (l.take (j + 1)) = spS (l.take j) ++ (32 :: l[j]) := by
  rw [takeS h]; simp only [spS, List.flatMap_append, List.flatMap_cons, List.flatMap_nil, List.append_nil]
theorem flatS_len (p : Rule) (h : p.sm) (j : Nat) : (spS (p.scopes.take j)).length ≤ 10000200000 := by
  have key : ∀ l : List (List UInt8), (∀ s ∈ l, s.length ≤ 100000) → (spS l).length ≤ l.length * 100001 := by
    intro l
    induction l with
    | nil => intro _; simp [spS]
    | cons s l ih =>
      intro hs
      have h1 := hs s (by simp)
      have h2 := ih (fun x hx => hs x (by simp [hx]))
      simp only [spS, List.flatMap_cons, List.length_append, List.length_cons, List.length_nil, Nat.succ_mul] at h2 ⊢
      omega
  have h1 := key (p.scopes.take j) (fun s hs => h.2.2.2.2.1 s (List.mem_of_mem_take hs))
  have h2 : (p.scopes.take j).length ≤ 100000 := by rw [List.length_take]; have := h.2.2.2.1; omega
  omega
theorem join_app : ∀ (m ls : List (List UInt8)), ls ≠ [] → Lib.join (ls ++ m) [32] = Lib.join ls [32] ++ spS m
  | [], ls, _ => by simp [spS]
  | x :: m, ls, h => by
    have e : ls ++ x :: m = (ls ++ [x]) ++ m := by simp
    rw [e, join_app m (ls ++ [x]) (by simp), join_snoc ls x h]
    simp [spS]
theorem lineB_eq (p : Rule) : lineB p = preJ p ++ spS p.scopes ++ (if (p.lvl != 0) = true then [32, 108, 101, 118, 101, 108, 32] ++ Lib.itoa p.lvl else []) ++ (if (p.age != 0) = true then [32, 97, 103, 101, 32] ++ Lib.itoa p.age else []) := by
  unfold lineB lineW preJ
  rw [List.append_assoc, List.append_assoc, join_app _ _ (wC_ne p _)]
  have e0 : decide ((p.scopes.length : Int) > 0) = false → p.scopes = [] := by
    intro h; cases hs : p.scopes with
    | nil => rfl
    | cons a t => rw [hs] at h; simp at h; try omega
  by_cases h1 : decide ((p.scopes.length : Int) > 0) = true
  · rw [if_pos h1, if_pos h1]
    by_cases h2 : (p.lvl != 0) = true <;> by_cases h3 : (p.age != 0) = true <;> simp only [h2, h3, if_true, if_false, Bool.false_eq_true] <;> simp [spS]
  · have h1' : decide ((p.scopes.length : Int) > 0) = false := by simpa using h1
    have := e0 h1'
    rw [if_neg h1, if_neg h1, this]
    by_cases h2 : (p.lvl != 0) = true <;> by_cases h3 : (p.age != 0) = true <;> simp only [h2, h3, if_true, if_false, Bool.false_eq_true] <;> simp [spS]
def textD (l : List Rule) : D := if (checkE l != 0) = true then .tup [.str [], .int .i64 (checkE l)] else if decide (((textB l).length : Int) > 4096) = true then .tup [.str [], .int .i64 3] else .tup [.str (textB l), .int .i64 0]
@[simp] theorem clo_textD {S : Nat → Prop} (l : List Rule) : Clo S (textD l) := by unfold textD; split <;> (try split) <;> simp
end Go.Proofs
