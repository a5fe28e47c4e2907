import Derived.Test.YtnmalfongaognaaGreatDoorG06
import Derived.Test.YtnmalfongaognaaGreatDoorG02
set_option linter.unusedSimpArgs false
set_option linter.unusedVariables false
namespace Go.Proofs
open Go Go.Id
theorem ren_strs (f : Nat → Nat) (l : Wds) : renLL f (l.map fun x => [D.str x]) = l.map fun x => [D.str x] := by
  rw [renLL_map]; simp [renD]
theorem ren_conds (f : Nat → Nat) (l : List Cond) : renLL f (l.map Cond.cs) = l.map Cond.cs := by
  rw [renLL_map]; simp [renD, Cond.cs]
theorem c_read_at (r a b : Nat) (hd : [r, a, b].Nodup) (ws : Wds) (nm : List UInt8) (dn : Bool) (hw : ws.length ≤ 1099511627770) (hv : ∀ x ∈ ws, x.length ≤ 1099511627776) :
    CallE Pr 84 [.ref r 0, .int .i64 0] [(r, .box 97 [.slice 1 false (ws.map fun x => [D.str x]) none, .str nm, .bool dn, .slice 3 true [] (some a), .slice 1 true [] (some b), .int .i64 0, .int .i64 0]), (a, .tip 43 3 0), (b, .tip 9 1 0)] (.bool (readF ws).1)
      [(r, .box 97 [.slice 1 false (((readF ws).2.1).map fun x => [D.str x]) none, .str nm, .bool dn, .slice 3 ((readF ws).2.2.1).isEmpty (((readF ws).2.2.1).map Cond.cs) (some a), .slice 1 ((readF ws).2.2.2.1).isEmpty (((readF ws).2.2.2.1).map fun x => [D.str x]) (some b), .int .i64 ((readF ws).2.2.2.2.1), .int .i64 ((readF ws).2.2.2.2.2)]), (a, .tip 43 3 ((readF ws).2.2.1).length), (b, .tip 9 1 ((readF ws).2.2.2.1).length)] := by
  obtain ⟨f, g, h1, h2⟩ := ren_ex [r, a, b] hd
  have := CallE.rename h1 (c_read ws nm dn hw hv)
  have f0 : f 0 = r := h2 0 r rfl
  have f1 : f 1 = a := h2 1 a rfl
  have f2 : f 2 = b := h2 2 b rfl
  have e0 : renLL f [] = [] := by simp [renLL]
  simpa [renS, renB, renD, renL, e0, ren_strs, ren_conds, f0, f1, f2] using this
theorem z36 (h : 36 < Tryz.prog.types.size) : (Tryz.prog.types[36]'h).size = 6 := by kernel_rfl
theorem Le.tips {a b c d e f : D} {ok : D} : Le (.tup [.agg [a, b, c, d, e, f], ok]) (.tup [.agg [fg0 a, fg0 b, fg0 c, fg0 d, fg0 e, fg0 f], ok]) := by
  intro M γ w v hr
  cases hr with
  | @tup _ vs hl hr =>
    refine .tup (by simpa using hl) fun i d v hd hv => ?_
    match i with
    | 0 =>
      simp at hd; subst hd
      have h0 := rep_fg (hr 0 _ v rfl hv)
      exact h0
    | 1 => simp at hd; subst hd; exact hr 1 _ v rfl hv
    | i + 2 => simp at hd
theorem nil_mem {ws : Wds} {i : Nat} (h : i < ws.length) (q : (ws[i] == []) = true) : [] ∈ ws := by
  have e : ws[i] = [] := by simpa using q
  rw [← e]; exact List.getElem_mem h
theorem not_nil {x : List UInt8} (q : (x == []) = false) : [] ≠ x := by
  rintro rfl; simp at q
theorem rdLine_some {ws : Wds} (h : 3 ≤ ws.length) (h0 : wdAt ws 0 = [114, 117, 108, 101]) (h2 : wdAt ws 2 = [112, 101, 114, 109, 105, 116] ∨ wdAt ws 2 = [100, 101, 110, 121]) (hne : [] ∉ ws) :
    Le (.tup [.agg [.str (wdAt ws 1), .bool (wdAt ws 2 == [100, 101, 110, 121]), .slice 3 ((readF (ws.drop 3)).2.2.1).isEmpty (((readF (ws.drop 3)).2.2.1).map Cond.cs) none, .slice 1 ((readF (ws.drop 3)).2.2.2.1).isEmpty (((readF (ws.drop 3)).2.2.2.1).map fun x => [D.str x]) none, .int .i64 (readF (ws.drop 3)).2.2.2.2.1, .int .i64 (readF (ws.drop 3)).2.2.2.2.2], .bool (readF (ws.drop 3)).1]) (lineD (rdLine ws)) := by
  have hc : ¬ (ws.length < 3 ∨ ¬ (wdAt ws 0 = [114, 117, 108, 101]) ∨ (¬ (wdAt ws 2 = [112, 101, 114, 109, 105, 116]) ∧ ¬ (wdAt ws 2 = [100, 101, 110, 121])) ∨ [] ∈ ws) := by
    rintro (q | q | ⟨q, q'⟩ | q)
    · omega
    · exact q h0
    · rcases h2 with h2 | h2
      · exact q h2
      · exact q' h2
    · exact hne q
  unfold rdLine
  rw [if_neg hc]
  rcases readF (ws.drop 3) with ⟨ok, w, cs, sc, lv, ag⟩
  cases ok with
  | true => exact Le.refl _
  | false => exact Le.junks rfl
theorem rdLine_none {ws : Wds} (h : ws.length < 3 ∨ ¬ (wdAt ws 0 = [114, 117, 108, 101]) ∨ (¬ (wdAt ws 2 = [112, 101, 114, 109, 105, 116]) ∧ ¬ (wdAt ws 2 = [100, 101, 110, 121])) ∨ [] ∈ ws) : rdLine ws = none := by
  unfold rdLine
  rw [if_pos h]
end Go.Proofs

set_option linter.unusedSimpArgs false
set_option linter.unusedVariables false
set_option maxRecDepth 10000
namespace Go.Proofs
open Go Go.Id

theorem c_rdline (s : List UInt8) (hs : s.length ≤ 4096) : CallP Pr 45 [.str s] (lineD (rdLine (cutA 32 [] s))) := by
 obtain ⟨hl, hl1⟩ := cutA_len 32 s []
 have hv := fun x hx => cutA_mem 32 s [] x hx
 obtain ⟨ws, hws⟩ : ∃ ws, cutA 32 [] s = ws := ⟨_, rfl⟩
 rw [hws] at hl hl1 hv ⊢
 have hv3 : ∀ x ∈ ws.drop 3, x.length ≤ 1099511627776 := fun x hx => by have := hv x (List.mem_of_mem_drop hx); simp at this; omega
 have hl3 : (ws.drop 3).length ≤ 1099511627770 := by simp; omega
 refine CallP.of_wp Tryz.func45 rfl (by kernel_rfl) Tryz.ntmps45 (by simp) ?_
 simp only [frameOf, Nat.reduceAdd, Nat.zero_add]
 refine WP.sr [0, 2] (by kernel_rfl) fun K hK => ?_
 simp (decide := true) only [TF, hws, splitL_cut, takeMap, ← List.map_drop, ↓reduceIte, Int.reduceToNat]
 refine hK _ _ ?_; clear hK K
 refine WP.sr [2, 4] (by kernel_rfl) fun K hK => ?_
 simp (decide := true) only [TF, hws, splitL_cut, takeMap, ← List.map_drop, ↓reduceIte, Int.reduceToNat]
 refine CallK.pure (lib_split s [32] (by omega) (by simp)) rfl rfl (by simp [-List.map_take]) ?_
 simp (decide := true) only [TF, hws, splitL_cut, takeMap, ← List.map_drop, ↓reduceIte, Int.reduceToNat]
 refine hK _ _ ?_; clear hK K
 refine WP.seq ?_
 rcases Nat.lt_or_ge ws.length 3 with hsh | hge
 ·
  have hlq : decide ((ws.length : Int) < 3) = true := decide_eq_true (by omega)
  have hN := rdLine_none (.inl hsh)
  refine WP.sr [2, 4, 31] (by kernel_rfl) fun K hK => ?_
  simp (decide := true) only [TF, hws, hlq, splitL_cut, takeMap, ← List.map_drop, ↓reduceIte, Int.reduceToNat]
  refine hK _ _ ?_; clear hK K
  refine WP.cond (b := true) (by rfl) (fun _ => ?_) nofun
  refine WP.sr [2, 3] (by kernel_rfl) fun K hK => ?_
  simp (decide := true) only [TF, hws, hlq, splitL_cut, takeMap, ← List.map_drop, ↓reduceIte, Int.reduceToNat]
  refine hK _ _ ?_; clear hK K
  refine WP.ret ?_
  exact Ends.pure (d := .tup [_, _]) (.inr rfl) rfl ((by simp (decide := true) only [St.get, lk, W, Pr_prog, t_szD_36, t_aggD_36, z36, List.take_succ_cons, List.take_zero, hws, hlq, ↓reduceIte, Int.reduceToNat]; first | exact Le.trans Le.tips (rdLine_some (by omega) h0 h2 hnm) | (rw [hN]; exact Le.junks rfl))) (by simp)
 ·
  have h3 : 3 ≤ ws.length := hge
  have hlq : decide ((ws.length : Int) < 3) = false := decide_eq_false (by omega)
  have hm0 : (ws.map fun x => [D.str x])[0]? = some [.str (wdAt ws 0)] := by rw [wdAt_lt (show 0 < ws.length by omega)]; exact getM _
  have hm1 : (ws.map fun x => [D.str x])[1]? = some [.str (wdAt ws 1)] := by rw [wdAt_lt (show 1 < ws.length by omega)]; exact getM _
  have hm2 : (ws.map fun x => [D.str x])[2]? = some [.str (wdAt ws 2)] := by rw [wdAt_lt (show 2 < ws.length by omega)]; exact getM _
  refine WP.sr [2, 4, 31] (by kernel_rfl) fun K hK => ?_
  refine runOps.take 10 fun J hJ => ?_
  simp (decide := true) only [TF, hws, h3, hlq, hm0, hm1, hm2, splitL_cut, takeMap, ← List.map_drop, ↓reduceIte, Int.reduceToNat]
  refine hJ _ _ ?_; clear hJ J
  refine runOps.part 20 rfl (fun q1 => ?_) (fun q1 => ?_)
  ·
   have hN := rdLine_none (ws := ws) (.inr (.inl (by simpa using q1)))
   simp (decide := true) only [TF, hws, h3, hlq, hm0, hm1, hm2, q1, splitL_cut, takeMap, ← List.map_drop, ↓reduceIte, Int.reduceToNat]
   refine hK _ _ ?_; clear hK K
   refine WP.cond (b := true) (by rfl) (fun _ => ?_) nofun
   refine WP.sr [2, 3] (by kernel_rfl) fun K hK => ?_
   simp (decide := true) only [TF, hws, h3, hlq, hm0, hm1, hm2, q1, splitL_cut, takeMap, ← List.map_drop, ↓reduceIte, Int.reduceToNat]
   refine hK _ _ ?_; clear hK K
   refine WP.ret ?_
   exact Ends.pure (d := .tup [_, _]) (.inr rfl) rfl ((by simp (decide := true) only [St.get, lk, W, Pr_prog, t_szD_36, t_aggD_36, z36, List.take_succ_cons, List.take_zero, hws, h3, hlq, hm0, hm1, hm2, q1, ↓reduceIte, Int.reduceToNat]; first | exact Le.trans Le.tips (rdLine_some (by omega) h0 h2 hnm) | (rw [hN]; exact Le.junks rfl))) (by simp)
  ·
   have h0 : wdAt ws 0 = [114, 117, 108, 101] := by simpa using q1
   refine runOps.take 5 fun J hJ => ?_
   simp (decide := true) only [TF, hws, h3, hlq, hm0, hm1, hm2, q1, splitL_cut, takeMap, ← List.map_drop, ↓reduceIte, Int.reduceToNat]
   refine hJ _ _ ?_; clear hJ J
   refine runOps.part 25 rfl (fun q2 => ?_) (fun q2 => ?_)
   ·
    have h2 : ¬ (wdAt ws 2 = [112, 101, 114, 109, 105, 116]) := by simpa using q2
    simp (decide := true) only [TF, hws, h3, hlq, hm0, hm1, hm2, q1, q2, splitL_cut, takeMap, ← List.map_drop, ↓reduceIte, Int.reduceToNat]
    refine hK _ _ ?_; clear hK K
    refine WP.cond (b := _) rfl (fun q3 => ?_) (fun q3 => ?_)
    ·
     have hN := rdLine_none (ws := ws) (.inr (.inr (.inl ⟨h2, by simpa using q3⟩)))
     refine WP.sr [2, 3] (by kernel_rfl) fun K hK => ?_
     simp (decide := true) only [TF, hws, h3, hlq, hm0, hm1, hm2, q1, q2, q3, splitL_cut, takeMap, ← List.map_drop, ↓reduceIte, Int.reduceToNat]
     refine hK _ _ ?_; clear hK K
     refine WP.ret ?_
     exact Ends.pure (d := .tup [_, _]) (.inr rfl) rfl ((by simp (decide := true) only [St.get, lk, W, Pr_prog, t_szD_36, t_aggD_36, z36, List.take_succ_cons, List.take_zero, hws, h3, hlq, hm0, hm1, hm2, q1, q2, q3, ↓reduceIte, Int.reduceToNat]; first | exact Le.trans Le.tips (rdLine_some (by omega) h0 h2 hnm) | (rw [hN]; exact Le.junks rfl))) (by simp)
    ·
     have h2 : wdAt ws 2 = [112, 101, 114, 109, 105, 116] ∨ wdAt ws 2 = [100, 101, 110, 121] := .inr (by simpa using q3)
     refine WP.skip ?_
     show WP _ _ _ _ _ _
     refine WP.seq ?_
     refine WP.sr [2, 4, 33, 34, 35] (by kernel_rfl) fun K hK => ?_
     simp (decide := true) only [TF, hws, h3, hlq, hm0, hm1, hm2, q1, q2, q3, splitL_cut, takeMap, ← List.map_drop, ↓reduceIte, Int.reduceToNat]
     refine hK _ _ ?_; clear hK K
     refine WP.block ?_
     refine WP.lp [2, 4, 33, 34] (X := {i : Nat // i ≤ ws.length ∧ [] ∉ ws.take i}) (fun x => match x with | ⟨(i), _⟩ => [(35, .int .i64 i)]) (fun x => match x with | ⟨(i), _⟩ => [(0, .box 36 [.str [], .bool false, .slice 0 true [] none, .slice 0 true [] none, .int .i64 0, .int .i64 0])]) (fun x => match x with | ⟨(i), _⟩ => ws.length - i) (by simp (decide := true) only [W, ↓reduceIte, Int.reduceToNat]; rfl) ?_ ⟨(0), ⟨Nat.zero_le _, by simp⟩⟩ ?_
     rotate_left
     · exact Weak.store (by simp [St.get, lk, W, Le.refl, hws, h3, hlq, hm0, hm1, hm2, q1, q2, q3]) (by simp [lk, W]) (by simp [lk]) (by simp [BClo]) (by simp)
     rintro ⟨i, hi, hne⟩
     dsimp only
     simp only [List.cons_append, List.nil_append]
     refine WP.sr [2, 4, 33, 34, 35, 36] (by kernel_rfl) fun K hK => ?_
     simp (decide := true) only [TF, hws, h3, hlq, hm0, hm1, hm2, q1, q2, q3, splitL_cut, takeMap, ← List.map_drop, ↓reduceIte, Int.reduceToNat]
     refine hK _ _ ?_; clear hK K
     refine WP.seq ?_
     refine WP.cond (b := _) rfl (fun q4 => ?_) (fun q4 => ?_)
     ·
      have hlt := lt_of_q q4
      have hg := getM (f := fun x => [D.str x]) hlt
      refine WP.skip ?_
      show WP _ _ _ _ _ _
      refine WP.seq ?_
      refine WP.block ?_
      refine WP.sr [2, 4, 6, 33, 34, 35] (by kernel_rfl) fun K hK => ?_
      simp (decide := true) only [TF, hws, h3, hlq, hm0, hm1, hm2, q1, q2, q3, q4, hg, splitL_cut, takeMap, ← List.map_drop, ↓reduceIte, Int.reduceToNat]
      refine hK _ _ ?_; clear hK K
      refine WP.sr [2, 4, 33, 34, 35, 40] (by kernel_rfl) fun K hK => ?_
      simp (decide := true) only [TF, hws, h3, hlq, hm0, hm1, hm2, q1, q2, q3, q4, hg, splitL_cut, takeMap, ← List.map_drop, ↓reduceIte, Int.reduceToNat]
      refine hK _ _ ?_; clear hK K
      refine WP.cond (b := _) rfl (fun q5 => ?_) (fun q5 => ?_)
      ·
       have hN := rdLine_none (ws := ws) (.inr (.inr (.inr (nil_mem hlt q5))))
       refine WP.sr [2, 3] (by kernel_rfl) fun K hK => ?_
       simp (decide := true) only [TF, hws, h3, hlq, hm0, hm1, hm2, q1, q2, q3, q4, hg, q5, splitL_cut, takeMap, ← List.map_drop, ↓reduceIte, Int.reduceToNat]
       refine hK _ _ ?_; clear hK K
       refine WP.ret ?_
       exact Ends.pure (d := .tup [_, _]) (.inr rfl) rfl ((by simp (decide := true) only [St.get, lk, W, Pr_prog, t_szD_36, t_aggD_36, z36, List.take_succ_cons, List.take_zero, hws, h3, hlq, hm0, hm1, hm2, q1, q2, q3, q4, hg, q5, ↓reduceIte, Int.reduceToNat]; first | exact Le.trans Le.tips (rdLine_some (by omega) h0 h2 hnm) | (rw [hN]; exact Le.junks rfl))) (by simp)
      ·
       have hni := not_nil q5
       refine WP.skip ?_
       show WP _ _ _ _ _ _
       refine WP.region (by kernel_rfl) fun K hK => ?_
       simp (decide := true) only [TF, hws, h3, hlq, hm0, hm1, hm2, q1, q2, q3, q4, hg, q5, splitL_cut, takeMap, ← List.map_drop, ↓reduceIte, Int.reduceToNat]
       refine hK _ _ ?_; clear hK K
       show ∃ y, _ ∧ Weak _ _ _
       refine ⟨⟨i + 1, ?_⟩, ?_, ?_⟩
       · refine ⟨by omega, ?_⟩; rw [takeS hlt]; rw [List.mem_append, List.mem_singleton]; exact fun e => e.elim hne hni
       · dsimp only; omega
       · exact Weak.store (by simp [St.get, lk, W, Le.refl, hws, h3, hlq, hm0, hm1, hm2, q1, q2, q3, q4, hg, q5, wrapS hlt (show ws.length ≤ 140737488355328 by omega)]) (by simp [lk, W]) (by simp [lk]) (by simp [BClo]) (by simp)
     ·
      have hge := ge_of_q q4
      have hnm : [] ∉ ws := by rw [List.take_of_length_le hge] at hne; exact hne
      refine WP.exit ?_
      show WP _ _ _ _ _ _
      refine WP.sd [2, 7] (by kernel_rfl) (by kernel_rfl) fun K hK => ?_
      simp (decide := true) only [TF, hws, h3, hlq, hm0, hm1, hm2, q1, q2, q3, q4, splitL_cut, takeMap, ← List.map_drop, ↓reduceIte, Int.reduceToNat]
      refine hK _ _ (by kernel_rfl) ?_
      clear hK K
      refine WP.weak (Weak.ghost 2 43 3 (σ' := [(1, .box 97 [.slice 1 false ((ws.drop 3).map fun x => [D.str x]) none, .str (wdAt ws 1), .bool (wdAt ws 2 == [100, 101, 110, 121]), .slice 3 true [] (some 2), .slice 0 true [] none, .int .i64 0, .int .i64 0]), (0, .box 36 [.str [], .bool false, .slice 0 true [] none, .slice 0 true [] none, .int .i64 0, .int .i64 0])]) (by simp [lk, W]) (UpF.refl _ _ _) (by simp [UpS, UpB, UpL, UpD])) ?_
      refine WP.weak (Weak.ghost 3 9 1 (σ' := [(2, .tip 43 3 0), (1, .box 97 [.slice 1 false ((ws.drop 3).map fun x => [D.str x]) none, .str (wdAt ws 1), .bool (wdAt ws 2 == [100, 101, 110, 121]), .slice 3 true [] (some 2), .slice 1 true [] (some 3), .int .i64 0, .int .i64 0]), (0, .box 36 [.str [], .bool false, .slice 0 true [] none, .slice 0 true [] none, .int .i64 0, .int .i64 0])]) (by simp [lk, W]) (UpF.refl _ _ _) (by simp [UpS, UpB, UpL, UpD])) ?_
      refine WP.sr [2, 7, 8] (by kernel_rfl) fun K hK => ?_
      simp (decide := true) only [TF, hws, h3, hlq, hm0, hm1, hm2, q1, q2, q3, q4, splitL_cut, takeMap, ← List.map_drop, ↓reduceIte, Int.reduceToNat]
      refine CallK.imp (c_read_at 1 2 3 (by simp) (ws.drop 3) (wdAt ws 1) (wdAt ws 2 == [100, 101, 110, 121]) hl3 hv3) rfl rfl (by simp [lk, BClo, -List.map_tail, -List.map_drop]) (by simp [lk]) (by simp [lk]) ?_
      simp (decide := true) only [TF, hws, h3, hlq, hm0, hm1, hm2, q1, q2, q3, q4, splitL_cut, takeMap, ← List.map_drop, ↓reduceIte, Int.reduceToNat]
      refine hK _ _ ?_; clear hK K
      refine WP.sr [2, 3] (by kernel_rfl) fun K hK => ?_
      simp (decide := true) only [TF, hws, h3, hlq, hm0, hm1, hm2, q1, q2, q3, q4, splitL_cut, takeMap, ← List.map_drop, ↓reduceIte, Int.reduceToNat]
      refine hK _ _ ?_; clear hK K
      refine WP.ret ?_
      exact Ends.pure (d := .tup [_, _]) (.inr rfl) rfl ((by simp (decide := true) only [St.get, lk, W, Pr_prog, t_szD_36, t_aggD_36, z36, List.take_succ_cons, List.take_zero, hws, h3, hlq, hm0, hm1, hm2, q1, q2, q3, q4, ↓reduceIte, Int.reduceToNat]; first | exact Le.trans Le.tips (rdLine_some (by omega) h0 h2 hnm) | (rw [hN]; exact Le.junks rfl))) (by simp)
   ·
    have h2 : wdAt ws 2 = [112, 101, 114, 109, 105, 116] ∨ wdAt ws 2 = [100, 101, 110, 121] := .inl (by simpa using q2)
    simp (decide := true) only [TF, hws, h3, hlq, hm0, hm1, hm2, q1, q2, splitL_cut, takeMap, ← List.map_drop, ↓reduceIte, Int.reduceToNat]
    refine hK _ _ ?_; clear hK K
    refine WP.cond (b := false) (by rfl) nofun (fun _ => ?_)
    refine WP.skip ?_
    show WP _ _ _ _ _ _
    refine WP.seq ?_
    refine WP.sr [2, 4, 33, 34, 35] (by kernel_rfl) fun K hK => ?_
    simp (decide := true) only [TF, hws, h3, hlq, hm0, hm1, hm2, q1, q2, splitL_cut, takeMap, ← List.map_drop, ↓reduceIte, Int.reduceToNat]
    refine hK _ _ ?_; clear hK K
    refine WP.block ?_
    refine WP.lp [2, 4, 33, 34] (X := {i : Nat // i ≤ ws.length ∧ [] ∉ ws.take i}) (fun x => match x with | ⟨(i), _⟩ => [(35, .int .i64 i)]) (fun x => match x with | ⟨(i), _⟩ => [(0, .box 36 [.str [], .bool false, .slice 0 true [] none, .slice 0 true [] none, .int .i64 0, .int .i64 0])]) (fun x => match x with | ⟨(i), _⟩ => ws.length - i) (by simp (decide := true) only [W, ↓reduceIte, Int.reduceToNat]; rfl) ?_ ⟨(0), ⟨Nat.zero_le _, by simp⟩⟩ ?_
    rotate_left
    · exact Weak.store (by simp [St.get, lk, W, Le.refl, hws, h3, hlq, hm0, hm1, hm2, q1, q2]) (by simp [lk, W]) (by simp [lk]) (by simp [BClo]) (by simp)
    rintro ⟨i, hi, hne⟩
    dsimp only
    simp only [List.cons_append, List.nil_append]
    refine WP.sr [2, 4, 33, 34, 35, 36] (by kernel_rfl) fun K hK => ?_
    simp (decide := true) only [TF, hws, h3, hlq, hm0, hm1, hm2, q1, q2, splitL_cut, takeMap, ← List.map_drop, ↓reduceIte, Int.reduceToNat]
    refine hK _ _ ?_; clear hK K
    refine WP.seq ?_
    refine WP.cond (b := _) rfl (fun q6 => ?_) (fun q6 => ?_)
    ·
     have hlt := lt_of_q q6
     have hg := getM (f := fun x => [D.str x]) hlt
     refine WP.skip ?_
     show WP _ _ _ _ _ _
     refine WP.seq ?_
     refine WP.block ?_
     refine WP.sr [2, 4, 6, 33, 34, 35] (by kernel_rfl) fun K hK => ?_
     simp (decide := true) only [TF, hws, h3, hlq, hm0, hm1, hm2, q1, q2, q6, hg, splitL_cut, takeMap, ← List.map_drop, ↓reduceIte, Int.reduceToNat]
     refine hK _ _ ?_; clear hK K
     refine WP.sr [2, 4, 33, 34, 35, 40] (by kernel_rfl) fun K hK => ?_
     simp (decide := true) only [TF, hws, h3, hlq, hm0, hm1, hm2, q1, q2, q6, hg, splitL_cut, takeMap, ← List.map_drop, ↓reduceIte, Int.reduceToNat]
     refine hK _ _ ?_; clear hK K
     refine WP.cond (b := _) rfl (fun q7 => ?_) (fun q7 => ?_)
     ·
      have hN := rdLine_none (ws := ws) (.inr (.inr (.inr (nil_mem hlt q7))))
      refine WP.sr [2, 3] (by kernel_rfl) fun K hK => ?_
      simp (decide := true) only [TF, hws, h3, hlq, hm0, hm1, hm2, q1, q2, q6, hg, q7, splitL_cut, takeMap, ← List.map_drop, ↓reduceIte, Int.reduceToNat]
      refine hK _ _ ?_; clear hK K
      refine WP.ret ?_
      exact Ends.pure (d := .tup [_, _]) (.inr rfl) rfl ((by simp (decide := true) only [St.get, lk, W, Pr_prog, t_szD_36, t_aggD_36, z36, List.take_succ_cons, List.take_zero, hws, h3, hlq, hm0, hm1, hm2, q1, q2, q6, hg, q7, ↓reduceIte, Int.reduceToNat]; first | exact Le.trans Le.tips (rdLine_some (by omega) h0 h2 hnm) | (rw [hN]; exact Le.junks rfl))) (by simp)
     ·
      have hni := not_nil q7
      refine WP.skip ?_
      show WP _ _ _ _ _ _
      refine WP.region (by kernel_rfl) fun K hK => ?_
      simp (decide := true) only [TF, hws, h3, hlq, hm0, hm1, hm2, q1, q2, q6, hg, q7, splitL_cut, takeMap, ← List.map_drop, ↓reduceIte, Int.reduceToNat]
      refine hK _ _ ?_; clear hK K
      show ∃ y, _ ∧ Weak _ _ _
      refine ⟨⟨i + 1, ?_⟩, ?_, ?_⟩
      · refine ⟨by omega, ?_⟩; rw [takeS hlt]; rw [List.mem_append, List.mem_singleton]; exact fun e => e.elim hne hni
      · dsimp only; omega
      · exact Weak.store (by simp [St.get, lk, W, Le.refl, hws, h3, hlq, hm0, hm1, hm2, q1, q2, q6, hg, q7, wrapS hlt (show ws.length ≤ 140737488355328 by omega)]) (by simp [lk, W]) (by simp [lk]) (by simp [BClo]) (by simp)
    ·
     have hge := ge_of_q q6
     have hnm : [] ∉ ws := by rw [List.take_of_length_le hge] at hne; exact hne
     refine WP.exit ?_
     show WP _ _ _ _ _ _
     refine WP.sd [2, 7] (by kernel_rfl) (by kernel_rfl) fun K hK => ?_
     simp (decide := true) only [TF, hws, h3, hlq, hm0, hm1, hm2, q1, q2, q6, splitL_cut, takeMap, ← List.map_drop, ↓reduceIte, Int.reduceToNat]
     refine hK _ _ (by kernel_rfl) ?_
     clear hK K
     refine WP.weak (Weak.ghost 2 43 3 (σ' := [(1, .box 97 [.slice 1 false ((ws.drop 3).map fun x => [D.str x]) none, .str (wdAt ws 1), .bool (wdAt ws 2 == [100, 101, 110, 121]), .slice 3 true [] (some 2), .slice 0 true [] none, .int .i64 0, .int .i64 0]), (0, .box 36 [.str [], .bool false, .slice 0 true [] none, .slice 0 true [] none, .int .i64 0, .int .i64 0])]) (by simp [lk, W]) (UpF.refl _ _ _) (by simp [UpS, UpB, UpL, UpD])) ?_
     refine WP.weak (Weak.ghost 3 9 1 (σ' := [(2, .tip 43 3 0), (1, .box 97 [.slice 1 false ((ws.drop 3).map fun x => [D.str x]) none, .str (wdAt ws 1), .bool (wdAt ws 2 == [100, 101, 110, 121]), .slice 3 true [] (some 2), .slice 1 true [] (some 3), .int .i64 0, .int .i64 0]), (0, .box 36 [.str [], .bool false, .slice 0 true [] none, .slice 0 true [] none, .int .i64 0, .int .i64 0])]) (by simp [lk, W]) (UpF.refl _ _ _) (by simp [UpS, UpB, UpL, UpD])) ?_
     refine WP.sr [2, 7, 8] (by kernel_rfl) fun K hK => ?_
     simp (decide := true) only [TF, hws, h3, hlq, hm0, hm1, hm2, q1, q2, q6, splitL_cut, takeMap, ← List.map_drop, ↓reduceIte, Int.reduceToNat]
     refine CallK.imp (c_read_at 1 2 3 (by simp) (ws.drop 3) (wdAt ws 1) (wdAt ws 2 == [100, 101, 110, 121]) hl3 hv3) rfl rfl (by simp [lk, BClo, -List.map_tail, -List.map_drop]) (by simp [lk]) (by simp [lk]) ?_
     simp (decide := true) only [TF, hws, h3, hlq, hm0, hm1, hm2, q1, q2, q6, splitL_cut, takeMap, ← List.map_drop, ↓reduceIte, Int.reduceToNat]
     refine hK _ _ ?_; clear hK K
     refine WP.sr [2, 3] (by kernel_rfl) fun K hK => ?_
     simp (decide := true) only [TF, hws, h3, hlq, hm0, hm1, hm2, q1, q2, q6, splitL_cut, takeMap, ← List.map_drop, ↓reduceIte, Int.reduceToNat]
     refine hK _ _ ?_; clear hK K
     refine WP.ret ?_
     exact Ends.pure (d := .tup [_, _]) (.inr rfl) rfl ((by simp (decide := true) only [St.get, lk, W, Pr_prog, t_szD_36, t_aggD_36, z36, List.take_succ_cons, List.take_zero, hws, h3, hlq, hm0, hm1, hm2, q1, q2, q6, ↓reduceIte, Int.reduceToNat]; first | exact Le.trans Le.tips (rdLine_some (by omega) h0 h2 hnm) | (rw [hN]; exact Le.junks rfl))) (by simp)
end Go.Proofs

set_option linter.unusedSimpArgs false
set_option linter.unusedVariables false
namespace Go.Proofs
open Go Go.Id
theorem hdB_wd {ws : Wds} {i : Nat} {w : List UInt8} (hw : w ≠ []) : hdB (ws.drop i) w = (wdAt ws i == w) := by
  unfold hdB wdAt
  rw [List.head?_drop]
  cases ws[i]? with
  | none =>
    cases w with
    | nil => exact absurd rfl hw
    | cons a l => rfl
  | some x => simp
theorem wdAt_ne {ws : Wds} {i : Nat} {w : List UInt8} (hw : w ≠ []) (h : wdAt ws i = w) : i < ws.length := by
  rcases Nat.lt_or_ge i ws.length with h' | h'
  · exact h'
  · rw [wdAt_ge h'] at h; exact absurd h.symm hw
theorem cdR_ok {ws : Wds} {i n : Nat} {lead u : List UInt8} {cs : List Cond} (hl : lead ≠ []) (h : wdAt ws i = lead) (hi : i + 3 < ws.length) (hu : unB (wdAt ws (i + 3)) = some u) :
    cdR (n + 1) lead (ws.drop i) cs = cdR n [97, 110, 100] (ws.drop (i + 4)) (cs ++ [⟨wdAt ws (i + 1), wdAt ws (i + 2), u⟩]) := by
  rw [cdR_succ, hdB_wd hl, h]
  have e : (ws.drop i).tail = wdAt ws (i + 1) :: wdAt ws (i + 2) :: wdAt ws (i + 3) :: ws.drop (i + 4) := by
    rw [List.tail_drop, dropE (show i + 1 < ws.length by omega), dropE (show i + 1 + 1 < ws.length by omega), dropE (show i + 1 + 1 + 1 < ws.length by omega), wdAt_lt (show i + 1 < ws.length by omega), wdAt_lt (show i + 2 < ws.length by omega), wdAt_lt (show i + 3 < ws.length by omega)]
  simp [e, cdV, cdW, cdC, hu]
theorem cdR_bad {ws : Wds} {i n : Nat} {lead : List UInt8} {cs : List Cond} (hl : lead ≠ []) (h : wdAt ws i = lead) (hb : ws.length ≤ i + 3 ∨ unB (wdAt ws (i + 3)) = none) : (cdR (n + 1) lead (ws.drop i) cs).1 = false := by
  rw [cdR_succ, hdB_wd hl, h]
  have : cdV (ws.drop i).tail = false := by
    rcases cd_cases (ws.drop i).tail with ⟨_, h, _⟩ | ⟨f, op, v, t, e⟩
    · exact h
    · have hlen : (ws.drop i).tail.length = ws.length - i - 1 := by simp; omega
      have h2 : (ws.drop i).tail[2]? = some v := by rw [e]; rfl
      rw [e] at hlen; simp at hlen
      rcases hb with hb | hb
      · omega
      · rw [List.tail_drop, List.getElem?_drop] at h2
        have h3 : wdAt ws (i + 3) = v := by unfold wdAt; rw [show i + 3 = i + 1 + 2 from rfl, h2]; rfl
        rw [e]; simp [cdV, ← h3, hb]
  rw [this]; simp
theorem cdR_end {ws : Wds} {i n : Nat} {lead : List UInt8} {cs : List Cond} (hl : lead ≠ []) (h : ¬ wdAt ws i = lead) : cdR (n + 1) lead (ws.drop i) cs = (true, ws.drop i, cs) := by
  rw [cdR_succ, hdB_wd hl]; simp [h]
theorem readF_bad1 {ws : Wds} (h : (cdR (ws.length + 1) [105, 102] ws []).1 = false) : (readF ws).1 = false := by
  unfold readF
  revert h
  rcases cdR (ws.length + 1) [105, 102] ws [] with ⟨ok, w, c⟩
  intro h
  have h : ok = false := h
  subst h; simp [rdScp]
theorem rdLine_bad {ws : Wds} (h : (readF (ws.drop 3)).1 = false) : rdLine ws = none := by
  unfold rdLine
  split
  · rfl
  · revert h
    rcases readF (ws.drop 3) with ⟨ok, w, c⟩
    intro h
    have h : ok = false := h
    subst h; rfl
theorem rdScp_no {ws : Wds} {i : Nat} (h : ¬ wdAt ws i = [115, 99, 111, 112, 101, 115]) : rdScp true (ws.drop i) = (true, ws.drop i, []) := by
  unfold rdScp; rw [hdB_wd (by simp)]; simp [h]
theorem rdScp_yes {ws : Wds} {i : Nat} (h : wdAt ws i = [115, 99, 111, 112, 101, 115]) : rdScp true (ws.drop i) = (decide (((scR (ws.drop (i + 1)) []).2.length : Int) > 0), (scR (ws.drop (i + 1)) []).1, (scR (ws.drop (i + 1)) []).2) := by
  unfold rdScp; rw [hdB_wd (by simp), List.tail_drop]; simp [h]
theorem scR_step {ws sc : Wds} {i : Nat} (hi : i < ws.length) (h1 : ¬ ws[i] = [108, 101, 118, 101, 108]) (h2 : ¬ ws[i] = [97, 103, 101]) : scR (ws.drop i) sc = scR (ws.drop (i + 1)) (sc ++ [ws[i]]) := by
  rw [dropE hi, scR]; simp [h1, h2]
theorem scR_end {ws sc : Wds} {i : Nat} (h : ws.length ≤ i ∨ ∃ hi : i < ws.length, ws[i] = [108, 101, 118, 101, 108] ∨ ws[i] = [97, 103, 101]) : scR (ws.drop i) sc = (ws.drop i, sc) := by
  rcases h with h | ⟨hi, h⟩
  · rw [dropN h]; rfl
  · rw [dropE hi, scR]
    rcases h with h | h <;> simp [h]
theorem tail_ok {ws : Wds} {i : Nat} {key : List UInt8} (hk : key ≠ []) (hi : i ≤ ws.length) (h : (tailR ws i key).2.2 = true) : cntR (ws.drop i) key = ((tailR ws i key).1, true, ws.drop (tailR ws i key).2.1) ∧ (tailR ws i key).2.1 ≤ ws.length := by
  unfold tailR at h ⊢
  unfold cntR
  rw [hdB_wd hk]
  split
  · rename_i q
    rw [if_pos q] at h
    simp only at h ⊢
    rcases Nat.lt_or_ge (i + 1) ws.length with h1 | h1
    · rw [List.tail_drop, dropE h1]
      simp only
      rw [wdAt_lt h1] at h ⊢
      exact ⟨by rw [h], by omega⟩
    · rw [wdAt_ge h1] at h
      exact absurd h (by decide)
  · exact ⟨rfl, hi⟩
theorem tail_bad {ws : Wds} {i : Nat} {key : List UInt8} (hk : key ≠ []) (h : (tailR ws i key).2.2 = false) : (cntR (ws.drop i) key).2.1 = false := by
  unfold tailR at h
  unfold cntR
  rw [hdB_wd hk]
  split
  · rename_i q
    rw [if_pos q] at h
    simp only at h
    rcases Nat.lt_or_ge (i + 1) ws.length with h1 | h1
    · rw [List.tail_drop, dropE h1]
      simp only
      rwa [wdAt_lt h1] at h
    · rw [List.tail_drop, dropN h1]
  · rename_i q
    rw [if_neg q] at h
    cases h
theorem rd_fin {ws sc : Wds} {i0 i : Nat} {cs : List Cond} (h3 : 3 ≤ ws.length) (h0 : wdAt ws 0 = [114, 117, 108, 101]) (h2 : wdAt ws 2 = [112, 101, 114, 109, 105, 116] ∨ wdAt ws 2 = [100, 101, 110, 121]) (hne : [] ∉ ws) (hC : cdR ((ws.drop 3).length + 1) [105, 102] (ws.drop 3) [] = (true, ws.drop i0, cs)) (hS : rdScp true (ws.drop i0) = (true, ws.drop i, sc)) (hi : i ≤ ws.length) :
    Le (.tup [.agg [.str (wdAt ws 1), .bool (wdAt ws 2 == [100, 101, 110, 121]), .slice 3 cs.isEmpty (cs.map Cond.cs) none, .slice 1 sc.isEmpty (sc.map fun x => [.str x]) none, .int .i64 (tailR ws i [108, 101, 118, 101, 108]).1, .int .i64 (tailR ws (tailR ws i [108, 101, 118, 101, 108]).2.1 [97, 103, 101]).1],
      .bool ((tailR ws i [108, 101, 118, 101, 108]).2.2 && (tailR ws (tailR ws i [108, 101, 118, 101, 108]).2.1 [97, 103, 101]).2.2 && ((tailR ws (tailR ws i [108, 101, 118, 101, 108]).2.1 [97, 103, 101]).2.1 : Int) == (ws.length : Int))]) (lineD (rdLine ws)) := by
  cases hA : (tailR ws i [108, 101, 118, 101, 108]).2.2 with
  | false =>
    have hb := tail_bad (by simp) hA
    have e : rdLine ws = none := rdLine_bad (by
      rw [readF_eq hC hS (n1 := (cntR (ws.drop i) [108, 101, 118, 101, 108]).1) (b1 := false) (w3 := (cntR (ws.drop i) [108, 101, 118, 101, 108]).2.2) (by rw [← hb]) rfl]; simp)
    rw [e]; exact Le.junks (by simp)
  | true =>
    obtain ⟨hA1, hA2⟩ := tail_ok (by simp) hi hA
    cases hB : (tailR ws (tailR ws i [108, 101, 118, 101, 108]).2.1 [97, 103, 101]).2.2 with
    | false =>
      have hb := tail_bad (by simp) hB
      have e : rdLine ws = none := rdLine_bad (by
        rw [readF_eq hC hS hA1 (n2 := (cntR (ws.drop (tailR ws i [108, 101, 118, 101, 108]).2.1) [97, 103, 101]).1) (b2 := false) (w4 := (cntR (ws.drop (tailR ws i [108, 101, 118, 101, 108]).2.1) [97, 103, 101]).2.2) (by rw [← hb])]; simp)
      rw [e]; exact Le.junks (by simp)
    | true =>
      obtain ⟨hB1, hB2⟩ := tail_ok (by simp) hA2 hB
      have hr := readF_eq hC hS hA1 hB1
      have hs := rdLine_some h3 h0 h2 hne
      rw [hr] at hs
      have e : ((((ws.drop (tailR ws (tailR ws i [108, 101, 118, 101, 108]).2.1 [97, 103, 101]).2.1).length : Int) == 0)) = (((tailR ws (tailR ws i [108, 101, 118, 101, 108]).2.1 [97, 103, 101]).2.1 : Int) == (ws.length : Int)) := by
        rw [Bool.eq_iff_iff]; simp; omega
      dsimp only at hs
      rw [e] at hs
      simpa [hA, hB, -List.length_drop] using hs
end Go.Proofs

set_option linter.unusedSimpArgs false
set_option linter.unusedVariables false
set_option maxRecDepth 10000
namespace Go.Proofs
open Go Go.Id

set_option maxHeartbeats 4000000
theorem wdAt_bd {ws : Wds} (hv : ∀ x ∈ ws, x.length ≤ 4096) (k : Nat) : (wdAt ws k).length ≤ 1099511627776 := by
 rcases Nat.lt_or_ge k ws.length with h | h
 · rw [wdAt_lt h]; exact Nat.le_trans (hv _ (List.getElem_mem h)) (by decide)
 · rw [wdAt_ge h]; simp
theorem verb3 {ws : Wds} (h : wdAt ws 2 = [112, 101, 114, 109, 105, 116] ∨ wdAt ws 2 = [100, 101, 110, 121]) : 3 ≤ ws.length := by
 rcases h with h | h
 · exact wdAt_ne (by simp) h
 · exact wdAt_ne (by simp) h
theorem tailR_le (ws : Wds) (i : Nat) (key : List UInt8) : (tailR ws i key).2.1 ≤ i + 2 := by
 unfold tailR; split
 · exact Nat.le_refl _
 · exact Nat.le_add_right _ _
theorem readF_bad2 {ws w1 : Wds} {c1 : List Cond} (h1 : cdR (ws.length + 1) [105, 102] ws [] = (true, w1, c1)) (h2 : (rdScp true w1).1 = false) : (readF ws).1 = false := by
 unfold readF
 rw [h1]
 revert h2
 dsimp only
 rcases rdScp true w1 with ⟨ok, w, s⟩
 intro h
 have h : ok = false := h
 subst h; simp

theorem c_r_read (ws : Wds) (hl : ws.length ≤ 4097) (hv : ∀ x ∈ ws, x.length ≤ 4096) : CallP Pr 47 [.slice 1 false (ws.map fun x => [.str x]) none] (lineD (rdLine ws)) := by
 have hvw : ∀ k, (wdAt ws k).length ≤ 1099511627776 := wdAt_bd hv
 refine CallP.of_wp Tryz.func47 rfl (by kernel_rfl) Tryz.ntmps47 (by simp) ?_
 simp only [frameOf, Nat.reduceAdd, Nat.zero_add]
 refine WP.sr [0, 2] (by kernel_rfl) fun K hK => ?_
 simp (decide := true) only [TF, mapC, map1, ↓reduceIte, Int.reduceToNat]
 refine hK _ _ ?_; clear hK K
 refine WP.sr [0, 2, 4] (by kernel_rfl) fun K hK => ?_
 simp (decide := true) only [TF, mapC, map1, ↓reduceIte, Int.reduceToNat]
 refine CallK.pure (c_r_wd ws false 1 nofun) rfl rfl (by simp [-List.map_take]) ?_
 simp (decide := true) only [TF, mapC, map1, ↓reduceIte, Int.reduceToNat]
 refine CallK.pure (c_r_wd ws false 2 nofun) rfl rfl (by simp [-List.map_take]) ?_
 simp (decide := true) only [TF, mapC, map1, ↓reduceIte, Int.reduceToNat]
 refine hK _ _ ?_; clear hK K
 refine WP.seq ?_
 refine WP.sr [0, 2, 4, 35] (by kernel_rfl) fun K hK => ?_
 simp (decide := true) only [TF, mapC, map1, ↓reduceIte, Int.reduceToNat]
 refine CallK.pure (c_r_contains ws false [] (by omega) nofun) rfl rfl (by simp [-List.map_take]) ?_
 refine runOps.take 1 fun J hJ => ?_
 simp (decide := true) only [TF, mapC, map1, ↓reduceIte, Int.reduceToNat]
 refine hJ _ _ ?_; clear hJ J
 refine runOps.part 21 rfl (fun q1 => ?_) (fun q1 => ?_)
 ·
  have hN := rdLine_none (ws := ws) (.inr (.inr (.inr (by simpa using q1))))
  simp (decide := true) only [TF, q1, mapC, map1, ↓reduceIte, Int.reduceToNat]
  refine hK _ _ ?_; clear hK K
  refine WP.cond (b := true) (by rfl) (fun _ => ?_) nofun
  refine WP.sr [2, 3] (by kernel_rfl) fun K hK => ?_
  simp (decide := true) only [TF, q1, mapC, map1, ↓reduceIte, Int.reduceToNat]
  refine hK _ _ ?_; clear hK K
  refine WP.ret ?_
  exact Ends.pure (d := .tup [_, _]) (.inr rfl) rfl ((by simp (decide := true) only [St.get, lk, W, Pr_prog, t_szD_36, t_aggD_36, z36, List.take_succ_cons, List.take_zero, q1, ↓reduceIte, Int.reduceToNat]; first | (rw [hN]; exact Le.junks rfl) | (refine Le.trans Le.tips ?_; have h := rd_fin h3 h0 h2 hnm hC hS (by omega); simp only [q1, Bool.true_and, Bool.false_and, Bool.and_false, Bool.and_true, Bool.false_eq_true] at h; exact h))) (by simp)
 ·
  have hnm : [] ∉ ws := by simpa using q1
  simp (decide := true) only [TF, q1, mapC, map1, ↓reduceIte, Int.reduceToNat]
  refine CallK.pure (c_r_wd ws false 0 nofun) rfl rfl (by simp [-List.map_take]) ?_
  refine runOps.take 3 fun J hJ => ?_
  simp (decide := true) only [TF, q1, mapC, map1, ↓reduceIte, Int.reduceToNat]
  refine hJ _ _ ?_; clear hJ J
  refine runOps.part 26 rfl (fun q2 => ?_) (fun q2 => ?_)
  ·
   have hN := rdLine_none (ws := ws) (.inr (.inl (by simpa using q2)))
   simp (decide := true) only [TF, q1, q2, mapC, map1, ↓reduceIte, Int.reduceToNat]
   refine hK _ _ ?_; clear hK K
   refine WP.cond (b := true) (by rfl) (fun _ => ?_) nofun
   refine WP.sr [2, 3] (by kernel_rfl) fun K hK => ?_
   simp (decide := true) only [TF, q1, q2, mapC, map1, ↓reduceIte, Int.reduceToNat]
   refine hK _ _ ?_; clear hK K
   refine WP.ret ?_
   exact Ends.pure (d := .tup [_, _]) (.inr rfl) rfl ((by simp (decide := true) only [St.get, lk, W, Pr_prog, t_szD_36, t_aggD_36, z36, List.take_succ_cons, List.take_zero, q1, q2, ↓reduceIte, Int.reduceToNat]; first | (rw [hN]; exact Le.junks rfl) | (refine Le.trans Le.tips ?_; have h := rd_fin h3 h0 h2 hnm hC hS (by omega); simp only [q1, q2, Bool.true_and, Bool.false_and, Bool.and_false, Bool.and_true, Bool.false_eq_true] at h; exact h))) (by simp)
  ·
   have h0 : wdAt ws 0 = [114, 117, 108, 101] := by simpa using q2
   refine runOps.take 4 fun J hJ => ?_
   simp (decide := true) only [TF, q1, q2, mapC, map1, ↓reduceIte, Int.reduceToNat]
   refine hJ _ _ ?_; clear hJ J
   refine runOps.part 30 rfl (fun q3 => ?_) (fun q3 => ?_)
   ·
    simp only [Bool.not_eq_true', Bool.not_eq_false'] at q3
    have hnd : ¬ (wdAt ws 2 = [100, 101, 110, 121]) := by simpa using q3
    simp (decide := true) only [TF, q1, q2, q3, mapC, map1, ↓reduceIte, Int.reduceToNat]
    refine CallK.pure (c_r_wd ws false 2 nofun) rfl rfl (by simp [-List.map_take]) ?_
    simp (decide := true) only [TF, q1, q2, q3, mapC, map1, ↓reduceIte, Int.reduceToNat]
    refine hK _ _ ?_; clear hK K
    refine WP.cond (b := _) rfl (fun q4 => ?_) (fun q4 => ?_)
    ·
     have hN := rdLine_none (ws := ws) (.inr (.inr (.inl ⟨by simpa using q4, hnd⟩)))
     refine WP.sr [2, 3] (by kernel_rfl) fun K hK => ?_
     simp (decide := true) only [TF, q1, q2, q3, q4, mapC, map1, ↓reduceIte, Int.reduceToNat]
     refine hK _ _ ?_; clear hK K
     refine WP.ret ?_
     exact Ends.pure (d := .tup [_, _]) (.inr rfl) rfl ((by simp (decide := true) only [St.get, lk, W, Pr_prog, t_szD_36, t_aggD_36, z36, List.take_succ_cons, List.take_zero, q1, q2, q3, q4, ↓reduceIte, Int.reduceToNat]; first | (rw [hN]; exact Le.junks rfl) | (refine Le.trans Le.tips ?_; have h := rd_fin h3 h0 h2 hnm hC hS (by omega); simp only [q1, q2, q3, q4, Bool.true_and, Bool.false_and, Bool.and_false, Bool.and_true, Bool.false_eq_true] at h; exact h))) (by simp)
    ·
     have h2 : wdAt ws 2 = [112, 101, 114, 109, 105, 116] ∨ wdAt ws 2 = [100, 101, 110, 121] := .inl (by simpa using q4)
     have h3 : 3 ≤ ws.length := verb3 h2
     refine WP.skip ?_
     show WP _ _ _ _ _ _
     refine WP.weak (Weak.ghost 2 43 3 (σ' := [(1, .box 36 [.str (wdAt ws 1), .bool (wdAt ws 2 == [100, 101, 110, 121]), .slice 3 true [] (some 2), .slice 0 true [] none, .int .i64 0, .int .i64 0]), (0, .box 36 [.str [], .bool false, .slice 0 true [] none, .slice 0 true [] none, .int .i64 0, .int .i64 0])]) (by simp [lk, W]) (UpF.refl _ _ _) (by simp [UpS, UpB, UpL, UpD, q1, q2, q3, q4])) ?_
     refine WP.weak (Weak.ghost 3 9 1 (σ' := [(2, .tip 43 3 0), (1, .box 36 [.str (wdAt ws 1), .bool (wdAt ws 2 == [100, 101, 110, 121]), .slice 3 true [] (some 2), .slice 1 true [] (some 3), .int .i64 0, .int .i64 0]), (0, .box 36 [.str [], .bool false, .slice 0 true [] none, .slice 0 true [] none, .int .i64 0, .int .i64 0])]) (by simp [lk, W]) (UpF.refl _ _ _) (by simp [UpS, UpB, UpL, UpD, q1, q2, q3, q4])) ?_
     refine WP.sr [0, 2, 4, 5] (by kernel_rfl) fun K hK => ?_
     simp (decide := true) only [TF, q1, q2, q3, q4, mapC, map1, ↓reduceIte, Int.reduceToNat]
     refine hK _ _ ?_; clear hK K
     refine WP.seq ?_
     refine WP.sr [0, 2, 4, 5, 6] (by kernel_rfl) fun K hK => ?_
     simp (decide := true) only [TF, q1, q2, q3, q4, mapC, map1, ↓reduceIte, Int.reduceToNat]
     refine hK _ _ ?_; clear hK K
     refine WP.block ?_
     refine WP.lp [0, 2, 4] (X := {x : (Nat) × (List UInt8) × (List Cond) // match x with | (i, lead, cs) => 3 ≤ i ∧ i ≤ ws.length ∧ cs.length ≤ i ∧ lead ≠ [] ∧ ∃ n, ws.length ≤ i + n ∧ cdR ((ws.drop 3).length + 1) [105, 102] (ws.drop 3) [] = cdR (n + 1) lead (ws.drop i) cs}) (fun x => match x with | ⟨(i, lead, cs), _⟩ => [(5, .int .i64 i), (6, .str lead)]) (fun x => match x with | ⟨(i, lead, cs), _⟩ => [(3, .tip 9 1 0), (2, .tip 43 3 cs.length), (1, .box 36 [.str (wdAt ws 1), .bool (wdAt ws 2 == [100, 101, 110, 121]), .slice 3 (cs).isEmpty ((cs).map Cond.cs) (some 2), .slice 1 true [] (some 3), .int .i64 0, .int .i64 0]), (0, .box 36 [.str [], .bool false, .slice 0 true [] none, .slice 0 true [] none, .int .i64 0, .int .i64 0])]) (fun x => match x with | ⟨(i, lead, cs), _⟩ => ws.length - i) (by simp (decide := true) only [W, ↓reduceIte, Int.reduceToNat]; rfl) ?_ ⟨(3, [105, 102], []), ⟨Nat.le_refl _, h3, by simp, by simp, (ws.drop 3).length, by simp; omega, rfl⟩⟩ ?_
     rotate_left
     · exact Weak.store (by simp [St.get, lk, W, Le.refl, q1, q2, q3, q4]) (by simp [lk, W, isE1, q1, q2, q3, q4]) (by simp [lk]) (by simp [BClo, lk, -List.map_append]) (by simp [lk])
     rintro ⟨⟨i, lead, cs⟩, hI⟩
     dsimp only
     simp only [List.cons_append, List.nil_append]
     dsimp only at hI
     obtain ⟨hi3, hil, hcl, hld, n, hn, hC⟩ := hI
     have hw1 : IntKind.wrap .i64 ((i : Int) + 1) = ((i + 1 : Nat) : Int) := by rw [wrap_i64 (by omega) (by omega)]; rfl
     have hw2 : IntKind.wrap .i64 ((i : Int) + 2) = ((i + 2 : Nat) : Int) := by rw [wrap_i64 (by omega) (by omega)]; rfl
     have hw3 : IntKind.wrap .i64 ((i : Int) + 3) = ((i + 3 : Nat) : Int) := by rw [wrap_i64 (by omega) (by omega)]; rfl
     have hw4 : IntKind.wrap .i64 ((i : Int) + 4) = ((i + 4 : Nat) : Int) := by rw [wrap_i64 (by omega) (by omega)]; rfl
     refine WP.seq ?_
     refine WP.sr [0, 2, 4, 5, 41] (by kernel_rfl) fun K hK => ?_
     simp (decide := true) only [TF, q1, q2, q3, q4, hw1, hw2, hw3, hw4, mapC, map1, ↓reduceIte, Int.reduceToNat]
     refine CallK.pure (c_r_wd ws false i nofun) rfl rfl (by simp [-List.map_take]) ?_
     simp (decide := true) only [TF, q1, q2, q3, q4, hw1, hw2, hw3, hw4, mapC, map1, ↓reduceIte, Int.reduceToNat]
     refine hK _ _ ?_; clear hK K
     refine WP.cond (b := _) rfl (fun q5 => ?_) (fun q5 => ?_)
     ·
      have hw : wdAt ws i = lead := by simpa using q5
      have hlt := wdAt_ne hld hw
      refine WP.skip ?_
      show WP _ _ _ _ _ _
      refine WP.seq ?_
      refine WP.block ?_
      rcases un_cases (wdAt ws (i + 3)) with ⟨u, hu, hun⟩ | ⟨hu, hun⟩
      ·
       refine WP.sr [0, 2, 4, 5, 7, 8] (by kernel_rfl) fun K hK => ?_
       simp (decide := true) only [TF, q1, q2, q3, q4, hw1, hw2, hw3, hw4, q5, hu, mapC, map1, ↓reduceIte, Int.reduceToNat]
       refine CallK.pure (c_r_wd ws false (i + 3) nofun) rfl rfl (by simp [-List.map_take]) ?_
       simp (decide := true) only [TF, q1, q2, q3, q4, hw1, hw2, hw3, hw4, q5, hu, mapC, map1, ↓reduceIte, Int.reduceToNat]
       refine CallK.pure (c_r_unescape (wdAt ws (i + 3)) (hvw _)) rfl rfl (by simp [-List.map_take]) ?_
       simp (decide := true) only [TF, q1, q2, q3, q4, hw1, hw2, hw3, hw4, q5, hu, mapC, map1, ↓reduceIte, Int.reduceToNat]
       refine hK _ _ ?_; clear hK K
       refine WP.seq ?_
       refine WP.sr [0, 2, 4, 5, 7, 58] (by kernel_rfl) fun K hK => ?_
       refine runOps.take 6 fun J hJ => ?_
       simp (decide := true) only [TF, q1, q2, q3, q4, hw1, hw2, hw3, hw4, q5, hu, mapC, map1, ↓reduceIte, Int.reduceToNat]
       refine hJ _ _ ?_; clear hJ J
       refine runOps.part 55 rfl (fun q6 => ?_) (fun q6 => ?_)
       ·
        have hb : ws.length ≤ i + 3 := by have := of_decide_eq_true q6; omega
        have hN := rdLine_bad (readF_bad1 (by rw [hC]; exact cdR_bad hld hw (.inl hb)))
        simp (decide := true) only [TF, q1, q2, q3, q4, hw1, hw2, hw3, hw4, q5, hu, q6, mapC, map1, ↓reduceIte, Int.reduceToNat]
        refine hK _ _ ?_; clear hK K
        refine WP.cond (b := true) (by rfl) (fun _ => ?_) nofun
        refine WP.sr [2, 3] (by kernel_rfl) fun K hK => ?_
        simp (decide := true) only [TF, q1, q2, q3, q4, hw1, hw2, hw3, hw4, q5, hu, q6, mapC, map1, ↓reduceIte, Int.reduceToNat]
        refine hK _ _ ?_; clear hK K
        refine WP.ret ?_
        exact Ends.pure (d := .tup [_, _]) (.inr rfl) rfl ((by simp (decide := true) only [St.get, lk, W, Pr_prog, t_szD_36, t_aggD_36, z36, List.take_succ_cons, List.take_zero, q1, q2, q3, q4, hw1, hw2, hw3, hw4, q5, hu, q6, ↓reduceIte, Int.reduceToNat]; first | (rw [hN]; exact Le.junks rfl) | (refine Le.trans Le.tips ?_; have h := rd_fin h3 h0 h2 hnm hC hS (by omega); simp only [q1, q2, q3, q4, hw1, hw2, hw3, hw4, q5, hu, q6, Bool.true_and, Bool.false_and, Bool.and_false, Bool.and_true, Bool.false_eq_true] at h; exact h))) (by simp)
       ·
        have hb : i + 3 < ws.length := by have := of_decide_eq_false q6; omega
        have hg1 : (ws.map fun x => [D.str x])[i + 1]? = some [.str (wdAt ws (i + 1))] := by rw [wdAt_lt (show i + 1 < ws.length by omega)]; exact getM _
        have hg2 : (ws.map fun x => [D.str x])[i + 2]? = some [.str (wdAt ws (i + 2))] := by rw [wdAt_lt (show i + 2 < ws.length by omega)]; exact getM _
        simp (decide := true) only [TF, q1, q2, q3, q4, hw1, hw2, hw3, hw4, q5, hu, q6, hg1, hg2, mapC, map1, ↓reduceIte, Int.reduceToNat]
        refine hK _ _ ?_; clear hK K
        refine WP.cond (b := false) (by rfl) nofun (fun _ => ?_)
        refine WP.skip ?_
        show WP _ _ _ _ _ _
        refine WP.sd [0, 2, 4, 5] (by kernel_rfl) (by kernel_rfl) fun K hK => ?_
        simp (decide := true) only [TF, q1, q2, q3, q4, hw1, hw2, hw3, hw4, q5, hu, q6, hg1, hg2, mapC, map1, ↓reduceIte, Int.reduceToNat]
        refine ⟨⟨by simp only [List.length_append, List.length_map, List.length_cons, List.length_nil]; omega, by simp only [List.length_append, List.length_map, List.length_cons, List.length_nil]; omega⟩, ?_⟩
        refine hK _ _ (by kernel_rfl) ?_
        clear hK K
        refine WP.region (by kernel_rfl) fun K hK => ?_
        simp (decide := true) only [TF, q1, q2, q3, q4, hw1, hw2, hw3, hw4, q5, hu, q6, hg1, hg2, mapC, map1, ↓reduceIte, Int.reduceToNat]
        refine hK _ _ ?_; clear hK K
        show WP _ _ _ _ _ _
        refine WP.region (by kernel_rfl) fun K hK => ?_
        simp (decide := true) only [TF, q1, q2, q3, q4, hw1, hw2, hw3, hw4, q5, hu, q6, hg1, hg2, mapC, map1, ↓reduceIte, Int.reduceToNat]
        refine hK _ _ ?_; clear hK K
        show ∃ y, _ ∧ Weak _ _ _
        obtain ⟨m, rfl⟩ : ∃ m, n = m + 1 := ⟨n - 1, by omega⟩
        refine ⟨⟨(i + 4, [97, 110, 100], cs ++ [⟨wdAt ws (i + 1), wdAt ws (i + 2), u⟩]), ?_⟩, ?_, ?_⟩
        · exact ⟨by omega, by omega, by simp; omega, by simp, m, by omega, by rw [hC, cdR_ok hld hw hb hun]⟩
        · dsimp only; omega
        · exact Weak.store (by simp [St.get, lk, W, Le.refl, q1, q2, q3, q4, hw1, hw2, hw3, hw4, q5, hu, q6, hg1, hg2]) (by simp [lk, W, isE1, q1, q2, q3, q4, hw1, hw2, hw3, hw4, q5, hu, q6, hg1, hg2]) (by simp [lk]) (by simp [BClo, lk, or_imp, forall_and, Cond.cs]) (by simp [lk])
      ·
       have hN := rdLine_bad (readF_bad1 (by rw [hC]; exact cdR_bad hld hw (.inr hun)))
       refine WP.sr [0, 2, 4, 5, 7, 8] (by kernel_rfl) fun K hK => ?_
       simp (decide := true) only [TF, q1, q2, q3, q4, hw1, hw2, hw3, hw4, q5, hu, mapC, map1, ↓reduceIte, Int.reduceToNat]
       refine CallK.pure (c_r_wd ws false (i + 3) nofun) rfl rfl (by simp [-List.map_take]) ?_
       simp (decide := true) only [TF, q1, q2, q3, q4, hw1, hw2, hw3, hw4, q5, hu, mapC, map1, ↓reduceIte, Int.reduceToNat]
       refine CallK.pure (c_r_unescape (wdAt ws (i + 3)) (hvw _)) rfl rfl (by simp [-List.map_take]) ?_
       simp (decide := true) only [TF, q1, q2, q3, q4, hw1, hw2, hw3, hw4, q5, hu, mapC, map1, ↓reduceIte, Int.reduceToNat]
       refine hK _ _ ?_; clear hK K
       refine WP.seq ?_
       refine WP.sr [0, 2, 4, 5, 7, 58] (by kernel_rfl) fun K hK => ?_
       refine runOps.take 6 fun J hJ => ?_
       simp (decide := true) only [TF, q1, q2, q3, q4, hw1, hw2, hw3, hw4, q5, hu, mapC, map1, ↓reduceIte, Int.reduceToNat]
       refine hJ _ _ ?_; clear hJ J
       refine runOps.part 55 rfl (fun q7 => ?_) (fun q7 => ?_)
       ·
        have hb : ws.length ≤ i + 3 := by have := of_decide_eq_true q7; omega
        have hN := rdLine_bad (readF_bad1 (by rw [hC]; exact cdR_bad hld hw (.inl hb)))
        simp (decide := true) only [TF, q1, q2, q3, q4, hw1, hw2, hw3, hw4, q5, hu, q7, mapC, map1, ↓reduceIte, Int.reduceToNat]
        refine hK _ _ ?_; clear hK K
        refine WP.cond (b := true) (by rfl) (fun _ => ?_) nofun
        refine WP.sr [2, 3] (by kernel_rfl) fun K hK => ?_
        simp (decide := true) only [TF, q1, q2, q3, q4, hw1, hw2, hw3, hw4, q5, hu, q7, mapC, map1, ↓reduceIte, Int.reduceToNat]
        refine hK _ _ ?_; clear hK K
        refine WP.ret ?_
        exact Ends.pure (d := .tup [_, _]) (.inr rfl) rfl ((by simp (decide := true) only [St.get, lk, W, Pr_prog, t_szD_36, t_aggD_36, z36, List.take_succ_cons, List.take_zero, q1, q2, q3, q4, hw1, hw2, hw3, hw4, q5, hu, q7, ↓reduceIte, Int.reduceToNat]; first | (rw [hN]; exact Le.junks rfl) | (refine Le.trans Le.tips ?_; have h := rd_fin h3 h0 h2 hnm hC hS (by omega); simp only [q1, q2, q3, q4, hw1, hw2, hw3, hw4, q5, hu, q7, Bool.true_and, Bool.false_and, Bool.and_false, Bool.and_true, Bool.false_eq_true] at h; exact h))) (by simp)
       ·
        have hb : i + 3 < ws.length := by have := of_decide_eq_false q7; omega
        have hg1 : (ws.map fun x => [D.str x])[i + 1]? = some [.str (wdAt ws (i + 1))] := by rw [wdAt_lt (show i + 1 < ws.length by omega)]; exact getM _
        have hg2 : (ws.map fun x => [D.str x])[i + 2]? = some [.str (wdAt ws (i + 2))] := by rw [wdAt_lt (show i + 2 < ws.length by omega)]; exact getM _
        simp (decide := true) only [TF, q1, q2, q3, q4, hw1, hw2, hw3, hw4, q5, hu, q7, hg1, hg2, mapC, map1, ↓reduceIte, Int.reduceToNat]
        refine hK _ _ ?_; clear hK K
        refine WP.cond (b := true) (by rfl) (fun _ => ?_) nofun
        refine WP.sr [2, 3] (by kernel_rfl) fun K hK => ?_
        simp (decide := true) only [TF, q1, q2, q3, q4, hw1, hw2, hw3, hw4, q5, hu, q7, hg1, hg2, mapC, map1, ↓reduceIte, Int.reduceToNat]
        refine hK _ _ ?_; clear hK K
        refine WP.ret ?_
        exact Ends.pure (d := .tup [_, _]) (.inr rfl) rfl ((by simp (decide := true) only [St.get, lk, W, Pr_prog, t_szD_36, t_aggD_36, z36, List.take_succ_cons, List.take_zero, q1, q2, q3, q4, hw1, hw2, hw3, hw4, q5, hu, q7, hg1, hg2, ↓reduceIte, Int.reduceToNat]; first | (rw [hN]; exact Le.junks rfl) | (refine Le.trans Le.tips ?_; have h := rd_fin h3 h0 h2 hnm hC hS (by omega); simp only [q1, q2, q3, q4, hw1, hw2, hw3, hw4, q5, hu, q7, hg1, hg2, Bool.true_and, Bool.false_and, Bool.and_false, Bool.and_true, Bool.false_eq_true] at h; exact h))) (by simp)
     ·
      have hw : ¬ wdAt ws i = lead := by simpa using q5
      rw [cdR_end hld hw] at hC
      refine WP.exit ?_
      show WP _ _ _ _ _ _
      refine WP.seq ?_
      refine WP.sr [0, 2, 4, 5, 82] (by kernel_rfl) fun K hK => ?_
      simp (decide := true) only [TF, q1, q2, q3, q4, hw1, hw2, hw3, hw4, q5, mapC, map1, ↓reduceIte, Int.reduceToNat]
      refine CallK.pure (c_r_wd ws false i nofun) rfl rfl (by simp [-List.map_take]) ?_
      simp (decide := true) only [TF, q1, q2, q3, q4, hw1, hw2, hw3, hw4, q5, mapC, map1, ↓reduceIte, Int.reduceToNat]
      refine hK _ _ ?_; clear hK K
      refine WP.cond (b := _) rfl (fun q8 => ?_) (fun q8 => ?_)
      ·
       have hsc : wdAt ws i = [115, 99, 111, 112, 101, 115] := by simpa using q8
       have hlt := wdAt_ne (by simp) hsc
       refine WP.seq ?_
       refine WP.sr [0, 2, 4, 5] (by kernel_rfl) fun K hK => ?_
       simp (decide := true) only [TF, q1, q2, q3, q4, hw1, hw2, hw3, hw4, q5, q8, mapC, map1, ↓reduceIte, Int.reduceToNat]
       refine hK _ _ ?_; clear hK K
       refine WP.block ?_
       refine WP.lp [0, 2, 4] (X := {x : (Nat) × (Wds) // match x with | (j, sc) => i + 1 ≤ j ∧ j ≤ ws.length ∧ sc.length ≤ j ∧ scR (ws.drop (i + 1)) [] = scR (ws.drop j) sc}) (fun x => match x with | ⟨(j, sc), _⟩ => [(5, .int .i64 j)]) (fun x => match x with | ⟨(j, sc), _⟩ => [(3, .tip 9 1 sc.length), (2, .tip 43 3 cs.length), (1, .box 36 [.str (wdAt ws 1), .bool (wdAt ws 2 == [100, 101, 110, 121]), .slice 3 (cs).isEmpty ((cs).map Cond.cs) (some 2), .slice 1 (sc).isEmpty ((sc).map fun x => [D.str x]) (some 3), .int .i64 0, .int .i64 0]), (0, .box 36 [.str [], .bool false, .slice 0 true [] none, .slice 0 true [] none, .int .i64 0, .int .i64 0])]) (fun x => match x with | ⟨(j, sc), _⟩ => ws.length - j) (by simp (decide := true) only [W, ↓reduceIte, Int.reduceToNat]; rfl) ?_ ⟨(i + 1, []), ⟨Nat.le_refl _, hlt, by simp, rfl⟩⟩ ?_
       rotate_left
       · exact Weak.store (by simp [St.get, lk, W, Le.refl, q1, q2, q3, q4, hw1, hw2, hw3, hw4, q5, q8]) (by simp [lk, W, isE1, q1, q2, q3, q4, hw1, hw2, hw3, hw4, q5, q8]) (by simp [lk]) (by simp [BClo, lk, -List.map_append]) (by simp [lk])
       rintro ⟨⟨j, sc⟩, hI⟩
       dsimp only
       simp only [List.cons_append, List.nil_append]
       dsimp only at hI
       obtain ⟨hj1, hjl, hsl, hI⟩ := hI
       have hv1 : IntKind.wrap .i64 ((j : Int) + 1) = ((j + 1 : Nat) : Int) := by rw [wrap_i64 (by omega) (by omega)]; rfl
       refine WP.seq ?_
       refine WP.sr [0, 2, 4, 5, 102] (by kernel_rfl) fun K hK => ?_
       refine runOps.take 5 fun J hJ => ?_
       simp (decide := true) only [TF, q1, q2, q3, q4, hw1, hw2, hw3, hw4, q5, q8, hv1, mapC, map1, ↓reduceIte, Int.reduceToNat]
       refine hJ _ _ ?_; clear hJ J
       refine runOps.part 89 rfl (fun q9 => ?_) (fun q9 => ?_)
       ·
        have hjt := lt_of_q q9
        have hg : (ws.map fun x => [D.str x])[j]? = some [.str ws[j]] := getM hjt
        refine runOps.take 7 fun J hJ => ?_
        simp (decide := true) only [TF, q1, q2, q3, q4, hw1, hw2, hw3, hw4, q5, q8, hv1, q9, hg, mapC, map1, ↓reduceIte, Int.reduceToNat]
        refine hJ _ _ ?_; clear hJ J
        refine runOps.part 96 rfl (fun q10 => ?_) (fun q10 => ?_)
        ·
         have h5 : ¬ ws[j] = [108, 101, 118, 101, 108] := by simpa using q10
         simp (decide := true) only [TF, q1, q2, q3, q4, hw1, hw2, hw3, hw4, q5, q8, hv1, q9, hg, q10, mapC, map1, ↓reduceIte, Int.reduceToNat]
         refine hK _ _ ?_; clear hK K
         refine WP.cond (b := _) rfl (fun q11 => ?_) (fun q11 => ?_)
         ·
          have h6 : ¬ ws[j] = [97, 103, 101] := by simpa using q11
          refine WP.skip ?_
          show WP _ _ _ _ _ _
          refine WP.seq ?_
          refine WP.block ?_
          refine WP.drawn (by kernel_rfl) (by kernel_rfl) fun K hK => ?_
          simp (decide := true) only [TF, q1, q2, q3, q4, hw1, hw2, hw3, hw4, q5, q8, hv1, q9, hg, q10, q11, mapC, map1, ↓reduceIte, Int.reduceToNat]
          refine ⟨⟨by simp only [List.length_append, List.length_map, List.length_cons, List.length_nil]; omega, by simp only [List.length_append, List.length_map, List.length_cons, List.length_nil]; omega⟩, ?_⟩
          refine hK _ _ (by kernel_rfl) ?_
          clear hK K
          show WP _ _ _ _ _ _
          refine WP.region (by kernel_rfl) fun K hK => ?_
          simp (decide := true) only [TF, q1, q2, q3, q4, hw1, hw2, hw3, hw4, q5, q8, hv1, q9, hg, q10, q11, mapC, map1, ↓reduceIte, Int.reduceToNat]
          refine hK _ _ ?_; clear hK K
          show ∃ y, _ ∧ Weak _ _ _
          refine ⟨⟨(j + 1, sc ++ [ws[j]]), ?_⟩, ?_, ?_⟩
          · exact ⟨by omega, by omega, by simp; omega, by rw [hI, scR_step hjt h5 h6]⟩
          · dsimp only; omega
          · exact Weak.store (by simp [St.get, lk, W, Le.refl, q1, q2, q3, q4, hw1, hw2, hw3, hw4, q5, q8, hv1, q9, hg, q10, q11]) (by simp [lk, W, isE1, q1, q2, q3, q4, hw1, hw2, hw3, hw4, q5, q8, hv1, q9, hg, q10, q11]) (by simp [lk]) (by simp [BClo, lk, or_imp, forall_and, Cond.cs]) (by simp [lk])
         ·
          have hE := scR_end (sc := sc) (.inr ⟨hjt, .inr (by simpa using q11)⟩)
          refine WP.exit ?_
          show WP _ _ _ _ _ _
          refine WP.sr [0, 2, 4, 5, 117] (by kernel_rfl) fun K hK => ?_
          simp (decide := true) only [TF, q1, q2, q3, q4, hw1, hw2, hw3, hw4, q5, q8, hv1, q9, hg, q10, q11, mapC, map1, ↓reduceIte, Int.reduceToNat]
          refine hK _ _ ?_; clear hK K
          refine WP.cond (b := _) rfl (fun q12 => ?_) (fun q12 => ?_)
          ·
           have hN := rdLine_bad (readF_bad2 hC (by rw [rdScp_yes hsc, hI, hE, show (sc.length : Int) = 0 by simpa using q12]; rfl))
           refine WP.sr [2, 3] (by kernel_rfl) fun K hK => ?_
           simp (decide := true) only [TF, q1, q2, q3, q4, hw1, hw2, hw3, hw4, q5, q8, hv1, q9, hg, q10, q11, q12, mapC, map1, ↓reduceIte, Int.reduceToNat]
           refine hK _ _ ?_; clear hK K
           refine WP.ret ?_
           exact Ends.pure (d := .tup [_, _]) (.inr rfl) rfl ((by simp (decide := true) only [St.get, lk, W, Pr_prog, t_szD_36, t_aggD_36, z36, List.take_succ_cons, List.take_zero, q1, q2, q3, q4, hw1, hw2, hw3, hw4, q5, q8, hv1, q9, hg, q10, q11, q12, ↓reduceIte, Int.reduceToNat]; first | (rw [hN]; exact Le.junks rfl) | (refine Le.trans Le.tips ?_; have h := rd_fin h3 h0 h2 hnm hC hS (by omega); simp only [q1, q2, q3, q4, hw1, hw2, hw3, hw4, q5, q8, hv1, q9, hg, q10, q11, q12, Bool.true_and, Bool.false_and, Bool.and_false, Bool.and_true, Bool.false_eq_true] at h; exact h))) (by simp)
          ·
           have hS : rdScp true (ws.drop i) = (true, ws.drop j, sc) := by
                    have hp : ¬ ((sc.length : Int) = 0) := by simpa using q12
                    rw [rdScp_yes hsc, hI, hE, decide_eq_true (show (sc.length : Int) > 0 by omega)]
           refine WP.skip ?_
           show WP _ _ _ _ _ _
           refine WP.sr [0, 2, 4, 5, 9, 10] (by kernel_rfl) fun K hK => ?_
           simp (decide := true) only [TF, q1, q2, q3, q4, hw1, hw2, hw3, hw4, q5, q8, hv1, q9, hg, q10, q11, q12, mapC, map1, ↓reduceIte, Int.reduceToNat]
           refine CallK.pure (c_r_tail ws false j [108, 101, 118, 101, 108] nofun (by omega) (hvw _)) rfl rfl (by simp [-List.map_take]) ?_
           simp (decide := true) only [TF, q1, q2, q3, q4, hw1, hw2, hw3, hw4, q5, q8, hv1, q9, hg, q10, q11, q12, mapC, map1, ↓reduceIte, Int.reduceToNat]
           refine hK _ _ ?_; clear hK K
           refine WP.sr [0, 2, 4, 5, 9, 10, 11, 12] (by kernel_rfl) fun K hK => ?_
           simp (decide := true) only [TF, q1, q2, q3, q4, hw1, hw2, hw3, hw4, q5, q8, hv1, q9, hg, q10, q11, q12, mapC, map1, ↓reduceIte, Int.reduceToNat]
           refine CallK.pure (c_r_tail ws false (tailR ws j [108, 101, 118, 101, 108]).2.1 [97, 103, 101] nofun (by have := tailR_le ws j [108, 101, 118, 101, 108]; omega) (hvw _)) rfl rfl (by simp [-List.map_take]) ?_
           simp (decide := true) only [TF, q1, q2, q3, q4, hw1, hw2, hw3, hw4, q5, q8, hv1, q9, hg, q10, q11, q12, mapC, map1, ↓reduceIte, Int.reduceToNat]
           refine hK _ _ ?_; clear hK K
           refine WP.sr [0, 2, 4, 5, 10, 11, 12] (by kernel_rfl) fun K hK => ?_
           simp (decide := true) only [TF, q1, q2, q3, q4, hw1, hw2, hw3, hw4, q5, q8, hv1, q9, hg, q10, q11, q12, mapC, map1, ↓reduceIte, Int.reduceToNat]
           refine hK _ _ ?_; clear hK K
           refine WP.sr [0, 2, 4, 5, 10, 12] (by kernel_rfl) fun K hK => ?_
           simp (decide := true) only [TF, q1, q2, q3, q4, hw1, hw2, hw3, hw4, q5, q8, hv1, q9, hg, q10, q11, q12, mapC, map1, ↓reduceIte, Int.reduceToNat]
           refine hK _ _ ?_; clear hK K
           refine WP.sr [2, 3] (by kernel_rfl) fun K hK => ?_
           refine runOps.take 3 fun J hJ => ?_
           simp (decide := true) only [TF, q1, q2, q3, q4, hw1, hw2, hw3, hw4, q5, q8, hv1, q9, hg, q10, q11, q12, mapC, map1, ↓reduceIte, Int.reduceToNat]
           refine hJ _ _ ?_; clear hJ J
           refine runOps.part 139 rfl (fun q13 => ?_) (fun q13 => ?_)
           ·
            refine runOps.take 3 fun J hJ => ?_
            simp (decide := true) only [TF, q1, q2, q3, q4, hw1, hw2, hw3, hw4, q5, q8, hv1, q9, hg, q10, q11, q12, q13, mapC, map1, ↓reduceIte, Int.reduceToNat]
            refine hJ _ _ ?_; clear hJ J
            refine runOps.part 142 rfl (fun q14 => ?_) (fun q14 => ?_)
            ·
             simp (decide := true) only [TF, q1, q2, q3, q4, hw1, hw2, hw3, hw4, q5, q8, hv1, q9, hg, q10, q11, q12, q13, q14, mapC, map1, ↓reduceIte, Int.reduceToNat]
             refine hK _ _ ?_; clear hK K
             refine WP.ret ?_
             exact Ends.pure (d := .tup [_, _]) (.inr rfl) rfl ((by simp (decide := true) only [St.get, lk, W, Pr_prog, t_szD_36, t_aggD_36, z36, List.take_succ_cons, List.take_zero, q1, q2, q3, q4, hw1, hw2, hw3, hw4, q5, q8, hv1, q9, hg, q10, q11, q12, q13, q14, ↓reduceIte, Int.reduceToNat]; first | (rw [hN]; exact Le.junks rfl) | (refine Le.trans Le.tips ?_; have h := rd_fin h3 h0 h2 hnm hC hS (by omega); simp only [q1, q2, q3, q4, hw1, hw2, hw3, hw4, q5, q8, hv1, q9, hg, q10, q11, q12, q13, q14, Bool.true_and, Bool.false_and, Bool.and_false, Bool.and_true, Bool.false_eq_true] at h; exact h))) (by simp)
            ·
             simp (decide := true) only [TF, q1, q2, q3, q4, hw1, hw2, hw3, hw4, q5, q8, hv1, q9, hg, q10, q11, q12, q13, q14, mapC, map1, ↓reduceIte, Int.reduceToNat]
             refine hK _ _ ?_; clear hK K
             refine WP.ret ?_
             exact Ends.pure (d := .tup [_, _]) (.inr rfl) rfl ((by simp (decide := true) only [St.get, lk, W, Pr_prog, t_szD_36, t_aggD_36, z36, List.take_succ_cons, List.take_zero, q1, q2, q3, q4, hw1, hw2, hw3, hw4, q5, q8, hv1, q9, hg, q10, q11, q12, q13, q14, ↓reduceIte, Int.reduceToNat]; first | (rw [hN]; exact Le.junks rfl) | (refine Le.trans Le.tips ?_; have h := rd_fin h3 h0 h2 hnm hC hS (by omega); simp only [q1, q2, q3, q4, hw1, hw2, hw3, hw4, q5, q8, hv1, q9, hg, q10, q11, q12, q13, q14, Bool.true_and, Bool.false_and, Bool.and_false, Bool.and_true, Bool.false_eq_true] at h; exact h))) (by simp)
           ·
            simp (decide := true) only [TF, q1, q2, q3, q4, hw1, hw2, hw3, hw4, q5, q8, hv1, q9, hg, q10, q11, q12, q13, mapC, map1, ↓reduceIte, Int.reduceToNat]
            refine hK _ _ ?_; clear hK K
            refine WP.ret ?_
            exact Ends.pure (d := .tup [_, _]) (.inr rfl) rfl ((by simp (decide := true) only [St.get, lk, W, Pr_prog, t_szD_36, t_aggD_36, z36, List.take_succ_cons, List.take_zero, q1, q2, q3, q4, hw1, hw2, hw3, hw4, q5, q8, hv1, q9, hg, q10, q11, q12, q13, ↓reduceIte, Int.reduceToNat]; first | (rw [hN]; exact Le.junks rfl) | (refine Le.trans Le.tips ?_; have h := rd_fin h3 h0 h2 hnm hC hS (by omega); simp only [q1, q2, q3, q4, hw1, hw2, hw3, hw4, q5, q8, hv1, q9, hg, q10, q11, q12, q13, Bool.true_and, Bool.false_and, Bool.and_false, Bool.and_true, Bool.false_eq_true] at h; exact h))) (by simp)
        ·
         have hE := scR_end (sc := sc) (.inr ⟨hjt, .inl (by simpa using q10)⟩)
         simp (decide := true) only [TF, q1, q2, q3, q4, hw1, hw2, hw3, hw4, q5, q8, hv1, q9, hg, q10, mapC, map1, ↓reduceIte, Int.reduceToNat]
         refine hK _ _ ?_; clear hK K
         refine WP.cond (b := false) (by rfl) nofun (fun _ => ?_)
         refine WP.exit ?_
         show WP _ _ _ _ _ _
         refine WP.sr [0, 2, 4, 5, 117] (by kernel_rfl) fun K hK => ?_
         simp (decide := true) only [TF, q1, q2, q3, q4, hw1, hw2, hw3, hw4, q5, q8, hv1, q9, hg, q10, mapC, map1, ↓reduceIte, Int.reduceToNat]
         refine hK _ _ ?_; clear hK K
         refine WP.cond (b := _) rfl (fun q15 => ?_) (fun q15 => ?_)
         ·
          have hN := rdLine_bad (readF_bad2 hC (by rw [rdScp_yes hsc, hI, hE, show (sc.length : Int) = 0 by simpa using q15]; rfl))
          refine WP.sr [2, 3] (by kernel_rfl) fun K hK => ?_
          simp (decide := true) only [TF, q1, q2, q3, q4, hw1, hw2, hw3, hw4, q5, q8, hv1, q9, hg, q10, q15, mapC, map1, ↓reduceIte, Int.reduceToNat]
          refine hK _ _ ?_; clear hK K
          refine WP.ret ?_
          exact Ends.pure (d := .tup [_, _]) (.inr rfl) rfl ((by simp (decide := true) only [St.get, lk, W, Pr_prog, t_szD_36, t_aggD_36, z36, List.take_succ_cons, List.take_zero, q1, q2, q3, q4, hw1, hw2, hw3, hw4, q5, q8, hv1, q9, hg, q10, q15, ↓reduceIte, Int.reduceToNat]; first | (rw [hN]; exact Le.junks rfl) | (refine Le.trans Le.tips ?_; have h := rd_fin h3 h0 h2 hnm hC hS (by omega); simp only [q1, q2, q3, q4, hw1, hw2, hw3, hw4, q5, q8, hv1, q9, hg, q10, q15, Bool.true_and, Bool.false_and, Bool.and_false, Bool.and_true, Bool.false_eq_true] at h; exact h))) (by simp)
         ·
          have hS : rdScp true (ws.drop i) = (true, ws.drop j, sc) := by
                    have hp : ¬ ((sc.length : Int) = 0) := by simpa using q15
                    rw [rdScp_yes hsc, hI, hE, decide_eq_true (show (sc.length : Int) > 0 by omega)]
          refine WP.skip ?_
          show WP _ _ _ _ _ _
          refine WP.sr [0, 2, 4, 5, 9, 10] (by kernel_rfl) fun K hK => ?_
          simp (decide := true) only [TF, q1, q2, q3, q4, hw1, hw2, hw3, hw4, q5, q8, hv1, q9, hg, q10, q15, mapC, map1, ↓reduceIte, Int.reduceToNat]
          refine CallK.pure (c_r_tail ws false j [108, 101, 118, 101, 108] nofun (by omega) (hvw _)) rfl rfl (by simp [-List.map_take]) ?_
          simp (decide := true) only [TF, q1, q2, q3, q4, hw1, hw2, hw3, hw4, q5, q8, hv1, q9, hg, q10, q15, mapC, map1, ↓reduceIte, Int.reduceToNat]
          refine hK _ _ ?_; clear hK K
          refine WP.sr [0, 2, 4, 5, 9, 10, 11, 12] (by kernel_rfl) fun K hK => ?_
          simp (decide := true) only [TF, q1, q2, q3, q4, hw1, hw2, hw3, hw4, q5, q8, hv1, q9, hg, q10, q15, mapC, map1, ↓reduceIte, Int.reduceToNat]
          refine CallK.pure (c_r_tail ws false (tailR ws j [108, 101, 118, 101, 108]).2.1 [97, 103, 101] nofun (by have := tailR_le ws j [108, 101, 118, 101, 108]; omega) (hvw _)) rfl rfl (by simp [-List.map_take]) ?_
          simp (decide := true) only [TF, q1, q2, q3, q4, hw1, hw2, hw3, hw4, q5, q8, hv1, q9, hg, q10, q15, mapC, map1, ↓reduceIte, Int.reduceToNat]
          refine hK _ _ ?_; clear hK K
          refine WP.sr [0, 2, 4, 5, 10, 11, 12] (by kernel_rfl) fun K hK => ?_
          simp (decide := true) only [TF, q1, q2, q3, q4, hw1, hw2, hw3, hw4, q5, q8, hv1, q9, hg, q10, q15, mapC, map1, ↓reduceIte, Int.reduceToNat]
          refine hK _ _ ?_; clear hK K
          refine WP.sr [0, 2, 4, 5, 10, 12] (by kernel_rfl) fun K hK => ?_
          simp (decide := true) only [TF, q1, q2, q3, q4, hw1, hw2, hw3, hw4, q5, q8, hv1, q9, hg, q10, q15, mapC, map1, ↓reduceIte, Int.reduceToNat]
          refine hK _ _ ?_; clear hK K
          refine WP.sr [2, 3] (by kernel_rfl) fun K hK => ?_
          refine runOps.take 3 fun J hJ => ?_
          simp (decide := true) only [TF, q1, q2, q3, q4, hw1, hw2, hw3, hw4, q5, q8, hv1, q9, hg, q10, q15, mapC, map1, ↓reduceIte, Int.reduceToNat]
          refine hJ _ _ ?_; clear hJ J
          refine runOps.part 139 rfl (fun q16 => ?_) (fun q16 => ?_)
          ·
           refine runOps.take 3 fun J hJ => ?_
           simp (decide := true) only [TF, q1, q2, q3, q4, hw1, hw2, hw3, hw4, q5, q8, hv1, q9, hg, q10, q15, q16, mapC, map1, ↓reduceIte, Int.reduceToNat]
           refine hJ _ _ ?_; clear hJ J
           refine runOps.part 142 rfl (fun q17 => ?_) (fun q17 => ?_)
           ·
            simp (decide := true) only [TF, q1, q2, q3, q4, hw1, hw2, hw3, hw4, q5, q8, hv1, q9, hg, q10, q15, q16, q17, mapC, map1, ↓reduceIte, Int.reduceToNat]
            refine hK _ _ ?_; clear hK K
            refine WP.ret ?_
            exact Ends.pure (d := .tup [_, _]) (.inr rfl) rfl ((by simp (decide := true) only [St.get, lk, W, Pr_prog, t_szD_36, t_aggD_36, z36, List.take_succ_cons, List.take_zero, q1, q2, q3, q4, hw1, hw2, hw3, hw4, q5, q8, hv1, q9, hg, q10, q15, q16, q17, ↓reduceIte, Int.reduceToNat]; first | (rw [hN]; exact Le.junks rfl) | (refine Le.trans Le.tips ?_; have h := rd_fin h3 h0 h2 hnm hC hS (by omega); simp only [q1, q2, q3, q4, hw1, hw2, hw3, hw4, q5, q8, hv1, q9, hg, q10, q15, q16, q17, Bool.true_and, Bool.false_and, Bool.and_false, Bool.and_true, Bool.false_eq_true] at h; exact h))) (by simp)
           ·
            simp (decide := true) only [TF, q1, q2, q3, q4, hw1, hw2, hw3, hw4, q5, q8, hv1, q9, hg, q10, q15, q16, q17, mapC, map1, ↓reduceIte, Int.reduceToNat]
            refine hK _ _ ?_; clear hK K
            refine WP.ret ?_
            exact Ends.pure (d := .tup [_, _]) (.inr rfl) rfl ((by simp (decide := true) only [St.get, lk, W, Pr_prog, t_szD_36, t_aggD_36, z36, List.take_succ_cons, List.take_zero, q1, q2, q3, q4, hw1, hw2, hw3, hw4, q5, q8, hv1, q9, hg, q10, q15, q16, q17, ↓reduceIte, Int.reduceToNat]; first | (rw [hN]; exact Le.junks rfl) | (refine Le.trans Le.tips ?_; have h := rd_fin h3 h0 h2 hnm hC hS (by omega); simp only [q1, q2, q3, q4, hw1, hw2, hw3, hw4, q5, q8, hv1, q9, hg, q10, q15, q16, q17, Bool.true_and, Bool.false_and, Bool.and_false, Bool.and_true, Bool.false_eq_true] at h; exact h))) (by simp)
          ·
           simp (decide := true) only [TF, q1, q2, q3, q4, hw1, hw2, hw3, hw4, q5, q8, hv1, q9, hg, q10, q15, q16, mapC, map1, ↓reduceIte, Int.reduceToNat]
           refine hK _ _ ?_; clear hK K
           refine WP.ret ?_
           exact Ends.pure (d := .tup [_, _]) (.inr rfl) rfl ((by simp (decide := true) only [St.get, lk, W, Pr_prog, t_szD_36, t_aggD_36, z36, List.take_succ_cons, List.take_zero, q1, q2, q3, q4, hw1, hw2, hw3, hw4, q5, q8, hv1, q9, hg, q10, q15, q16, ↓reduceIte, Int.reduceToNat]; first | (rw [hN]; exact Le.junks rfl) | (refine Le.trans Le.tips ?_; have h := rd_fin h3 h0 h2 hnm hC hS (by omega); simp only [q1, q2, q3, q4, hw1, hw2, hw3, hw4, q5, q8, hv1, q9, hg, q10, q15, q16, Bool.true_and, Bool.false_and, Bool.and_false, Bool.and_true, Bool.false_eq_true] at h; exact h))) (by simp)
       ·
        have hE := scR_end (sc := sc) (.inl (ge_of_q q9))
        simp (decide := true) only [TF, q1, q2, q3, q4, hw1, hw2, hw3, hw4, q5, q8, hv1, q9, mapC, map1, ↓reduceIte, Int.reduceToNat]
        refine hK _ _ ?_; clear hK K
        refine WP.cond (b := false) (by rfl) nofun (fun _ => ?_)
        refine WP.exit ?_
        show WP _ _ _ _ _ _
        refine WP.sr [0, 2, 4, 5, 117] (by kernel_rfl) fun K hK => ?_
        simp (decide := true) only [TF, q1, q2, q3, q4, hw1, hw2, hw3, hw4, q5, q8, hv1, q9, mapC, map1, ↓reduceIte, Int.reduceToNat]
        refine hK _ _ ?_; clear hK K
        refine WP.cond (b := _) rfl (fun q18 => ?_) (fun q18 => ?_)
        ·
         have hN := rdLine_bad (readF_bad2 hC (by rw [rdScp_yes hsc, hI, hE, show (sc.length : Int) = 0 by simpa using q18]; rfl))
         refine WP.sr [2, 3] (by kernel_rfl) fun K hK => ?_
         simp (decide := true) only [TF, q1, q2, q3, q4, hw1, hw2, hw3, hw4, q5, q8, hv1, q9, q18, mapC, map1, ↓reduceIte, Int.reduceToNat]
         refine hK _ _ ?_; clear hK K
         refine WP.ret ?_
         exact Ends.pure (d := .tup [_, _]) (.inr rfl) rfl ((by simp (decide := true) only [St.get, lk, W, Pr_prog, t_szD_36, t_aggD_36, z36, List.take_succ_cons, List.take_zero, q1, q2, q3, q4, hw1, hw2, hw3, hw4, q5, q8, hv1, q9, q18, ↓reduceIte, Int.reduceToNat]; first | (rw [hN]; exact Le.junks rfl) | (refine Le.trans Le.tips ?_; have h := rd_fin h3 h0 h2 hnm hC hS (by omega); simp only [q1, q2, q3, q4, hw1, hw2, hw3, hw4, q5, q8, hv1, q9, q18, Bool.true_and, Bool.false_and, Bool.and_false, Bool.and_true, Bool.false_eq_true] at h; exact h))) (by simp)
        ·
         have hS : rdScp true (ws.drop i) = (true, ws.drop j, sc) := by
                    have hp : ¬ ((sc.length : Int) = 0) := by simpa using q18
                    rw [rdScp_yes hsc, hI, hE, decide_eq_true (show (sc.length : Int) > 0 by omega)]
         refine WP.skip ?_
         show WP _ _ _ _ _ _
         refine WP.sr [0, 2, 4, 5, 9, 10] (by kernel_rfl) fun K hK => ?_
         simp (decide := true) only [TF, q1, q2, q3, q4, hw1, hw2, hw3, hw4, q5, q8, hv1, q9, q18, mapC, map1, ↓reduceIte, Int.reduceToNat]
         refine CallK.pure (c_r_tail ws false j [108, 101, 118, 101, 108] nofun (by omega) (hvw _)) rfl rfl (by simp [-List.map_take]) ?_
         simp (decide := true) only [TF, q1, q2, q3, q4, hw1, hw2, hw3, hw4, q5, q8, hv1, q9, q18, mapC, map1, ↓reduceIte, Int.reduceToNat]
         refine hK _ _ ?_; clear hK K
         refine WP.sr [0, 2, 4, 5, 9, 10, 11, 12] (by kernel_rfl) fun K hK => ?_
         simp (decide := true) only [TF, q1, q2, q3, q4, hw1, hw2, hw3, hw4, q5, q8, hv1, q9, q18, mapC, map1, ↓reduceIte, Int.reduceToNat]
         refine CallK.pure (c_r_tail ws false (tailR ws j [108, 101, 118, 101, 108]).2.1 [97, 103, 101] nofun (by have := tailR_le ws j [108, 101, 118, 101, 108]; omega) (hvw _)) rfl rfl (by simp [-List.map_take]) ?_
         simp (decide := true) only [TF, q1, q2, q3, q4, hw1, hw2, hw3, hw4, q5, q8, hv1, q9, q18, mapC, map1, ↓reduceIte, Int.reduceToNat]
         refine hK _ _ ?_; clear hK K
         refine WP.sr [0, 2, 4, 5, 10, 11, 12] (by kernel_rfl) fun K hK => ?_
         simp (decide := true) only [TF, q1, q2, q3, q4, hw1, hw2, hw3, hw4, q5, q8, hv1, q9, q18, mapC, map1, ↓reduceIte, Int.reduceToNat]
         refine hK _ _ ?_; clear hK K
         refine WP.sr [0, 2, 4, 5, 10, 12] (by kernel_rfl) fun K hK => ?_
         simp (decide := true) only [TF, q1, q2, q3, q4, hw1, hw2, hw3, hw4, q5, q8, hv1, q9, q18, mapC, map1, ↓reduceIte, Int.reduceToNat]
         refine hK _ _ ?_; clear hK K
         refine WP.sr [2, 3] (by kernel_rfl) fun K hK => ?_
         refine runOps.take 3 fun J hJ => ?_
         simp (decide := true) only [TF, q1, q2, q3, q4, hw1, hw2, hw3, hw4, q5, q8, hv1, q9, q18, mapC, map1, ↓reduceIte, Int.reduceToNat]
         refine hJ _ _ ?_; clear hJ J
         refine runOps.part 139 rfl (fun q19 => ?_) (fun q19 => ?_)
         ·
          refine runOps.take 3 fun J hJ => ?_
          simp (decide := true) only [TF, q1, q2, q3, q4, hw1, hw2, hw3, hw4, q5, q8, hv1, q9, q18, q19, mapC, map1, ↓reduceIte, Int.reduceToNat]
          refine hJ _ _ ?_; clear hJ J
          refine runOps.part 142 rfl (fun q20 => ?_) (fun q20 => ?_)
          ·
           simp (decide := true) only [TF, q1, q2, q3, q4, hw1, hw2, hw3, hw4, q5, q8, hv1, q9, q18, q19, q20, mapC, map1, ↓reduceIte, Int.reduceToNat]
           refine hK _ _ ?_; clear hK K
           refine WP.ret ?_
           exact Ends.pure (d := .tup [_, _]) (.inr rfl) rfl ((by simp (decide := true) only [St.get, lk, W, Pr_prog, t_szD_36, t_aggD_36, z36, List.take_succ_cons, List.take_zero, q1, q2, q3, q4, hw1, hw2, hw3, hw4, q5, q8, hv1, q9, q18, q19, q20, ↓reduceIte, Int.reduceToNat]; first | (rw [hN]; exact Le.junks rfl) | (refine Le.trans Le.tips ?_; have h := rd_fin h3 h0 h2 hnm hC hS (by omega); simp only [q1, q2, q3, q4, hw1, hw2, hw3, hw4, q5, q8, hv1, q9, q18, q19, q20, Bool.true_and, Bool.false_and, Bool.and_false, Bool.and_true, Bool.false_eq_true] at h; exact h))) (by simp)
          ·
           simp (decide := true) only [TF, q1, q2, q3, q4, hw1, hw2, hw3, hw4, q5, q8, hv1, q9, q18, q19, q20, mapC, map1, ↓reduceIte, Int.reduceToNat]
           refine hK _ _ ?_; clear hK K
           refine WP.ret ?_
           exact Ends.pure (d := .tup [_, _]) (.inr rfl) rfl ((by simp (decide := true) only [St.get, lk, W, Pr_prog, t_szD_36, t_aggD_36, z36, List.take_succ_cons, List.take_zero, q1, q2, q3, q4, hw1, hw2, hw3, hw4, q5, q8, hv1, q9, q18, q19, q20, ↓reduceIte, Int.reduceToNat]; first | (rw [hN]; exact Le.junks rfl) | (refine Le.trans Le.tips ?_; have h := rd_fin h3 h0 h2 hnm hC hS (by omega); simp only [q1, q2, q3, q4, hw1, hw2, hw3, hw4, q5, q8, hv1, q9, q18, q19, q20, Bool.true_and, Bool.false_and, Bool.and_false, Bool.and_true, Bool.false_eq_true] at h; exact h))) (by simp)
         ·
          simp (decide := true) only [TF, q1, q2, q3, q4, hw1, hw2, hw3, hw4, q5, q8, hv1, q9, q18, q19, mapC, map1, ↓reduceIte, Int.reduceToNat]
          refine hK _ _ ?_; clear hK K
          refine WP.ret ?_
          exact Ends.pure (d := .tup [_, _]) (.inr rfl) rfl ((by simp (decide := true) only [St.get, lk, W, Pr_prog, t_szD_36, t_aggD_36, z36, List.take_succ_cons, List.take_zero, q1, q2, q3, q4, hw1, hw2, hw3, hw4, q5, q8, hv1, q9, q18, q19, ↓reduceIte, Int.reduceToNat]; first | (rw [hN]; exact Le.junks rfl) | (refine Le.trans Le.tips ?_; have h := rd_fin h3 h0 h2 hnm hC hS (by omega); simp only [q1, q2, q3, q4, hw1, hw2, hw3, hw4, q5, q8, hv1, q9, q18, q19, Bool.true_and, Bool.false_and, Bool.and_false, Bool.and_true, Bool.false_eq_true] at h; exact h))) (by simp)
      ·
       have hsc : ¬ wdAt ws i = [115, 99, 111, 112, 101, 115] := by simpa using q8
       have hS := rdScp_no hsc
       refine WP.skip ?_
       show WP _ _ _ _ _ _
       refine WP.sr [0, 2, 4, 5, 9, 10] (by kernel_rfl) fun K hK => ?_
       simp (decide := true) only [TF, q1, q2, q3, q4, hw1, hw2, hw3, hw4, q5, q8, mapC, map1, ↓reduceIte, Int.reduceToNat]
       refine CallK.pure (c_r_tail ws false i [108, 101, 118, 101, 108] nofun (by omega) (hvw _)) rfl rfl (by simp [-List.map_take]) ?_
       simp (decide := true) only [TF, q1, q2, q3, q4, hw1, hw2, hw3, hw4, q5, q8, mapC, map1, ↓reduceIte, Int.reduceToNat]
       refine hK _ _ ?_; clear hK K
       refine WP.sr [0, 2, 4, 5, 9, 10, 11, 12] (by kernel_rfl) fun K hK => ?_
       simp (decide := true) only [TF, q1, q2, q3, q4, hw1, hw2, hw3, hw4, q5, q8, mapC, map1, ↓reduceIte, Int.reduceToNat]
       refine CallK.pure (c_r_tail ws false (tailR ws i [108, 101, 118, 101, 108]).2.1 [97, 103, 101] nofun (by have := tailR_le ws i [108, 101, 118, 101, 108]; omega) (hvw _)) rfl rfl (by simp [-List.map_take]) ?_
       simp (decide := true) only [TF, q1, q2, q3, q4, hw1, hw2, hw3, hw4, q5, q8, mapC, map1, ↓reduceIte, Int.reduceToNat]
       refine hK _ _ ?_; clear hK K
       refine WP.sr [0, 2, 4, 5, 10, 11, 12] (by kernel_rfl) fun K hK => ?_
       simp (decide := true) only [TF, q1, q2, q3, q4, hw1, hw2, hw3, hw4, q5, q8, mapC, map1, ↓reduceIte, Int.reduceToNat]
       refine hK _ _ ?_; clear hK K
       refine WP.sr [0, 2, 4, 5, 10, 12] (by kernel_rfl) fun K hK => ?_
       simp (decide := true) only [TF, q1, q2, q3, q4, hw1, hw2, hw3, hw4, q5, q8, mapC, map1, ↓reduceIte, Int.reduceToNat]
       refine hK _ _ ?_; clear hK K
       refine WP.sr [2, 3] (by kernel_rfl) fun K hK => ?_
       refine runOps.take 3 fun J hJ => ?_
       simp (decide := true) only [TF, q1, q2, q3, q4, hw1, hw2, hw3, hw4, q5, q8, mapC, map1, ↓reduceIte, Int.reduceToNat]
       refine hJ _ _ ?_; clear hJ J
       refine runOps.part 139 rfl (fun q21 => ?_) (fun q21 => ?_)
       ·
        refine runOps.take 3 fun J hJ => ?_
        simp (decide := true) only [TF, q1, q2, q3, q4, hw1, hw2, hw3, hw4, q5, q8, q21, mapC, map1, ↓reduceIte, Int.reduceToNat]
        refine hJ _ _ ?_; clear hJ J
        refine runOps.part 142 rfl (fun q22 => ?_) (fun q22 => ?_)
        ·
         simp (decide := true) only [TF, q1, q2, q3, q4, hw1, hw2, hw3, hw4, q5, q8, q21, q22, mapC, map1, ↓reduceIte, Int.reduceToNat]
         refine hK _ _ ?_; clear hK K
         refine WP.ret ?_
         exact Ends.pure (d := .tup [_, _]) (.inr rfl) rfl ((by simp (decide := true) only [St.get, lk, W, Pr_prog, t_szD_36, t_aggD_36, z36, List.take_succ_cons, List.take_zero, q1, q2, q3, q4, hw1, hw2, hw3, hw4, q5, q8, q21, q22, ↓reduceIte, Int.reduceToNat]; first | (rw [hN]; exact Le.junks rfl) | (refine Le.trans Le.tips ?_; have h := rd_fin h3 h0 h2 hnm hC hS (by omega); simp only [q1, q2, q3, q4, hw1, hw2, hw3, hw4, q5, q8, q21, q22, Bool.true_and, Bool.false_and, Bool.and_false, Bool.and_true, Bool.false_eq_true] at h; exact h))) (by simp)
        ·
         simp (decide := true) only [TF, q1, q2, q3, q4, hw1, hw2, hw3, hw4, q5, q8, q21, q22, mapC, map1, ↓reduceIte, Int.reduceToNat]
         refine hK _ _ ?_; clear hK K
         refine WP.ret ?_
         exact Ends.pure (d := .tup [_, _]) (.inr rfl) rfl ((by simp (decide := true) only [St.get, lk, W, Pr_prog, t_szD_36, t_aggD_36, z36, List.take_succ_cons, List.take_zero, q1, q2, q3, q4, hw1, hw2, hw3, hw4, q5, q8, q21, q22, ↓reduceIte, Int.reduceToNat]; first | (rw [hN]; exact Le.junks rfl) | (refine Le.trans Le.tips ?_; have h := rd_fin h3 h0 h2 hnm hC hS (by omega); simp only [q1, q2, q3, q4, hw1, hw2, hw3, hw4, q5, q8, q21, q22, Bool.true_and, Bool.false_and, Bool.and_false, Bool.and_true, Bool.false_eq_true] at h; exact h))) (by simp)
       ·
        simp (decide := true) only [TF, q1, q2, q3, q4, hw1, hw2, hw3, hw4, q5, q8, q21, mapC, map1, ↓reduceIte, Int.reduceToNat]
        refine hK _ _ ?_; clear hK K
        refine WP.ret ?_
        exact Ends.pure (d := .tup [_, _]) (.inr rfl) rfl ((by simp (decide := true) only [St.get, lk, W, Pr_prog, t_szD_36, t_aggD_36, z36, List.take_succ_cons, List.take_zero, q1, q2, q3, q4, hw1, hw2, hw3, hw4, q5, q8, q21, ↓reduceIte, Int.reduceToNat]; first | (rw [hN]; exact Le.junks rfl) | (refine Le.trans Le.tips ?_; have h := rd_fin h3 h0 h2 hnm hC hS (by omega); simp only [q1, q2, q3, q4, hw1, hw2, hw3, hw4, q5, q8, q21, Bool.true_and, Bool.false_and, Bool.and_false, Bool.and_true, Bool.false_eq_true] at h; exact h))) (by simp)
   ·
    simp only [Bool.not_eq_true', Bool.not_eq_false'] at q3
    have h2 : wdAt ws 2 = [112, 101, 114, 109, 105, 116] ∨ wdAt ws 2 = [100, 101, 110, 121] := .inr (by simpa using q3)
    have h3 : 3 ≤ ws.length := verb3 h2
    simp (decide := true) only [TF, q1, q2, q3, mapC, map1, ↓reduceIte, Int.reduceToNat]
    refine hK _ _ ?_; clear hK K
    refine WP.cond (b := false) (by rfl) nofun (fun _ => ?_)
    refine WP.skip ?_
    show WP _ _ _ _ _ _
    refine WP.weak (Weak.ghost 2 43 3 (σ' := [(1, .box 36 [.str (wdAt ws 1), .bool (wdAt ws 2 == [100, 101, 110, 121]), .slice 3 true [] (some 2), .slice 0 true [] none, .int .i64 0, .int .i64 0]), (0, .box 36 [.str [], .bool false, .slice 0 true [] none, .slice 0 true [] none, .int .i64 0, .int .i64 0])]) (by simp [lk, W]) (UpF.refl _ _ _) (by simp [UpS, UpB, UpL, UpD, q1, q2, q3])) ?_
    refine WP.weak (Weak.ghost 3 9 1 (σ' := [(2, .tip 43 3 0), (1, .box 36 [.str (wdAt ws 1), .bool (wdAt ws 2 == [100, 101, 110, 121]), .slice 3 true [] (some 2), .slice 1 true [] (some 3), .int .i64 0, .int .i64 0]), (0, .box 36 [.str [], .bool false, .slice 0 true [] none, .slice 0 true [] none, .int .i64 0, .int .i64 0])]) (by simp [lk, W]) (UpF.refl _ _ _) (by simp [UpS, UpB, UpL, UpD, q1, q2, q3])) ?_
    refine WP.sr [0, 2, 4, 5] (by kernel_rfl) fun K hK => ?_
    simp (decide := true) only [TF, q1, q2, q3, mapC, map1, ↓reduceIte, Int.reduceToNat]
    refine hK _ _ ?_; clear hK K
    refine WP.seq ?_
    refine WP.sr [0, 2, 4, 5, 6] (by kernel_rfl) fun K hK => ?_
    simp (decide := true) only [TF, q1, q2, q3, mapC, map1, ↓reduceIte, Int.reduceToNat]
    refine hK _ _ ?_; clear hK K
    refine WP.block ?_
    refine WP.lp [0, 2, 4] (X := {x : (Nat) × (List UInt8) × (List Cond) // match x with | (i, lead, cs) => 3 ≤ i ∧ i ≤ ws.length ∧ cs.length ≤ i ∧ lead ≠ [] ∧ ∃ n, ws.length ≤ i + n ∧ cdR ((ws.drop 3).length + 1) [105, 102] (ws.drop 3) [] = cdR (n + 1) lead (ws.drop i) cs}) (fun x => match x with | ⟨(i, lead, cs), _⟩ => [(5, .int .i64 i), (6, .str lead)]) (fun x => match x with | ⟨(i, lead, cs), _⟩ => [(3, .tip 9 1 0), (2, .tip 43 3 cs.length), (1, .box 36 [.str (wdAt ws 1), .bool (wdAt ws 2 == [100, 101, 110, 121]), .slice 3 (cs).isEmpty ((cs).map Cond.cs) (some 2), .slice 1 true [] (some 3), .int .i64 0, .int .i64 0]), (0, .box 36 [.str [], .bool false, .slice 0 true [] none, .slice 0 true [] none, .int .i64 0, .int .i64 0])]) (fun x => match x with | ⟨(i, lead, cs), _⟩ => ws.length - i) (by simp (decide := true) only [W, ↓reduceIte, Int.reduceToNat]; rfl) ?_ ⟨(3, [105, 102], []), ⟨Nat.le_refl _, h3, by simp, by simp, (ws.drop 3).length, by simp; omega, rfl⟩⟩ ?_
    rotate_left
    · exact Weak.store (by simp [St.get, lk, W, Le.refl, q1, q2, q3]) (by simp [lk, W, isE1, q1, q2, q3]) (by simp [lk]) (by simp [BClo, lk, -List.map_append]) (by simp [lk])
    rintro ⟨⟨i, lead, cs⟩, hI⟩
    dsimp only
    simp only [List.cons_append, List.nil_append]
    dsimp only at hI
    obtain ⟨hi3, hil, hcl, hld, n, hn, hC⟩ := hI
    have hw1 : IntKind.wrap .i64 ((i : Int) + 1) = ((i + 1 : Nat) : Int) := by rw [wrap_i64 (by omega) (by omega)]; rfl
    have hw2 : IntKind.wrap .i64 ((i : Int) + 2) = ((i + 2 : Nat) : Int) := by rw [wrap_i64 (by omega) (by omega)]; rfl
    have hw3 : IntKind.wrap .i64 ((i : Int) + 3) = ((i + 3 : Nat) : Int) := by rw [wrap_i64 (by omega) (by omega)]; rfl
    have hw4 : IntKind.wrap .i64 ((i : Int) + 4) = ((i + 4 : Nat) : Int) := by rw [wrap_i64 (by omega) (by omega)]; rfl
    refine WP.seq ?_
    refine WP.sr [0, 2, 4, 5, 41] (by kernel_rfl) fun K hK => ?_
    simp (decide := true) only [TF, q1, q2, q3, hw1, hw2, hw3, hw4, mapC, map1, ↓reduceIte, Int.reduceToNat]
    refine CallK.pure (c_r_wd ws false i nofun) rfl rfl (by simp [-List.map_take]) ?_
    simp (decide := true) only [TF, q1, q2, q3, hw1, hw2, hw3, hw4, mapC, map1, ↓reduceIte, Int.reduceToNat]
    refine hK _ _ ?_; clear hK K
    refine WP.cond (b := _) rfl (fun q23 => ?_) (fun q23 => ?_)
    ·
     have hw : wdAt ws i = lead := by simpa using q23
     have hlt := wdAt_ne hld hw
     refine WP.skip ?_
     show WP _ _ _ _ _ _
     refine WP.seq ?_
     refine WP.block ?_
     rcases un_cases (wdAt ws (i + 3)) with ⟨u, hu, hun⟩ | ⟨hu, hun⟩
     ·
      refine WP.sr [0, 2, 4, 5, 7, 8] (by kernel_rfl) fun K hK => ?_
      simp (decide := true) only [TF, q1, q2, q3, hw1, hw2, hw3, hw4, q23, hu, mapC, map1, ↓reduceIte, Int.reduceToNat]
      refine CallK.pure (c_r_wd ws false (i + 3) nofun) rfl rfl (by simp [-List.map_take]) ?_
      simp (decide := true) only [TF, q1, q2, q3, hw1, hw2, hw3, hw4, q23, hu, mapC, map1, ↓reduceIte, Int.reduceToNat]
      refine CallK.pure (c_r_unescape (wdAt ws (i + 3)) (hvw _)) rfl rfl (by simp [-List.map_take]) ?_
      simp (decide := true) only [TF, q1, q2, q3, hw1, hw2, hw3, hw4, q23, hu, mapC, map1, ↓reduceIte, Int.reduceToNat]
      refine hK _ _ ?_; clear hK K
      refine WP.seq ?_
      refine WP.sr [0, 2, 4, 5, 7, 58] (by kernel_rfl) fun K hK => ?_
      refine runOps.take 6 fun J hJ => ?_
      simp (decide := true) only [TF, q1, q2, q3, hw1, hw2, hw3, hw4, q23, hu, mapC, map1, ↓reduceIte, Int.reduceToNat]
      refine hJ _ _ ?_; clear hJ J
      refine runOps.part 55 rfl (fun q24 => ?_) (fun q24 => ?_)
      ·
       have hb : ws.length ≤ i + 3 := by have := of_decide_eq_true q24; omega
       have hN := rdLine_bad (readF_bad1 (by rw [hC]; exact cdR_bad hld hw (.inl hb)))
       simp (decide := true) only [TF, q1, q2, q3, hw1, hw2, hw3, hw4, q23, hu, q24, mapC, map1, ↓reduceIte, Int.reduceToNat]
       refine hK _ _ ?_; clear hK K
       refine WP.cond (b := true) (by rfl) (fun _ => ?_) nofun
       refine WP.sr [2, 3] (by kernel_rfl) fun K hK => ?_
       simp (decide := true) only [TF, q1, q2, q3, hw1, hw2, hw3, hw4, q23, hu, q24, mapC, map1, ↓reduceIte, Int.reduceToNat]
       refine hK _ _ ?_; clear hK K
       refine WP.ret ?_
       exact Ends.pure (d := .tup [_, _]) (.inr rfl) rfl ((by simp (decide := true) only [St.get, lk, W, Pr_prog, t_szD_36, t_aggD_36, z36, List.take_succ_cons, List.take_zero, q1, q2, q3, hw1, hw2, hw3, hw4, q23, hu, q24, ↓reduceIte, Int.reduceToNat]; first | (rw [hN]; exact Le.junks rfl) | (refine Le.trans Le.tips ?_; have h := rd_fin h3 h0 h2 hnm hC hS (by omega); simp only [q1, q2, q3, hw1, hw2, hw3, hw4, q23, hu, q24, Bool.true_and, Bool.false_and, Bool.and_false, Bool.and_true, Bool.false_eq_true] at h; exact h))) (by simp)
      ·
       have hb : i + 3 < ws.length := by have := of_decide_eq_false q24; omega
       have hg1 : (ws.map fun x => [D.str x])[i + 1]? = some [.str (wdAt ws (i + 1))] := by rw [wdAt_lt (show i + 1 < ws.length by omega)]; exact getM _
       have hg2 : (ws.map fun x => [D.str x])[i + 2]? = some [.str (wdAt ws (i + 2))] := by rw [wdAt_lt (show i + 2 < ws.length by omega)]; exact getM _
       simp (decide := true) only [TF, q1, q2, q3, hw1, hw2, hw3, hw4, q23, hu, q24, hg1, hg2, mapC, map1, ↓reduceIte, Int.reduceToNat]
       refine hK _ _ ?_; clear hK K
       refine WP.cond (b := false) (by rfl) nofun (fun _ => ?_)
       refine WP.skip ?_
       show WP _ _ _ _ _ _
       refine WP.sd [0, 2, 4, 5] (by kernel_rfl) (by kernel_rfl) fun K hK => ?_
       simp (decide := true) only [TF, q1, q2, q3, hw1, hw2, hw3, hw4, q23, hu, q24, hg1, hg2, mapC, map1, ↓reduceIte, Int.reduceToNat]
       refine ⟨⟨by simp only [List.length_append, List.length_map, List.length_cons, List.length_nil]; omega, by simp only [List.length_append, List.length_map, List.length_cons, List.length_nil]; omega⟩, ?_⟩
       refine hK _ _ (by kernel_rfl) ?_
       clear hK K
       refine WP.region (by kernel_rfl) fun K hK => ?_
       simp (decide := true) only [TF, q1, q2, q3, hw1, hw2, hw3, hw4, q23, hu, q24, hg1, hg2, mapC, map1, ↓reduceIte, Int.reduceToNat]
       refine hK _ _ ?_; clear hK K
       show WP _ _ _ _ _ _
       refine WP.region (by kernel_rfl) fun K hK => ?_
       simp (decide := true) only [TF, q1, q2, q3, hw1, hw2, hw3, hw4, q23, hu, q24, hg1, hg2, mapC, map1, ↓reduceIte, Int.reduceToNat]
       refine hK _ _ ?_; clear hK K
       show ∃ y, _ ∧ Weak _ _ _
       obtain ⟨m, rfl⟩ : ∃ m, n = m + 1 := ⟨n - 1, by omega⟩
       refine ⟨⟨(i + 4, [97, 110, 100], cs ++ [⟨wdAt ws (i + 1), wdAt ws (i + 2), u⟩]), ?_⟩, ?_, ?_⟩
       · exact ⟨by omega, by omega, by simp; omega, by simp, m, by omega, by rw [hC, cdR_ok hld hw hb hun]⟩
       · dsimp only; omega
       · exact Weak.store (by simp [St.get, lk, W, Le.refl, q1, q2, q3, hw1, hw2, hw3, hw4, q23, hu, q24, hg1, hg2]) (by simp [lk, W, isE1, q1, q2, q3, hw1, hw2, hw3, hw4, q23, hu, q24, hg1, hg2]) (by simp [lk]) (by simp [BClo, lk, or_imp, forall_and, Cond.cs]) (by simp [lk])
     ·
      have hN := rdLine_bad (readF_bad1 (by rw [hC]; exact cdR_bad hld hw (.inr hun)))
      refine WP.sr [0, 2, 4, 5, 7, 8] (by kernel_rfl) fun K hK => ?_
      simp (decide := true) only [TF, q1, q2, q3, hw1, hw2, hw3, hw4, q23, hu, mapC, map1, ↓reduceIte, Int.reduceToNat]
      refine CallK.pure (c_r_wd ws false (i + 3) nofun) rfl rfl (by simp [-List.map_take]) ?_
      simp (decide := true) only [TF, q1, q2, q3, hw1, hw2, hw3, hw4, q23, hu, mapC, map1, ↓reduceIte, Int.reduceToNat]
      refine CallK.pure (c_r_unescape (wdAt ws (i + 3)) (hvw _)) rfl rfl (by simp [-List.map_take]) ?_
      simp (decide := true) only [TF, q1, q2, q3, hw1, hw2, hw3, hw4, q23, hu, mapC, map1, ↓reduceIte, Int.reduceToNat]
      refine hK _ _ ?_; clear hK K
      refine WP.seq ?_
      refine WP.sr [0, 2, 4, 5, 7, 58] (by kernel_rfl) fun K hK => ?_
      refine runOps.take 6 fun J hJ => ?_
      simp (decide := true) only [TF, q1, q2, q3, hw1, hw2, hw3, hw4, q23, hu, mapC, map1, ↓reduceIte, Int.reduceToNat]
      refine hJ _ _ ?_; clear hJ J
      refine runOps.part 55 rfl (fun q25 => ?_) (fun q25 => ?_)
      ·
       have hb : ws.length ≤ i + 3 := by have := of_decide_eq_true q25; omega
       have hN := rdLine_bad (readF_bad1 (by rw [hC]; exact cdR_bad hld hw (.inl hb)))
       simp (decide := true) only [TF, q1, q2, q3, hw1, hw2, hw3, hw4, q23, hu, q25, mapC, map1, ↓reduceIte, Int.reduceToNat]
       refine hK _ _ ?_; clear hK K
       refine WP.cond (b := true) (by rfl) (fun _ => ?_) nofun
       refine WP.sr [2, 3] (by kernel_rfl) fun K hK => ?_
       simp (decide := true) only [TF, q1, q2, q3, hw1, hw2, hw3, hw4, q23, hu, q25, mapC, map1, ↓reduceIte, Int.reduceToNat]
       refine hK _ _ ?_; clear hK K
       refine WP.ret ?_
       exact Ends.pure (d := .tup [_, _]) (.inr rfl) rfl ((by simp (decide := true) only [St.get, lk, W, Pr_prog, t_szD_36, t_aggD_36, z36, List.take_succ_cons, List.take_zero, q1, q2, q3, hw1, hw2, hw3, hw4, q23, hu, q25, ↓reduceIte, Int.reduceToNat]; first | (rw [hN]; exact Le.junks rfl) | (refine Le.trans Le.tips ?_; have h := rd_fin h3 h0 h2 hnm hC hS (by omega); simp only [q1, q2, q3, hw1, hw2, hw3, hw4, q23, hu, q25, Bool.true_and, Bool.false_and, Bool.and_false, Bool.and_true, Bool.false_eq_true] at h; exact h))) (by simp)
      ·
       have hb : i + 3 < ws.length := by have := of_decide_eq_false q25; omega
       have hg1 : (ws.map fun x => [D.str x])[i + 1]? = some [.str (wdAt ws (i + 1))] := by rw [wdAt_lt (show i + 1 < ws.length by omega)]; exact getM _
       have hg2 : (ws.map fun x => [D.str x])[i + 2]? = some [.str (wdAt ws (i + 2))] := by rw [wdAt_lt (show i + 2 < ws.length by omega)]; exact getM _
       simp (decide := true) only [TF, q1, q2, q3, hw1, hw2, hw3, hw4, q23, hu, q25, hg1, hg2, mapC, map1, ↓reduceIte, Int.reduceToNat]
       refine hK _ _ ?_; clear hK K
       refine WP.cond (b := true) (by rfl) (fun _ => ?_) nofun
       refine WP.sr [2, 3] (by kernel_rfl) fun K hK => ?_
       simp (decide := true) only [TF, q1, q2, q3, hw1, hw2, hw3, hw4, q23, hu, q25, hg1, hg2, mapC, map1, ↓reduceIte, Int.reduceToNat]
       refine hK _ _ ?_; clear hK K
       refine WP.ret ?_
       exact Ends.pure (d := .tup [_, _]) (.inr rfl) rfl ((by simp (decide := true) only [St.get, lk, W, Pr_prog, t_szD_36, t_aggD_36, z36, List.take_succ_cons, List.take_zero, q1, q2, q3, hw1, hw2, hw3, hw4, q23, hu, q25, hg1, hg2, ↓reduceIte, Int.reduceToNat]; first | (rw [hN]; exact Le.junks rfl) | (refine Le.trans Le.tips ?_; have h := rd_fin h3 h0 h2 hnm hC hS (by omega); simp only [q1, q2, q3, hw1, hw2, hw3, hw4, q23, hu, q25, hg1, hg2, Bool.true_and, Bool.false_and, Bool.and_false, Bool.and_true, Bool.false_eq_true] at h; exact h))) (by simp)
    ·
     have hw : ¬ wdAt ws i = lead := by simpa using q23
     rw [cdR_end hld hw] at hC
     refine WP.exit ?_
     show WP _ _ _ _ _ _
     refine WP.seq ?_
     refine WP.sr [0, 2, 4, 5, 82] (by kernel_rfl) fun K hK => ?_
     simp (decide := true) only [TF, q1, q2, q3, hw1, hw2, hw3, hw4, q23, mapC, map1, ↓reduceIte, Int.reduceToNat]
     refine CallK.pure (c_r_wd ws false i nofun) rfl rfl (by simp [-List.map_take]) ?_
     simp (decide := true) only [TF, q1, q2, q3, hw1, hw2, hw3, hw4, q23, mapC, map1, ↓reduceIte, Int.reduceToNat]
     refine hK _ _ ?_; clear hK K
     refine WP.cond (b := _) rfl (fun q26 => ?_) (fun q26 => ?_)
     ·
      have hsc : wdAt ws i = [115, 99, 111, 112, 101, 115] := by simpa using q26
      have hlt := wdAt_ne (by simp) hsc
      refine WP.seq ?_
      refine WP.sr [0, 2, 4, 5] (by kernel_rfl) fun K hK => ?_
      simp (decide := true) only [TF, q1, q2, q3, hw1, hw2, hw3, hw4, q23, q26, mapC, map1, ↓reduceIte, Int.reduceToNat]
      refine hK _ _ ?_; clear hK K
      refine WP.block ?_
      refine WP.lp [0, 2, 4] (X := {x : (Nat) × (Wds) // match x with | (j, sc) => i + 1 ≤ j ∧ j ≤ ws.length ∧ sc.length ≤ j ∧ scR (ws.drop (i + 1)) [] = scR (ws.drop j) sc}) (fun x => match x with | ⟨(j, sc), _⟩ => [(5, .int .i64 j)]) (fun x => match x with | ⟨(j, sc), _⟩ => [(3, .tip 9 1 sc.length), (2, .tip 43 3 cs.length), (1, .box 36 [.str (wdAt ws 1), .bool (wdAt ws 2 == [100, 101, 110, 121]), .slice 3 (cs).isEmpty ((cs).map Cond.cs) (some 2), .slice 1 (sc).isEmpty ((sc).map fun x => [D.str x]) (some 3), .int .i64 0, .int .i64 0]), (0, .box 36 [.str [], .bool false, .slice 0 true [] none, .slice 0 true [] none, .int .i64 0, .int .i64 0])]) (fun x => match x with | ⟨(j, sc), _⟩ => ws.length - j) (by simp (decide := true) only [W, ↓reduceIte, Int.reduceToNat]; rfl) ?_ ⟨(i + 1, []), ⟨Nat.le_refl _, hlt, by simp, rfl⟩⟩ ?_
      rotate_left
      · exact Weak.store (by simp [St.get, lk, W, Le.refl, q1, q2, q3, hw1, hw2, hw3, hw4, q23, q26]) (by simp [lk, W, isE1, q1, q2, q3, hw1, hw2, hw3, hw4, q23, q26]) (by simp [lk]) (by simp [BClo, lk, -List.map_append]) (by simp [lk])
      rintro ⟨⟨j, sc⟩, hI⟩
      dsimp only
      simp only [List.cons_append, List.nil_append]
      dsimp only at hI
      obtain ⟨hj1, hjl, hsl, hI⟩ := hI
      have hv1 : IntKind.wrap .i64 ((j : Int) + 1) = ((j + 1 : Nat) : Int) := by rw [wrap_i64 (by omega) (by omega)]; rfl
      refine WP.seq ?_
      refine WP.sr [0, 2, 4, 5, 102] (by kernel_rfl) fun K hK => ?_
      refine runOps.take 5 fun J hJ => ?_
      simp (decide := true) only [TF, q1, q2, q3, hw1, hw2, hw3, hw4, q23, q26, hv1, mapC, map1, ↓reduceIte, Int.reduceToNat]
      refine hJ _ _ ?_; clear hJ J
      refine runOps.part 89 rfl (fun q27 => ?_) (fun q27 => ?_)
      ·
       have hjt := lt_of_q q27
       have hg : (ws.map fun x => [D.str x])[j]? = some [.str ws[j]] := getM hjt
       refine runOps.take 7 fun J hJ => ?_
       simp (decide := true) only [TF, q1, q2, q3, hw1, hw2, hw3, hw4, q23, q26, hv1, q27, hg, mapC, map1, ↓reduceIte, Int.reduceToNat]
       refine hJ _ _ ?_; clear hJ J
       refine runOps.part 96 rfl (fun q28 => ?_) (fun q28 => ?_)
       ·
        have h5 : ¬ ws[j] = [108, 101, 118, 101, 108] := by simpa using q28
        simp (decide := true) only [TF, q1, q2, q3, hw1, hw2, hw3, hw4, q23, q26, hv1, q27, hg, q28, mapC, map1, ↓reduceIte, Int.reduceToNat]
        refine hK _ _ ?_; clear hK K
        refine WP.cond (b := _) rfl (fun q29 => ?_) (fun q29 => ?_)
        ·
         have h6 : ¬ ws[j] = [97, 103, 101] := by simpa using q29
         refine WP.skip ?_
         show WP _ _ _ _ _ _
         refine WP.seq ?_
         refine WP.block ?_
         refine WP.drawn (by kernel_rfl) (by kernel_rfl) fun K hK => ?_
         simp (decide := true) only [TF, q1, q2, q3, hw1, hw2, hw3, hw4, q23, q26, hv1, q27, hg, q28, q29, mapC, map1, ↓reduceIte, Int.reduceToNat]
         refine ⟨⟨by simp only [List.length_append, List.length_map, List.length_cons, List.length_nil]; omega, by simp only [List.length_append, List.length_map, List.length_cons, List.length_nil]; omega⟩, ?_⟩
         refine hK _ _ (by kernel_rfl) ?_
         clear hK K
         show WP _ _ _ _ _ _
         refine WP.region (by kernel_rfl) fun K hK => ?_
         simp (decide := true) only [TF, q1, q2, q3, hw1, hw2, hw3, hw4, q23, q26, hv1, q27, hg, q28, q29, mapC, map1, ↓reduceIte, Int.reduceToNat]
         refine hK _ _ ?_; clear hK K
         show ∃ y, _ ∧ Weak _ _ _
         refine ⟨⟨(j + 1, sc ++ [ws[j]]), ?_⟩, ?_, ?_⟩
         · exact ⟨by omega, by omega, by simp; omega, by rw [hI, scR_step hjt h5 h6]⟩
         · dsimp only; omega
         · exact Weak.store (by simp [St.get, lk, W, Le.refl, q1, q2, q3, hw1, hw2, hw3, hw4, q23, q26, hv1, q27, hg, q28, q29]) (by simp [lk, W, isE1, q1, q2, q3, hw1, hw2, hw3, hw4, q23, q26, hv1, q27, hg, q28, q29]) (by simp [lk]) (by simp [BClo, lk, or_imp, forall_and, Cond.cs]) (by simp [lk])
        ·
         have hE := scR_end (sc := sc) (.inr ⟨hjt, .inr (by simpa using q29)⟩)
         refine WP.exit ?_
         show WP _ _ _ _ _ _
         refine WP.sr [0, 2, 4, 5, 117] (by kernel_rfl) fun K hK => ?_
         simp (decide := true) only [TF, q1, q2, q3, hw1, hw2, hw3, hw4, q23, q26, hv1, q27, hg, q28, q29, mapC, map1, ↓reduceIte, Int.reduceToNat]
         refine hK _ _ ?_; clear hK K
         refine WP.cond (b := _) rfl (fun q30 => ?_) (fun q30 => ?_)
         ·
          have hN := rdLine_bad (readF_bad2 hC (by rw [rdScp_yes hsc, hI, hE, show (sc.length : Int) = 0 by simpa using q30]; rfl))
          refine WP.sr [2, 3] (by kernel_rfl) fun K hK => ?_
          simp (decide := true) only [TF, q1, q2, q3, hw1, hw2, hw3, hw4, q23, q26, hv1, q27, hg, q28, q29, q30, mapC, map1, ↓reduceIte, Int.reduceToNat]
          refine hK _ _ ?_; clear hK K
          refine WP.ret ?_
          exact Ends.pure (d := .tup [_, _]) (.inr rfl) rfl ((by simp (decide := true) only [St.get, lk, W, Pr_prog, t_szD_36, t_aggD_36, z36, List.take_succ_cons, List.take_zero, q1, q2, q3, hw1, hw2, hw3, hw4, q23, q26, hv1, q27, hg, q28, q29, q30, ↓reduceIte, Int.reduceToNat]; first | (rw [hN]; exact Le.junks rfl) | (refine Le.trans Le.tips ?_; have h := rd_fin h3 h0 h2 hnm hC hS (by omega); simp only [q1, q2, q3, hw1, hw2, hw3, hw4, q23, q26, hv1, q27, hg, q28, q29, q30, Bool.true_and, Bool.false_and, Bool.and_false, Bool.and_true, Bool.false_eq_true] at h; exact h))) (by simp)
         ·
          have hS : rdScp true (ws.drop i) = (true, ws.drop j, sc) := by
                    have hp : ¬ ((sc.length : Int) = 0) := by simpa using q30
                    rw [rdScp_yes hsc, hI, hE, decide_eq_true (show (sc.length : Int) > 0 by omega)]
          refine WP.skip ?_
          show WP _ _ _ _ _ _
          refine WP.sr [0, 2, 4, 5, 9, 10] (by kernel_rfl) fun K hK => ?_
          simp (decide := true) only [TF, q1, q2, q3, hw1, hw2, hw3, hw4, q23, q26, hv1, q27, hg, q28, q29, q30, mapC, map1, ↓reduceIte, Int.reduceToNat]
          refine CallK.pure (c_r_tail ws false j [108, 101, 118, 101, 108] nofun (by omega) (hvw _)) rfl rfl (by simp [-List.map_take]) ?_
          simp (decide := true) only [TF, q1, q2, q3, hw1, hw2, hw3, hw4, q23, q26, hv1, q27, hg, q28, q29, q30, mapC, map1, ↓reduceIte, Int.reduceToNat]
          refine hK _ _ ?_; clear hK K
          refine WP.sr [0, 2, 4, 5, 9, 10, 11, 12] (by kernel_rfl) fun K hK => ?_
          simp (decide := true) only [TF, q1, q2, q3, hw1, hw2, hw3, hw4, q23, q26, hv1, q27, hg, q28, q29, q30, mapC, map1, ↓reduceIte, Int.reduceToNat]
          refine CallK.pure (c_r_tail ws false (tailR ws j [108, 101, 118, 101, 108]).2.1 [97, 103, 101] nofun (by have := tailR_le ws j [108, 101, 118, 101, 108]; omega) (hvw _)) rfl rfl (by simp [-List.map_take]) ?_
          simp (decide := true) only [TF, q1, q2, q3, hw1, hw2, hw3, hw4, q23, q26, hv1, q27, hg, q28, q29, q30, mapC, map1, ↓reduceIte, Int.reduceToNat]
          refine hK _ _ ?_; clear hK K
          refine WP.sr [0, 2, 4, 5, 10, 11, 12] (by kernel_rfl) fun K hK => ?_
          simp (decide := true) only [TF, q1, q2, q3, hw1, hw2, hw3, hw4, q23, q26, hv1, q27, hg, q28, q29, q30, mapC, map1, ↓reduceIte, Int.reduceToNat]
          refine hK _ _ ?_; clear hK K
          refine WP.sr [0, 2, 4, 5, 10, 12] (by kernel_rfl) fun K hK => ?_
          simp (decide := true) only [TF, q1, q2, q3, hw1, hw2, hw3, hw4, q23, q26, hv1, q27, hg, q28, q29, q30, mapC, map1, ↓reduceIte, Int.reduceToNat]
          refine hK _ _ ?_; clear hK K
          refine WP.sr [2, 3] (by kernel_rfl) fun K hK => ?_
          refine runOps.take 3 fun J hJ => ?_
          simp (decide := true) only [TF, q1, q2, q3, hw1, hw2, hw3, hw4, q23, q26, hv1, q27, hg, q28, q29, q30, mapC, map1, ↓reduceIte, Int.reduceToNat]
          refine hJ _ _ ?_; clear hJ J
          refine runOps.part 139 rfl (fun q31 => ?_) (fun q31 => ?_)
          ·
           refine runOps.take 3 fun J hJ => ?_
           simp (decide := true) only [TF, q1, q2, q3, hw1, hw2, hw3, hw4, q23, q26, hv1, q27, hg, q28, q29, q30, q31, mapC, map1, ↓reduceIte, Int.reduceToNat]
           refine hJ _ _ ?_; clear hJ J
           refine runOps.part 142 rfl (fun q32 => ?_) (fun q32 => ?_)
           ·
            simp (decide := true) only [TF, q1, q2, q3, hw1, hw2, hw3, hw4, q23, q26, hv1, q27, hg, q28, q29, q30, q31, q32, mapC, map1, ↓reduceIte, Int.reduceToNat]
            refine hK _ _ ?_; clear hK K
            refine WP.ret ?_
            exact Ends.pure (d := .tup [_, _]) (.inr rfl) rfl ((by simp (decide := true) only [St.get, lk, W, Pr_prog, t_szD_36, t_aggD_36, z36, List.take_succ_cons, List.take_zero, q1, q2, q3, hw1, hw2, hw3, hw4, q23, q26, hv1, q27, hg, q28, q29, q30, q31, q32, ↓reduceIte, Int.reduceToNat]; first | (rw [hN]; exact Le.junks rfl) | (refine Le.trans Le.tips ?_; have h := rd_fin h3 h0 h2 hnm hC hS (by omega); simp only [q1, q2, q3, hw1, hw2, hw3, hw4, q23, q26, hv1, q27, hg, q28, q29, q30, q31, q32, Bool.true_and, Bool.false_and, Bool.and_false, Bool.and_true, Bool.false_eq_true] at h; exact h))) (by simp)
           ·
            simp (decide := true) only [TF, q1, q2, q3, hw1, hw2, hw3, hw4, q23, q26, hv1, q27, hg, q28, q29, q30, q31, q32, mapC, map1, ↓reduceIte, Int.reduceToNat]
            refine hK _ _ ?_; clear hK K
            refine WP.ret ?_
            exact Ends.pure (d := .tup [_, _]) (.inr rfl) rfl ((by simp (decide := true) only [St.get, lk, W, Pr_prog, t_szD_36, t_aggD_36, z36, List.take_succ_cons, List.take_zero, q1, q2, q3, hw1, hw2, hw3, hw4, q23, q26, hv1, q27, hg, q28, q29, q30, q31, q32, ↓reduceIte, Int.reduceToNat]; first | (rw [hN]; exact Le.junks rfl) | (refine Le.trans Le.tips ?_; have h := rd_fin h3 h0 h2 hnm hC hS (by omega); simp only [q1, q2, q3, hw1, hw2, hw3, hw4, q23, q26, hv1, q27, hg, q28, q29, q30, q31, q32, Bool.true_and, Bool.false_and, Bool.and_false, Bool.and_true, Bool.false_eq_true] at h; exact h))) (by simp)
          ·
           simp (decide := true) only [TF, q1, q2, q3, hw1, hw2, hw3, hw4, q23, q26, hv1, q27, hg, q28, q29, q30, q31, mapC, map1, ↓reduceIte, Int.reduceToNat]
           refine hK _ _ ?_; clear hK K
           refine WP.ret ?_
           exact Ends.pure (d := .tup [_, _]) (.inr rfl) rfl ((by simp (decide := true) only [St.get, lk, W, Pr_prog, t_szD_36, t_aggD_36, z36, List.take_succ_cons, List.take_zero, q1, q2, q3, hw1, hw2, hw3, hw4, q23, q26, hv1, q27, hg, q28, q29, q30, q31, ↓reduceIte, Int.reduceToNat]; first | (rw [hN]; exact Le.junks rfl) | (refine Le.trans Le.tips ?_; have h := rd_fin h3 h0 h2 hnm hC hS (by omega); simp only [q1, q2, q3, hw1, hw2, hw3, hw4, q23, q26, hv1, q27, hg, q28, q29, q30, q31, Bool.true_and, Bool.false_and, Bool.and_false, Bool.and_true, Bool.false_eq_true] at h; exact h))) (by simp)
       ·
        have hE := scR_end (sc := sc) (.inr ⟨hjt, .inl (by simpa using q28)⟩)
        simp (decide := true) only [TF, q1, q2, q3, hw1, hw2, hw3, hw4, q23, q26, hv1, q27, hg, q28, mapC, map1, ↓reduceIte, Int.reduceToNat]
        refine hK _ _ ?_; clear hK K
        refine WP.cond (b := false) (by rfl) nofun (fun _ => ?_)
        refine WP.exit ?_
        show WP _ _ _ _ _ _
        refine WP.sr [0, 2, 4, 5, 117] (by kernel_rfl) fun K hK => ?_
        simp (decide := true) only [TF, q1, q2, q3, hw1, hw2, hw3, hw4, q23, q26, hv1, q27, hg, q28, mapC, map1, ↓reduceIte, Int.reduceToNat]
        refine hK _ _ ?_; clear hK K
        refine WP.cond (b := _) rfl (fun q33 => ?_) (fun q33 => ?_)
        ·
         have hN := rdLine_bad (readF_bad2 hC (by rw [rdScp_yes hsc, hI, hE, show (sc.length : Int) = 0 by simpa using q33]; rfl))
         refine WP.sr [2, 3] (by kernel_rfl) fun K hK => ?_
         simp (decide := true) only [TF, q1, q2, q3, hw1, hw2, hw3, hw4, q23, q26, hv1, q27, hg, q28, q33, mapC, map1, ↓reduceIte, Int.reduceToNat]
         refine hK _ _ ?_; clear hK K
         refine WP.ret ?_
         exact Ends.pure (d := .tup [_, _]) (.inr rfl) rfl ((by simp (decide := true) only [St.get, lk, W, Pr_prog, t_szD_36, t_aggD_36, z36, List.take_succ_cons, List.take_zero, q1, q2, q3, hw1, hw2, hw3, hw4, q23, q26, hv1, q27, hg, q28, q33, ↓reduceIte, Int.reduceToNat]; first | (rw [hN]; exact Le.junks rfl) | (refine Le.trans Le.tips ?_; have h := rd_fin h3 h0 h2 hnm hC hS (by omega); simp only [q1, q2, q3, hw1, hw2, hw3, hw4, q23, q26, hv1, q27, hg, q28, q33, Bool.true_and, Bool.false_and, Bool.and_false, Bool.and_true, Bool.false_eq_true] at h; exact h))) (by simp)
        ·
         have hS : rdScp true (ws.drop i) = (true, ws.drop j, sc) := by
                    have hp : ¬ ((sc.length : Int) = 0) := by simpa using q33
                    rw [rdScp_yes hsc, hI, hE, decide_eq_true (show (sc.length : Int) > 0 by omega)]
         refine WP.skip ?_
         show WP _ _ _ _ _ _
         refine WP.sr [0, 2, 4, 5, 9, 10] (by kernel_rfl) fun K hK => ?_
         simp (decide := true) only [TF, q1, q2, q3, hw1, hw2, hw3, hw4, q23, q26, hv1, q27, hg, q28, q33, mapC, map1, ↓reduceIte, Int.reduceToNat]
         refine CallK.pure (c_r_tail ws false j [108, 101, 118, 101, 108] nofun (by omega) (hvw _)) rfl rfl (by simp [-List.map_take]) ?_
         simp (decide := true) only [TF, q1, q2, q3, hw1, hw2, hw3, hw4, q23, q26, hv1, q27, hg, q28, q33, mapC, map1, ↓reduceIte, Int.reduceToNat]
         refine hK _ _ ?_; clear hK K
         refine WP.sr [0, 2, 4, 5, 9, 10, 11, 12] (by kernel_rfl) fun K hK => ?_
         simp (decide := true) only [TF, q1, q2, q3, hw1, hw2, hw3, hw4, q23, q26, hv1, q27, hg, q28, q33, mapC, map1, ↓reduceIte, Int.reduceToNat]
         refine CallK.pure (c_r_tail ws false (tailR ws j [108, 101, 118, 101, 108]).2.1 [97, 103, 101] nofun (by have := tailR_le ws j [108, 101, 118, 101, 108]; omega) (hvw _)) rfl rfl (by simp [-List.map_take]) ?_
         simp (decide := true) only [TF, q1, q2, q3, hw1, hw2, hw3, hw4, q23, q26, hv1, q27, hg, q28, q33, mapC, map1, ↓reduceIte, Int.reduceToNat]
         refine hK _ _ ?_; clear hK K
         refine WP.sr [0, 2, 4, 5, 10, 11, 12] (by kernel_rfl) fun K hK => ?_
         simp (decide := true) only [TF, q1, q2, q3, hw1, hw2, hw3, hw4, q23, q26, hv1, q27, hg, q28, q33, mapC, map1, ↓reduceIte, Int.reduceToNat]
         refine hK _ _ ?_; clear hK K
         refine WP.sr [0, 2, 4, 5, 10, 12] (by kernel_rfl) fun K hK => ?_
         simp (decide := true) only [TF, q1, q2, q3, hw1, hw2, hw3, hw4, q23, q26, hv1, q27, hg, q28, q33, mapC, map1, ↓reduceIte, Int.reduceToNat]
         refine hK _ _ ?_; clear hK K
         refine WP.sr [2, 3] (by kernel_rfl) fun K hK => ?_
         refine runOps.take 3 fun J hJ => ?_
         simp (decide := true) only [TF, q1, q2, q3, hw1, hw2, hw3, hw4, q23, q26, hv1, q27, hg, q28, q33, mapC, map1, ↓reduceIte, Int.reduceToNat]
         refine hJ _ _ ?_; clear hJ J
         refine runOps.part 139 rfl (fun q34 => ?_) (fun q34 => ?_)
         ·
          refine runOps.take 3 fun J hJ => ?_
          simp (decide := true) only [TF, q1, q2, q3, hw1, hw2, hw3, hw4, q23, q26, hv1, q27, hg, q28, q33, q34, mapC, map1, ↓reduceIte, Int.reduceToNat]
          refine hJ _ _ ?_; clear hJ J
          refine runOps.part 142 rfl (fun q35 => ?_) (fun q35 => ?_)
          ·
           simp (decide := true) only [TF, q1, q2, q3, hw1, hw2, hw3, hw4, q23, q26, hv1, q27, hg, q28, q33, q34, q35, mapC, map1, ↓reduceIte, Int.reduceToNat]
           refine hK _ _ ?_; clear hK K
           refine WP.ret ?_
           exact Ends.pure (d := .tup [_, _]) (.inr rfl) rfl ((by simp (decide := true) only [St.get, lk, W, Pr_prog, t_szD_36, t_aggD_36, z36, List.take_succ_cons, List.take_zero, q1, q2, q3, hw1, hw2, hw3, hw4, q23, q26, hv1, q27, hg, q28, q33, q34, q35, ↓reduceIte, Int.reduceToNat]; first | (rw [hN]; exact Le.junks rfl) | (refine Le.trans Le.tips ?_; have h := rd_fin h3 h0 h2 hnm hC hS (by omega); simp only [q1, q2, q3, hw1, hw2, hw3, hw4, q23, q26, hv1, q27, hg, q28, q33, q34, q35, Bool.true_and, Bool.false_and, Bool.and_false, Bool.and_true, Bool.false_eq_true] at h; exact h))) (by simp)
          ·
           simp (decide := true) only [TF, q1, q2, q3, hw1, hw2, hw3, hw4, q23, q26, hv1, q27, hg, q28, q33, q34, q35, mapC, map1, ↓reduceIte, Int.reduceToNat]
           refine hK _ _ ?_; clear hK K
           refine WP.ret ?_
           exact Ends.pure (d := .tup [_, _]) (.inr rfl) rfl ((by simp (decide := true) only [St.get, lk, W, Pr_prog, t_szD_36, t_aggD_36, z36, List.take_succ_cons, List.take_zero, q1, q2, q3, hw1, hw2, hw3, hw4, q23, q26, hv1, q27, hg, q28, q33, q34, q35, ↓reduceIte, Int.reduceToNat]; first | (rw [hN]; exact Le.junks rfl) | (refine Le.trans Le.tips ?_; have h := rd_fin h3 h0 h2 hnm hC hS (by omega); simp only [q1, q2, q3, hw1, hw2, hw3, hw4, q23, q26, hv1, q27, hg, q28, q33, q34, q35, Bool.true_and, Bool.false_and, Bool.and_false, Bool.and_true, Bool.false_eq_true] at h; exact h))) (by simp)
         ·
          simp (decide := true) only [TF, q1, q2, q3, hw1, hw2, hw3, hw4, q23, q26, hv1, q27, hg, q28, q33, q34, mapC, map1, ↓reduceIte, Int.reduceToNat]
          refine hK _ _ ?_; clear hK K
          refine WP.ret ?_
          exact Ends.pure (d := .tup [_, _]) (.inr rfl) rfl ((by simp (decide := true) only [St.get, lk, W, Pr_prog, t_szD_36, t_aggD_36, z36, List.take_succ_cons, List.take_zero, q1, q2, q3, hw1, hw2, hw3, hw4, q23, q26, hv1, q27, hg, q28, q33, q34, ↓reduceIte, Int.reduceToNat]; first | (rw [hN]; exact Le.junks rfl) | (refine Le.trans Le.tips ?_; have h := rd_fin h3 h0 h2 hnm hC hS (by omega); simp only [q1, q2, q3, hw1, hw2, hw3, hw4, q23, q26, hv1, q27, hg, q28, q33, q34, Bool.true_and, Bool.false_and, Bool.and_false, Bool.and_true, Bool.false_eq_true] at h; exact h))) (by simp)
      ·
       have hE := scR_end (sc := sc) (.inl (ge_of_q q27))
       simp (decide := true) only [TF, q1, q2, q3, hw1, hw2, hw3, hw4, q23, q26, hv1, q27, mapC, map1, ↓reduceIte, Int.reduceToNat]
       refine hK _ _ ?_; clear hK K
       refine WP.cond (b := false) (by rfl) nofun (fun _ => ?_)
       refine WP.exit ?_
       show WP _ _ _ _ _ _
       refine WP.sr [0, 2, 4, 5, 117] (by kernel_rfl) fun K hK => ?_
       simp (decide := true) only [TF, q1, q2, q3, hw1, hw2, hw3, hw4, q23, q26, hv1, q27, mapC, map1, ↓reduceIte, Int.reduceToNat]
       refine hK _ _ ?_; clear hK K
       refine WP.cond (b := _) rfl (fun q36 => ?_) (fun q36 => ?_)
       ·
        have hN := rdLine_bad (readF_bad2 hC (by rw [rdScp_yes hsc, hI, hE, show (sc.length : Int) = 0 by simpa using q36]; rfl))
        refine WP.sr [2, 3] (by kernel_rfl) fun K hK => ?_
        simp (decide := true) only [TF, q1, q2, q3, hw1, hw2, hw3, hw4, q23, q26, hv1, q27, q36, mapC, map1, ↓reduceIte, Int.reduceToNat]
        refine hK _ _ ?_; clear hK K
        refine WP.ret ?_
        exact Ends.pure (d := .tup [_, _]) (.inr rfl) rfl ((by simp (decide := true) only [St.get, lk, W, Pr_prog, t_szD_36, t_aggD_36, z36, List.take_succ_cons, List.take_zero, q1, q2, q3, hw1, hw2, hw3, hw4, q23, q26, hv1, q27, q36, ↓reduceIte, Int.reduceToNat]; first | (rw [hN]; exact Le.junks rfl) | (refine Le.trans Le.tips ?_; have h := rd_fin h3 h0 h2 hnm hC hS (by omega); simp only [q1, q2, q3, hw1, hw2, hw3, hw4, q23, q26, hv1, q27, q36, Bool.true_and, Bool.false_and, Bool.and_false, Bool.and_true, Bool.false_eq_true] at h; exact h))) (by simp)
       ·
        have hS : rdScp true (ws.drop i) = (true, ws.drop j, sc) := by
                    have hp : ¬ ((sc.length : Int) = 0) := by simpa using q36
                    rw [rdScp_yes hsc, hI, hE, decide_eq_true (show (sc.length : Int) > 0 by omega)]
        refine WP.skip ?_
        show WP _ _ _ _ _ _
        refine WP.sr [0, 2, 4, 5, 9, 10] (by kernel_rfl) fun K hK => ?_
        simp (decide := true) only [TF, q1, q2, q3, hw1, hw2, hw3, hw4, q23, q26, hv1, q27, q36, mapC, map1, ↓reduceIte, Int.reduceToNat]
        refine CallK.pure (c_r_tail ws false j [108, 101, 118, 101, 108] nofun (by omega) (hvw _)) rfl rfl (by simp [-List.map_take]) ?_
        simp (decide := true) only [TF, q1, q2, q3, hw1, hw2, hw3, hw4, q23, q26, hv1, q27, q36, mapC, map1, ↓reduceIte, Int.reduceToNat]
        refine hK _ _ ?_; clear hK K
        refine WP.sr [0, 2, 4, 5, 9, 10, 11, 12] (by kernel_rfl) fun K hK => ?_
        simp (decide := true) only [TF, q1, q2, q3, hw1, hw2, hw3, hw4, q23, q26, hv1, q27, q36, mapC, map1, ↓reduceIte, Int.reduceToNat]
        refine CallK.pure (c_r_tail ws false (tailR ws j [108, 101, 118, 101, 108]).2.1 [97, 103, 101] nofun (by have := tailR_le ws j [108, 101, 118, 101, 108]; omega) (hvw _)) rfl rfl (by simp [-List.map_take]) ?_
        simp (decide := true) only [TF, q1, q2, q3, hw1, hw2, hw3, hw4, q23, q26, hv1, q27, q36, mapC, map1, ↓reduceIte, Int.reduceToNat]
        refine hK _ _ ?_; clear hK K
        refine WP.sr [0, 2, 4, 5, 10, 11, 12] (by kernel_rfl) fun K hK => ?_
        simp (decide := true) only [TF, q1, q2, q3, hw1, hw2, hw3, hw4, q23, q26, hv1, q27, q36, mapC, map1, ↓reduceIte, Int.reduceToNat]
        refine hK _ _ ?_; clear hK K
        refine WP.sr [0, 2, 4, 5, 10, 12] (by kernel_rfl) fun K hK => ?_
        simp (decide := true) only [TF, q1, q2, q3, hw1, hw2, hw3, hw4, q23, q26, hv1, q27, q36, mapC, map1, ↓reduceIte, Int.reduceToNat]
        refine hK _ _ ?_; clear hK K
        refine WP.sr [2, 3] (by kernel_rfl) fun K hK => ?_
        refine runOps.take 3 fun J hJ => ?_
        simp (decide := true) only [TF, q1, q2, q3, hw1, hw2, hw3, hw4, q23, q26, hv1, q27, q36, mapC, map1, ↓reduceIte, Int.reduceToNat]
        refine hJ _ _ ?_; clear hJ J
        refine runOps.part 139 rfl (fun q37 => ?_) (fun q37 => ?_)
        ·
         refine runOps.take 3 fun J hJ => ?_
         simp (decide := true) only [TF, q1, q2, q3, hw1, hw2, hw3, hw4, q23, q26, hv1, q27, q36, q37, mapC, map1, ↓reduceIte, Int.reduceToNat]
         refine hJ _ _ ?_; clear hJ J
         refine runOps.part 142 rfl (fun q38 => ?_) (fun q38 => ?_)
         ·
          simp (decide := true) only [TF, q1, q2, q3, hw1, hw2, hw3, hw4, q23, q26, hv1, q27, q36, q37, q38, mapC, map1, ↓reduceIte, Int.reduceToNat]
          refine hK _ _ ?_; clear hK K
          refine WP.ret ?_
          exact Ends.pure (d := .tup [_, _]) (.inr rfl) rfl ((by simp (decide := true) only [St.get, lk, W, Pr_prog, t_szD_36, t_aggD_36, z36, List.take_succ_cons, List.take_zero, q1, q2, q3, hw1, hw2, hw3, hw4, q23, q26, hv1, q27, q36, q37, q38, ↓reduceIte, Int.reduceToNat]; first | (rw [hN]; exact Le.junks rfl) | (refine Le.trans Le.tips ?_; have h := rd_fin h3 h0 h2 hnm hC hS (by omega); simp only [q1, q2, q3, hw1, hw2, hw3, hw4, q23, q26, hv1, q27, q36, q37, q38, Bool.true_and, Bool.false_and, Bool.and_false, Bool.and_true, Bool.false_eq_true] at h; exact h))) (by simp)
         ·
          simp (decide := true) only [TF, q1, q2, q3, hw1, hw2, hw3, hw4, q23, q26, hv1, q27, q36, q37, q38, mapC, map1, ↓reduceIte, Int.reduceToNat]
          refine hK _ _ ?_; clear hK K
          refine WP.ret ?_
          exact Ends.pure (d := .tup [_, _]) (.inr rfl) rfl ((by simp (decide := true) only [St.get, lk, W, Pr_prog, t_szD_36, t_aggD_36, z36, List.take_succ_cons, List.take_zero, q1, q2, q3, hw1, hw2, hw3, hw4, q23, q26, hv1, q27, q36, q37, q38, ↓reduceIte, Int.reduceToNat]; first | (rw [hN]; exact Le.junks rfl) | (refine Le.trans Le.tips ?_; have h := rd_fin h3 h0 h2 hnm hC hS (by omega); simp only [q1, q2, q3, hw1, hw2, hw3, hw4, q23, q26, hv1, q27, q36, q37, q38, Bool.true_and, Bool.false_and, Bool.and_false, Bool.and_true, Bool.false_eq_true] at h; exact h))) (by simp)
        ·
         simp (decide := true) only [TF, q1, q2, q3, hw1, hw2, hw3, hw4, q23, q26, hv1, q27, q36, q37, mapC, map1, ↓reduceIte, Int.reduceToNat]
         refine hK _ _ ?_; clear hK K
         refine WP.ret ?_
         exact Ends.pure (d := .tup [_, _]) (.inr rfl) rfl ((by simp (decide := true) only [St.get, lk, W, Pr_prog, t_szD_36, t_aggD_36, z36, List.take_succ_cons, List.take_zero, q1, q2, q3, hw1, hw2, hw3, hw4, q23, q26, hv1, q27, q36, q37, ↓reduceIte, Int.reduceToNat]; first | (rw [hN]; exact Le.junks rfl) | (refine Le.trans Le.tips ?_; have h := rd_fin h3 h0 h2 hnm hC hS (by omega); simp only [q1, q2, q3, hw1, hw2, hw3, hw4, q23, q26, hv1, q27, q36, q37, Bool.true_and, Bool.false_and, Bool.and_false, Bool.and_true, Bool.false_eq_true] at h; exact h))) (by simp)
     ·
      have hsc : ¬ wdAt ws i = [115, 99, 111, 112, 101, 115] := by simpa using q26
      have hS := rdScp_no hsc
      refine WP.skip ?_
      show WP _ _ _ _ _ _
      refine WP.sr [0, 2, 4, 5, 9, 10] (by kernel_rfl) fun K hK => ?_
      simp (decide := true) only [TF, q1, q2, q3, hw1, hw2, hw3, hw4, q23, q26, mapC, map1, ↓reduceIte, Int.reduceToNat]
      refine CallK.pure (c_r_tail ws false i [108, 101, 118, 101, 108] nofun (by omega) (hvw _)) rfl rfl (by simp [-List.map_take]) ?_
      simp (decide := true) only [TF, q1, q2, q3, hw1, hw2, hw3, hw4, q23, q26, mapC, map1, ↓reduceIte, Int.reduceToNat]
      refine hK _ _ ?_; clear hK K
      refine WP.sr [0, 2, 4, 5, 9, 10, 11, 12] (by kernel_rfl) fun K hK => ?_
      simp (decide := true) only [TF, q1, q2, q3, hw1, hw2, hw3, hw4, q23, q26, mapC, map1, ↓reduceIte, Int.reduceToNat]
      refine CallK.pure (c_r_tail ws false (tailR ws i [108, 101, 118, 101, 108]).2.1 [97, 103, 101] nofun (by have := tailR_le ws i [108, 101, 118, 101, 108]; omega) (hvw _)) rfl rfl (by simp [-List.map_take]) ?_
      simp (decide := true) only [TF, q1, q2, q3, hw1, hw2, hw3, hw4, q23, q26, mapC, map1, ↓reduceIte, Int.reduceToNat]
      refine hK _ _ ?_; clear hK K
      refine WP.sr [0, 2, 4, 5, 10, 11, 12] (by kernel_rfl) fun K hK => ?_
      simp (decide := true) only [TF, q1, q2, q3, hw1, hw2, hw3, hw4, q23, q26, mapC, map1, ↓reduceIte, Int.reduceToNat]
      refine hK _ _ ?_; clear hK K
      refine WP.sr [0, 2, 4, 5, 10, 12] (by kernel_rfl) fun K hK => ?_
      simp (decide := true) only [TF, q1, q2, q3, hw1, hw2, hw3, hw4, q23, q26, mapC, map1, ↓reduceIte, Int.reduceToNat]
      refine hK _ _ ?_; clear hK K
      refine WP.sr [2, 3] (by kernel_rfl) fun K hK => ?_
      refine runOps.take 3 fun J hJ => ?_
      simp (decide := true) only [TF, q1, q2, q3, hw1, hw2, hw3, hw4, q23, q26, mapC, map1, ↓reduceIte, Int.reduceToNat]
      refine hJ _ _ ?_; clear hJ J
      refine runOps.part 139 rfl (fun q39 => ?_) (fun q39 => ?_)
      ·
       refine runOps.take 3 fun J hJ => ?_
       simp (decide := true) only [TF, q1, q2, q3, hw1, hw2, hw3, hw4, q23, q26, q39, mapC, map1, ↓reduceIte, Int.reduceToNat]
       refine hJ _ _ ?_; clear hJ J
       refine runOps.part 142 rfl (fun q40 => ?_) (fun q40 => ?_)
       ·
        simp (decide := true) only [TF, q1, q2, q3, hw1, hw2, hw3, hw4, q23, q26, q39, q40, mapC, map1, ↓reduceIte, Int.reduceToNat]
        refine hK _ _ ?_; clear hK K
        refine WP.ret ?_
        exact Ends.pure (d := .tup [_, _]) (.inr rfl) rfl ((by simp (decide := true) only [St.get, lk, W, Pr_prog, t_szD_36, t_aggD_36, z36, List.take_succ_cons, List.take_zero, q1, q2, q3, hw1, hw2, hw3, hw4, q23, q26, q39, q40, ↓reduceIte, Int.reduceToNat]; first | (rw [hN]; exact Le.junks rfl) | (refine Le.trans Le.tips ?_; have h := rd_fin h3 h0 h2 hnm hC hS (by omega); simp only [q1, q2, q3, hw1, hw2, hw3, hw4, q23, q26, q39, q40, Bool.true_and, Bool.false_and, Bool.and_false, Bool.and_true, Bool.false_eq_true] at h; exact h))) (by simp)
       ·
        simp (decide := true) only [TF, q1, q2, q3, hw1, hw2, hw3, hw4, q23, q26, q39, q40, mapC, map1, ↓reduceIte, Int.reduceToNat]
        refine hK _ _ ?_; clear hK K
        refine WP.ret ?_
        exact Ends.pure (d := .tup [_, _]) (.inr rfl) rfl ((by simp (decide := true) only [St.get, lk, W, Pr_prog, t_szD_36, t_aggD_36, z36, List.take_succ_cons, List.take_zero, q1, q2, q3, hw1, hw2, hw3, hw4, q23, q26, q39, q40, ↓reduceIte, Int.reduceToNat]; first | (rw [hN]; exact Le.junks rfl) | (refine Le.trans Le.tips ?_; have h := rd_fin h3 h0 h2 hnm hC hS (by omega); simp only [q1, q2, q3, hw1, hw2, hw3, hw4, q23, q26, q39, q40, Bool.true_and, Bool.false_and, Bool.and_false, Bool.and_true, Bool.false_eq_true] at h; exact h))) (by simp)
      ·
       simp (decide := true) only [TF, q1, q2, q3, hw1, hw2, hw3, hw4, q23, q26, q39, mapC, map1, ↓reduceIte, Int.reduceToNat]
       refine hK _ _ ?_; clear hK K
       refine WP.ret ?_
       exact Ends.pure (d := .tup [_, _]) (.inr rfl) rfl ((by simp (decide := true) only [St.get, lk, W, Pr_prog, t_szD_36, t_aggD_36, z36, List.take_succ_cons, List.take_zero, q1, q2, q3, hw1, hw2, hw3, hw4, q23, q26, q39, ↓reduceIte, Int.reduceToNat]; first | (rw [hN]; exact Le.junks rfl) | (refine Le.trans Le.tips ?_; have h := rd_fin h3 h0 h2 hnm hC hS (by omega); simp only [q1, q2, q3, hw1, hw2, hw3, hw4, q23, q26, q39, Bool.true_and, Bool.false_and, Bool.and_false, Bool.and_true, Bool.false_eq_true] at h; exact h))) (by simp)
end Go.Proofs

set_option linter.unusedSimpArgs false
set_option linter.unusedVariables false
namespace Go.Proofs
open Go Go.Id
theorem escB_ge : ∀ s : List UInt8, s.length ≤ (escB s).length
  | [] => by simp [escB]
  | c :: s => by
    have h1 : 1 ≤ (escC c).length := by unfold escC; split <;> simp
    have h2 := escB_ge s
    simp only [escB, List.flatMap_cons, List.length_append, List.length_cons] at h2 ⊢
    omega
theorem unB_len {s u : List UInt8} (h : unB s = some u) : u.length ≤ s.length := by
  have := ((unB_unR s.length s (Nat.le_refl _) u).1 h).2
  rw [← this]; exact escB_ge u
theorem unB_get (v : List UInt8) : ((unB v).getD []).length ≤ v.length := by
  cases h : unB v with
  | none => simp
  | some u => exact unB_len h
theorem cdR_bd : ∀ (n : Nat) (lead : List UInt8) (ws : Wds) (cs : List Cond), (∀ c ∈ cs, c.ok) → (∀ x ∈ ws, x.length ≤ 1099511627776) → (∀ c ∈ (cdR n lead ws cs).2.2, c.ok) ∧ (∀ x ∈ (cdR n lead ws cs).2.1, x ∈ ws) ∧ (cdR n lead ws cs).2.2.length ≤ cs.length + ws.length
  | 0, lead, ws, cs, h1, h2 => ⟨h1, fun x hx => hx, Nat.le_add_right _ _⟩
  | n + 1, lead, ws, cs, h1, h2 => by
    have hm : ∀ x ∈ cdW ws.tail, x ∈ ws := fun x hx => List.mem_of_mem_tail (cdW_mem _ x hx)
    have hc : ∀ c ∈ cdC ws.tail cs, c.ok := by
      rcases cd_cases ws.tail with ⟨_, _, _, h⟩ | ⟨f, op, v, t, e⟩
      · rw [h]; exact h1
      · rw [e]
        simp only [cdC, List.mem_append, List.mem_singleton]
        have hq : ∀ x ∈ ws.tail, x.length ≤ 1099511627776 := fun x hx => h2 x (List.mem_of_mem_tail hx)
        rw [e] at hq
        rintro c (hc | rfl)
        · exact h1 c hc
        · exact ⟨hq f (by simp), hq op (by simp), Nat.le_trans (unB_get v) (hq v (by simp))⟩
    have hl := cdC_len ws.tail cs
    have ht : ws.tail.length ≤ ws.length := by simp
    rw [cdR_succ]
    split
    · split
      · obtain ⟨a, b, c⟩ := cdR_bd n [97, 110, 100] (cdW ws.tail) (cdC ws.tail cs) hc (fun x hx => h2 x (hm x hx))
        exact ⟨a, fun x hx => hm x (b x hx), by omega⟩
      · exact ⟨hc, hm, by simp only; omega⟩
    · exact ⟨h1, fun x hx => hx, Nat.le_add_right _ _⟩
theorem rdScp_bd (w : Wds) (ok : Bool) : (∀ x ∈ (rdScp ok w).2.2, x ∈ w) ∧ (rdScp ok w).2.2.length ≤ w.length := by
  unfold rdScp
  split
  · split
    · have h1 := scR_mem w.tail []
      have h2 := scR_len w.tail []
      have ht : w.tail.length ≤ w.length := by simp
      refine ⟨fun x hx => ?_, ?_⟩
      · rcases h1.2 x hx with h | h
        · exact List.mem_of_mem_tail h
        · cases h
      · simp only [List.length_nil] at h2 ⊢; omega
    · simp
  · simp
theorem cdR_wlen (n : Nat) (lead : List UInt8) (ws : Wds) (cs : List Cond) : (cdR n lead ws cs).2.1.length ≤ ws.length := by
  induction n generalizing lead ws cs with
  | zero => exact Nat.le_refl _
  | succ n ih =>
    have h1 := cdW_len ws.tail
    have ht : ws.tail.length ≤ ws.length := by simp
    rw [cdR_succ]
    split
    · split
      · have := ih [97, 110, 100] (cdW ws.tail) (cdC ws.tail cs); omega
      · simp only; omega
    · exact Nat.le_refl _
theorem rdLine_ok {ws : Wds} {p : Rule} (hl : ws.length ≤ 4097) (hv : ∀ x ∈ ws, x.length ≤ 4096) (h : rdLine ws = some p) : p.ok := by
  unfold rdLine at h
  split at h
  · cases h
  · have hd : ∀ x ∈ ws.drop 3, x.length ≤ 1099511627776 := fun x hx => Nat.le_trans (hv x (List.mem_of_mem_drop hx)) (by decide)
    obtain ⟨a, b, c⟩ := cdR_bd ((ws.drop 3).length + 1) [105, 102] (ws.drop 3) [] (by simp) hd
    have e := cdR_wlen ((ws.drop 3).length + 1) [105, 102] (ws.drop 3) []
    rcases hc : cdR ((ws.drop 3).length + 1) [105, 102] (ws.drop 3) [] with ⟨ok, w1, c1⟩
    rw [hc] at a b c e
    obtain ⟨s1, s2⟩ := rdScp_bd w1 ok
    rcases hs : rdScp ok w1 with ⟨ok2, w2, sc⟩
    rw [hs] at s1 s2
    rcases h3 : cntR w2 [108, 101, 118, 101, 108] with ⟨n1, b1, w3⟩
    rcases h4 : cntR w3 [97, 103, 101] with ⟨n2, b2, w4⟩
    have hr := readF_eq hc hs h3 h4
    rw [hr] at h
    revert h
    cases ok2 && b1 && b2 && ((w4.length : Int) == 0) with
    | false => intro h; cases h
    | true =>
      intro h
      simp only [Option.some.injEq] at h
      subst h
      dsimp only at a b c e s1 s2
      have hdl : (ws.drop 3).length ≤ ws.length := by simp
      have hb := wdAt_bd hv 1
      refine ⟨⟨?_, ?_, ?_, ?_⟩, hb, a, fun s hs => hd s (b s (s1 s hs))⟩
      · simp only [List.length_nil] at c; show c1.length ≤ _; omega
      · intro q; exact List.isEmpty_iff.1 q
      · show sc.length ≤ _; omega
      · intro q; exact List.isEmpty_iff.1 q
/-- The rule of a line. -/
def rdL (l : List UInt8) : Option Rule := rdLine (cutA 32 [] l)
theorem rdL_ok {l : List UInt8} {p : Rule} (hl : l.length ≤ 4096) (h : rdL l = some p) : p.ok :=
  rdLine_ok (by have := (cutA_len 32 l []).1; omega) (fun x hx => by have := cutA_mem 32 l [] x hx; simp at this; omega) h
def parseP (n : Int) (rs : List Rule) : Wds → List Rule × Int × Int
  | [] => (rs, 0, 0)
  | [l] => if l = [] then (rs, 0, 0) else ([], n + 1, 4)
  | l :: m :: t => match rdL l with
    | none => ([], n + 1, 4)
    | some p => if checkE (rs ++ [p]) = 0 then parseP (n + 1) (rs ++ [p]) (m :: t) else ([], n + 1, checkE (rs ++ [p]))
def pR (s : List UInt8) : List Rule × Int × Int := if 4096 < s.length then ([], 0, 3) else parseP 0 [] (cutA 10 [] s)
def pD (x : List Rule × Int × Int) : D := .tup [.slice 6 x.1.isEmpty (x.1.map Rule.cs) none, .int .i64 x.2.1, .int .i64 x.2.2]
@[simp] theorem clo_pD {S : Nat → Prop} (x : List Rule × Int × Int) : Clo S (pD x) := by simp [pD]
theorem pR_long {s : List UInt8} (h : 4096 < s.length) : pR s = ([], 0, 3) := by unfold pR; rw [if_pos h]
theorem pR_short {s : List UInt8} (h : s.length ≤ 4096) : pR s = parseP 0 [] (cutA 10 [] s) := by unfold pR; rw [if_neg (by omega)]
theorem parseP_e (n : Int) (rs : List Rule) {l : List UInt8} (h : l = []) : parseP n rs [l] = (rs, 0, 0) := by rw [parseP, if_pos h]
theorem parseP_l (n : Int) (rs : List Rule) {l : List UInt8} (h : ¬ l = []) : parseP n rs [l] = ([], n + 1, 4) := by rw [parseP, if_neg h]
theorem parseP_n (n : Int) (rs : List Rule) {l m : List UInt8} {t : Wds} (h : rdL l = none) : parseP n rs (l :: m :: t) = ([], n + 1, 4) := by rw [parseP, h]
theorem parseP_b (n : Int) (rs : List Rule) {l m : List UInt8} {t : Wds} {p : Rule} (h : rdL l = some p) (hk : ¬ checkE (rs ++ [p]) = 0) : parseP n rs (l :: m :: t) = ([], n + 1, checkE (rs ++ [p])) := by rw [parseP, h]; simp only; rw [if_neg hk]
theorem parseP_s (n : Int) (rs : List Rule) {l m : List UInt8} {t : Wds} {p : Rule} (h : rdL l = some p) (hk : checkE (rs ++ [p]) = 0) : parseP n rs (l :: m :: t) = parseP (n + 1) (rs ++ [p]) (m :: t) := by rw [parseP, h]; simp only; rw [if_pos hk]
def RuleD (p : Rule) : D := .agg [.str p.name, .bool p.deny, .slice 3 p.nc (p.conds.map Cond.cs) none, .slice 1 p.ns (p.scopes.map fun x => [.str x]) none, .int .i64 p.lvl, .int .i64 p.age]
theorem line_cases {l : List UInt8} (hl : l.length ≤ 4096) : (∃ p, lineD (rdLine (cutA 32 [] l)) = .tup [.agg [.str p.name, .bool p.deny, .slice 3 p.nc (p.conds.map Cond.cs) none, .slice 1 p.ns (p.scopes.map fun x => [.str x]) none, .int .i64 p.lvl, .int .i64 p.age], .bool true] ∧ rdL l = some p ∧ p.ok) ∨ (lineD (rdLine (cutA 32 [] l)) = .tup [.agg [.junk, .junk, .junk, .junk, .junk, .junk], .bool false] ∧ rdL l = none) := by
  cases h : rdL l with
  | none => exact .inr ⟨by rw [show rdLine (cutA 32 [] l) = none from h]; rfl, rfl⟩
  | some p => exact .inl ⟨p, by rw [show rdLine (cutA 32 [] l) = some p from h]; rfl, rfl, rdL_ok hl h⟩
theorem mapR (rs : List Rule) (p : Rule) : rs.map Rule.cs ++ [[.str p.name, .bool p.deny, .slice 3 p.nc (p.conds.map Cond.cs) none, .slice 1 p.ns (p.scopes.map fun x => [.str x]) none, .int .i64 p.lvl, .int .i64 p.age]] = (rs ++ [p]).map Rule.cs := by simp [Rule.cs]
theorem cut_cases (r : List UInt8) : (∃ a b, Lib.cut r [10] = (a, b, true) ∧ cutA 10 [] r = a :: cutA 10 [] b ∧ a.length + b.length + 1 = r.length) ∨ (Lib.cut r [10] = (r, [], false) ∧ cutA 10 [] r = [r]) := by
  rcases Lib.index_spec r [10] with ⟨h1, _⟩ | ⟨i, h1, hi, ho, _⟩
  · refine .inr ⟨?_, ?_⟩
    · unfold Lib.cut; rw [h1]; rfl
    · rw [(cut_index 10 r).1 h1]; rfl
  · refine .inl ⟨r.take i, r.drop (i + 1), ?_, ?_, ?_⟩
    · unfold Lib.cut; rw [h1, if_pos (by omega)]; rfl
    · rw [(cut_index 10 r).2 i h1]; rfl
    · have : i < r.length := by
        rcases Nat.lt_or_ge i r.length with h | h
        · exact h
        · have e : i = r.length := by omega
          simp [Lib.occAt, e] at ho
      simp; omega
theorem Le.nil3 {z z' : Nat} {t : Option Nat} {a b : D} : Le (.tup [.slice z true [] t, a, b]) (.tup [.slice z' true [] none, a, b]) := by
  intro M γ w v hr
  cases hr with
  | @tup _ vs hl hr =>
    refine .tup (by simpa using hl) fun i d v hd hv => ?_
    match i with
    | 0 =>
      simp at hd; subst hd
      exact Le.nil z z' none M γ w v (rep_fg (hr 0 _ v rfl hv))
    | 1 => simp at hd; subst hd; exact hr 1 _ v rfl hv
    | 2 => simp at hd; subst hd; exact hr 2 _ v rfl hv
    | i + 3 => simp at hd
theorem cutA_ne (c : UInt8) (s : List UInt8) : ∃ a t, cutA c [] s = a :: t := by
  cases h : cutA c [] s with
  | nil => have := (cutA_len c s []).2; rw [h] at this; simp at this
  | cons a t => exact ⟨a, t, rfl⟩
end Go.Proofs

set_option linter.unusedSimpArgs false
set_option linter.unusedVariables false
set_option maxRecDepth 10000
namespace Go.Proofs
open Go Go.Id

set_option maxHeartbeats 4000000

theorem c_parse (s : List UInt8) (hs40 : s.length ≤ 1099511627776) : CallP Pr 17 [.str s] (pD (pR s)) := by
 refine CallP.of_wp Tryz.func17 rfl (by kernel_rfl) Tryz.ntmps17 (by simp) ?_
 simp only [frameOf, Nat.reduceAdd, Nat.zero_add]
 refine WP.sr [0] (by kernel_rfl) fun K hK => ?_
 simp (decide := true) only [TF, mapR, List.isEmpty_cons, Bool.and_false, ↓reduceIte, Int.reduceToNat]
 refine hK _ _ ?_; clear hK K
 refine WP.scope ?_
 refine WP.seq ?_
 refine WP.sr [0, 16] (by kernel_rfl) fun K hK => ?_
 simp (decide := true) only [TF, mapR, List.isEmpty_cons, Bool.and_false, ↓reduceIte, Int.reduceToNat]
 refine hK _ _ ?_; clear hK K
 refine WP.cond (b := _) rfl (fun q1 => ?_) (fun q1 => ?_)
 ·
  have hR := pR_long (s := s) (by have := of_decide_eq_true q1; omega)
  refine WP.sr [2, 3, 4] (by kernel_rfl) fun K hK => ?_
  simp (decide := true) only [TF, q1, mapR, List.isEmpty_cons, Bool.and_false, ↓reduceIte, Int.reduceToNat]
  refine hK _ _ ?_; clear hK K
  refine WP.ret ?_
  exact Ends.pure (d := .tup [_, _, _]) (.inr rfl) rfl ((by rw [hR]; simp (decide := true) only [pD, St.get, lk, W, Pr_prog, q1, ↓reduceIte, Int.reduceToNat]; first | exact Le.nil3 | exact Le.fg _)) (by simp)
 ·
  have hs : s.length ≤ 4096 := by have := of_decide_eq_false q1; omega
  have hP := pR_short hs
  refine WP.skip ?_
  show WP _ _ _ _ _ _
  refine WP.sr [0, 5] (by kernel_rfl) fun K hK => ?_
  simp (decide := true) only [TF, q1, mapR, List.isEmpty_cons, Bool.and_false, ↓reduceIte, Int.reduceToNat]
  refine hK _ _ ?_; clear hK K
  refine WP.sr [5, 6] (by kernel_rfl) fun K hK => ?_
  simp (decide := true) only [TF, q1, mapR, List.isEmpty_cons, Bool.and_false, ↓reduceIte, Int.reduceToNat]
  refine hK _ _ ?_; clear hK K
  refine WP.sr [5, 6, 7, 8] (by kernel_rfl) fun K hK => ?_
  simp (decide := true) only [TF, q1, mapR, List.isEmpty_cons, Bool.and_false, ↓reduceIte, Int.reduceToNat]
  refine hK _ _ ?_; clear hK K
  refine WP.seq (WP.label ?_)
  show WP _ _ _ _ _ _
  refine WP.seq ?_
  refine WP.block ?_
  refine WP.lp [] (X := {x : (Nat) × (List Rule) × (List UInt8) // match x with | (n, rs, r) => n + r.length ≤ s.length ∧ rs.length ≤ n ∧ (∀ q ∈ rs, q.ok) ∧ pR s = parseP n rs (cutA 10 [] r)}) (fun x => match x with | ⟨(n, rs, r), _⟩ => [(5, .slice 6 rs.isEmpty (rs.map Rule.cs) (some 0)), (6, .str r), (7, .int .i64 n), (8, .int .i64 0)]) (fun x => match x with | ⟨(n, rs, r), _⟩ => [(0, .tip 36 6 rs.length)]) (fun x => match x with | ⟨(n, rs, r), _⟩ => r.length) (by simp (decide := true) only [W, ↓reduceIte, Int.reduceToNat]; rfl) ?_ ⟨(0, [], s), ⟨by simp, Nat.le_refl _, by simp, hP⟩⟩ ?_
  rotate_left
  · refine Weak.trans (Weak.ghost 0 36 6 (F' := [(8, .int .i64 0), (7, .int .i64 0), (6, .str s), (5, .slice 6 true [] (some 0))]) (σ' := []) (by simp [lk, W]) (by simp [W, keep, ins, UpF, UpD]) (by simp [UpS])) ?_; exact Weak.store (by simp [St.get, lk, W, Le.refl, q1]) (by simp [lk, W]) (by simp [lk]) (by simp [BClo]) (by simp)
  rintro ⟨⟨n, rs, r⟩, hI⟩
  dsimp only
  simp only [List.cons_append, List.nil_append]
  dsimp only at hI
  clear hP
  obtain ⟨hn, hrn, hok, hP⟩ := hI
  have hw1 : IntKind.wrap .i64 ((n : Int) + 1) = (n : Int) + 1 := wrap_i64 (by omega) (by omega)
  refine WP.seq ?_
  refine WP.sr [5, 6, 7, 8, 19] (by kernel_rfl) fun K hK => ?_
  simp (decide := true) only [TF, q1, hw1, mapR, List.isEmpty_cons, Bool.and_false, ↓reduceIte, Int.reduceToNat]
  refine hK _ _ ?_; clear hK K
  refine WP.cond (b := _) rfl (fun q2 => ?_) (fun q2 => ?_)
  ·
   have hr0 : ¬ r = [] := by simpa using q2
   refine WP.skip ?_
   show WP _ _ _ _ _ _
   refine WP.block ?_
   refine WP.sr [5, 6, 7] (by kernel_rfl) fun K hK => ?_
   simp (decide := true) only [TF, q1, hw1, q2, mapR, List.isEmpty_cons, Bool.and_false, ↓reduceIte, Int.reduceToNat]
   refine hK _ _ ?_; clear hK K
   rcases cut_cases r with ⟨a, b, hc, hcb, hab⟩ | ⟨hc, hcb⟩
   ·
    refine WP.sr [5, 7, 9, 10, 11] (by kernel_rfl) fun K hK => ?_
    simp (decide := true) only [TF, q1, hw1, q2, hc, mapR, List.isEmpty_cons, Bool.and_false, ↓reduceIte, Int.reduceToNat]
    refine CallK.pure (lib_cut r [10] (by omega)) rfl rfl (by simp [-List.map_take]) ?_
    simp (decide := true) only [TF, q1, hw1, q2, hc, mapR, List.isEmpty_cons, Bool.and_false, ↓reduceIte, Int.reduceToNat]
    refine hK _ _ ?_; clear hK K
    rcases line_cases (l := a) (by omega) with ⟨p, hl, hr, hpo⟩ | ⟨hl, hr⟩
    ·
     refine WP.sr [5, 7, 10, 11, 12, 13] (by kernel_rfl) fun K hK => ?_
     simp (decide := true) only [TF, q1, hw1, q2, hc, hl, mapR, List.isEmpty_cons, Bool.and_false, ↓reduceIte, Int.reduceToNat]
     refine CallK.pure (c_rdline a (by omega)) rfl rfl (by simp [-List.map_take]) ?_
     simp (decide := true) only [TF, q1, hw1, q2, hc, hl, mapR, List.isEmpty_cons, Bool.and_false, ↓reduceIte, Int.reduceToNat]
     refine hK _ _ ?_; clear hK K
     refine WP.seq ?_
     refine WP.block ?_
     refine WP.sr [5, 7, 10, 12, 37] (by kernel_rfl) fun K hK => ?_
     simp (decide := true) only [TF, q1, hw1, q2, hc, hl, mapR, List.isEmpty_cons, Bool.and_false, ↓reduceIte, Int.reduceToNat]
     refine hK _ _ ?_; clear hK K
     refine WP.cond (b := false) (by rfl) nofun (fun _ => ?_)
     refine WP.region (by kernel_rfl) fun K hK => ?_
     simp (decide := true) only [TF, q1, hw1, q2, hc, hl, mapR, List.isEmpty_cons, Bool.and_false, ↓reduceIte, Int.reduceToNat]
     refine ⟨⟨by simp only [List.length_append, List.length_map, List.length_cons, List.length_nil]; omega, by simp only [List.length_append, List.length_map, List.length_cons, List.length_nil]; omega⟩, ?_⟩
     refine hK _ _ ?_; clear hK K
     show WP _ _ _ _ _ _
     refine WP.seq ?_
     refine WP.sr [5, 7, 8, 10] (by kernel_rfl) fun K hK => ?_
     simp (decide := true) only [TF, q1, hw1, q2, hc, hl, mapR, List.isEmpty_cons, Bool.and_false, ↓reduceIte, Int.reduceToNat]
     refine CallK.pure (c_check (rs ++ [p]) false (by simp; omega) nofun (by intro q hq; rcases List.mem_append.1 hq with h | h; exact hok q h; rw [List.mem_singleton.1 h]; exact hpo)) rfl rfl (by simp [-List.map_append, -List.mem_append]) ?_
     simp (decide := true) only [TF, q1, hw1, q2, hc, hl, mapR, List.isEmpty_cons, Bool.and_false, ↓reduceIte, Int.reduceToNat]
     refine hK _ _ ?_; clear hK K
     refine WP.sr [5, 7, 8, 10, 47] (by kernel_rfl) fun K hK => ?_
     simp (decide := true) only [TF, q1, hw1, q2, hc, hl, mapR, List.isEmpty_cons, Bool.and_false, ↓reduceIte, Int.reduceToNat]
     refine hK _ _ ?_; clear hK K
     refine WP.cond (b := _) rfl (fun q3 => ?_) (fun q3 => ?_)
     ·
      have hk : ¬ checkE (rs ++ [p]) = 0 := by simpa using q3
      have hR : pR s = ([], (n : Int) + 1, checkE (rs ++ [p])) := by obtain ⟨m, t, e⟩ := cutA_ne 10 b; rw [hP, hcb, e, parseP_b _ _ hr hk]
      refine WP.exit ?_
      show WP _ _ _ _ _ _
      refine WP.seq ?_
      refine WP.sr [5, 7, 8, 50] (by kernel_rfl) fun K hK => ?_
      simp (decide := true) only [TF, q1, hw1, q2, hc, hl, q3, mapR, List.isEmpty_cons, Bool.and_false, ↓reduceIte, Int.reduceToNat]
      refine hK _ _ ?_; clear hK K
      refine WP.cond (b := true) (by rfl) (fun _ => ?_) nofun
      refine WP.sr [2, 3, 4] (by kernel_rfl) fun K hK => ?_
      simp (decide := true) only [TF, q1, hw1, q2, hc, hl, q3, mapR, List.isEmpty_cons, Bool.and_false, ↓reduceIte, Int.reduceToNat]
      refine hK _ _ ?_; clear hK K
      refine WP.ret ?_
      exact Ends.pure (d := .tup [_, _, _]) (.inr rfl) rfl ((by rw [hR]; simp (decide := true) only [pD, St.get, lk, W, Pr_prog, q1, hw1, q2, hc, hl, q3, ↓reduceIte, Int.reduceToNat]; first | exact Le.nil3 | exact Le.fg _)) (by simp)
     ·
      have hk : checkE (rs ++ [p]) = 0 := by simpa using q3
      have hP2 : pR s = parseP ((n + 1 : Nat) : Int) (rs ++ [p]) (cutA 10 [] b) := by obtain ⟨m, t, e⟩ := cutA_ne 10 b; rw [hP, hcb, e, parseP_s _ _ hr hk]; rfl
      refine WP.skip ?_
      show WP _ _ _ _ _ _
      refine WP.region (by kernel_rfl) fun K hK => ?_
      simp (decide := true) only [TF, q1, hw1, q2, hc, hl, q3, hk, mapR, List.isEmpty_cons, Bool.and_false, ↓reduceIte, Int.reduceToNat]
      refine hK _ _ ?_; clear hK K
      show ∃ y, _ ∧ Weak _ _ _
      refine ⟨⟨(n + 1, rs ++ [p], b), ?_⟩, ?_, ?_⟩
      · exact ⟨by dsimp only; omega, by simp; omega, fun q hq => by rcases List.mem_append.1 hq with h | h; exact hok q h; rw [List.mem_singleton.1 h]; exact hpo, hP2⟩
      · dsimp only; omega
      · exact Weak.store (by simp [St.get, lk, W, Le.refl, isE1, q1, hw1, q2, hc, hl, q3, hk]) (by simp [lk, W, isE1, q1, hw1, q2, hc, hl, q3, hk]) (by simp [lk, -List.map_append, -List.mem_append]) (by simp [BClo, lk]) (by simp [lk])
    ·
     have hR : pR s = ([], (n : Int) + 1, 4) := by obtain ⟨m, t, e⟩ := cutA_ne 10 b; rw [hP, hcb, e, parseP_n _ _ hr]
     refine WP.sr [5, 7, 10, 11, 12, 13] (by kernel_rfl) fun K hK => ?_
     simp (decide := true) only [TF, q1, hw1, q2, hc, hl, mapR, List.isEmpty_cons, Bool.and_false, ↓reduceIte, Int.reduceToNat]
     refine CallK.pure (c_rdline a (by omega)) rfl rfl (by simp [-List.map_take]) ?_
     simp (decide := true) only [TF, q1, hw1, q2, hc, hl, mapR, List.isEmpty_cons, Bool.and_false, ↓reduceIte, Int.reduceToNat]
     refine hK _ _ ?_; clear hK K
     refine WP.seq ?_
     refine WP.block ?_
     refine WP.sr [5, 7, 10, 12, 37] (by kernel_rfl) fun K hK => ?_
     simp (decide := true) only [TF, q1, hw1, q2, hc, hl, mapR, List.isEmpty_cons, Bool.and_false, ↓reduceIte, Int.reduceToNat]
     refine hK _ _ ?_; clear hK K
     refine WP.cond (b := true) (by rfl) (fun _ => ?_) nofun
     refine WP.sr [5, 7, 8] (by kernel_rfl) fun K hK => ?_
     simp (decide := true) only [TF, q1, hw1, q2, hc, hl, mapR, List.isEmpty_cons, Bool.and_false, ↓reduceIte, Int.reduceToNat]
     refine hK _ _ ?_; clear hK K
     refine WP.exit ?_
     show WP _ _ _ _ _ _
     refine WP.seq ?_
     refine WP.sr [5, 7, 8, 50] (by kernel_rfl) fun K hK => ?_
     simp (decide := true) only [TF, q1, hw1, q2, hc, hl, mapR, List.isEmpty_cons, Bool.and_false, ↓reduceIte, Int.reduceToNat]
     refine hK _ _ ?_; clear hK K
     refine WP.cond (b := true) (by rfl) (fun _ => ?_) nofun
     refine WP.sr [2, 3, 4] (by kernel_rfl) fun K hK => ?_
     simp (decide := true) only [TF, q1, hw1, q2, hc, hl, mapR, List.isEmpty_cons, Bool.and_false, ↓reduceIte, Int.reduceToNat]
     refine hK _ _ ?_; clear hK K
     refine WP.ret ?_
     exact Ends.pure (d := .tup [_, _, _]) (.inr rfl) rfl ((by rw [hR]; simp (decide := true) only [pD, St.get, lk, W, Pr_prog, q1, hw1, q2, hc, hl, ↓reduceIte, Int.reduceToNat]; first | exact Le.nil3 | exact Le.fg _)) (by simp)
   ·
    have hR : pR s = ([], (n : Int) + 1, 4) := by rw [hP, hcb, parseP_l _ _ hr0]
    refine WP.sr [5, 7, 9, 10, 11] (by kernel_rfl) fun K hK => ?_
    simp (decide := true) only [TF, q1, hw1, q2, hc, mapR, List.isEmpty_cons, Bool.and_false, ↓reduceIte, Int.reduceToNat]
    refine CallK.pure (lib_cut r [10] (by omega)) rfl rfl (by simp [-List.map_take]) ?_
    simp (decide := true) only [TF, q1, hw1, q2, hc, mapR, List.isEmpty_cons, Bool.and_false, ↓reduceIte, Int.reduceToNat]
    refine hK _ _ ?_; clear hK K
    rcases line_cases (l := r) (by omega) with ⟨p, hl, hr, hpo⟩ | ⟨hl, hr⟩
    ·
     refine WP.sr [5, 7, 10, 11, 12, 13] (by kernel_rfl) fun K hK => ?_
     simp (decide := true) only [TF, q1, hw1, q2, hc, hl, mapR, List.isEmpty_cons, Bool.and_false, ↓reduceIte, Int.reduceToNat]
     refine CallK.pure (c_rdline r (by omega)) rfl rfl (by simp [-List.map_take]) ?_
     simp (decide := true) only [TF, q1, hw1, q2, hc, hl, mapR, List.isEmpty_cons, Bool.and_false, ↓reduceIte, Int.reduceToNat]
     refine hK _ _ ?_; clear hK K
     refine WP.seq ?_
     refine WP.block ?_
     refine WP.sr [5, 7, 10, 12, 37] (by kernel_rfl) fun K hK => ?_
     simp (decide := true) only [TF, q1, hw1, q2, hc, hl, mapR, List.isEmpty_cons, Bool.and_false, ↓reduceIte, Int.reduceToNat]
     refine hK _ _ ?_; clear hK K
     refine WP.cond (b := true) (by rfl) (fun _ => ?_) nofun
     refine WP.sr [5, 7, 8] (by kernel_rfl) fun K hK => ?_
     simp (decide := true) only [TF, q1, hw1, q2, hc, hl, mapR, List.isEmpty_cons, Bool.and_false, ↓reduceIte, Int.reduceToNat]
     refine hK _ _ ?_; clear hK K
     refine WP.exit ?_
     show WP _ _ _ _ _ _
     refine WP.seq ?_
     refine WP.sr [5, 7, 8, 50] (by kernel_rfl) fun K hK => ?_
     simp (decide := true) only [TF, q1, hw1, q2, hc, hl, mapR, List.isEmpty_cons, Bool.and_false, ↓reduceIte, Int.reduceToNat]
     refine hK _ _ ?_; clear hK K
     refine WP.cond (b := true) (by rfl) (fun _ => ?_) nofun
     refine WP.sr [2, 3, 4] (by kernel_rfl) fun K hK => ?_
     simp (decide := true) only [TF, q1, hw1, q2, hc, hl, mapR, List.isEmpty_cons, Bool.and_false, ↓reduceIte, Int.reduceToNat]
     refine hK _ _ ?_; clear hK K
     refine WP.ret ?_
     exact Ends.pure (d := .tup [_, _, _]) (.inr rfl) rfl ((by rw [hR]; simp (decide := true) only [pD, St.get, lk, W, Pr_prog, q1, hw1, q2, hc, hl, ↓reduceIte, Int.reduceToNat]; first | exact Le.nil3 | exact Le.fg _)) (by simp)
    ·
     refine WP.sr [5, 7, 10, 11, 12, 13] (by kernel_rfl) fun K hK => ?_
     simp (decide := true) only [TF, q1, hw1, q2, hc, hl, mapR, List.isEmpty_cons, Bool.and_false, ↓reduceIte, Int.reduceToNat]
     refine CallK.pure (c_rdline r (by omega)) rfl rfl (by simp [-List.map_take]) ?_
     simp (decide := true) only [TF, q1, hw1, q2, hc, hl, mapR, List.isEmpty_cons, Bool.and_false, ↓reduceIte, Int.reduceToNat]
     refine hK _ _ ?_; clear hK K
     refine WP.seq ?_
     refine WP.block ?_
     refine WP.sr [5, 7, 10, 12, 37] (by kernel_rfl) fun K hK => ?_
     simp (decide := true) only [TF, q1, hw1, q2, hc, hl, mapR, List.isEmpty_cons, Bool.and_false, ↓reduceIte, Int.reduceToNat]
     refine hK _ _ ?_; clear hK K
     refine WP.cond (b := true) (by rfl) (fun _ => ?_) nofun
     refine WP.sr [5, 7, 8] (by kernel_rfl) fun K hK => ?_
     simp (decide := true) only [TF, q1, hw1, q2, hc, hl, mapR, List.isEmpty_cons, Bool.and_false, ↓reduceIte, Int.reduceToNat]
     refine hK _ _ ?_; clear hK K
     refine WP.exit ?_
     show WP _ _ _ _ _ _
     refine WP.seq ?_
     refine WP.sr [5, 7, 8, 50] (by kernel_rfl) fun K hK => ?_
     simp (decide := true) only [TF, q1, hw1, q2, hc, hl, mapR, List.isEmpty_cons, Bool.and_false, ↓reduceIte, Int.reduceToNat]
     refine hK _ _ ?_; clear hK K
     refine WP.cond (b := true) (by rfl) (fun _ => ?_) nofun
     refine WP.sr [2, 3, 4] (by kernel_rfl) fun K hK => ?_
     simp (decide := true) only [TF, q1, hw1, q2, hc, hl, mapR, List.isEmpty_cons, Bool.and_false, ↓reduceIte, Int.reduceToNat]
     refine hK _ _ ?_; clear hK K
     refine WP.ret ?_
     exact Ends.pure (d := .tup [_, _, _]) (.inr rfl) rfl ((by rw [hR]; simp (decide := true) only [pD, St.get, lk, W, Pr_prog, q1, hw1, q2, hc, hl, ↓reduceIte, Int.reduceToNat]; first | exact Le.nil3 | exact Le.fg _)) (by simp)
  ·
   have hr0 : r = [] := by simpa using q2
   have hR : pR s = (rs, 0, 0) := by rw [hP, hr0]; exact parseP_e _ _ rfl
   refine WP.exit ?_
   show WP _ _ _ _ _ _
   refine WP.seq ?_
   refine WP.sr [5, 7, 8, 50] (by kernel_rfl) fun K hK => ?_
   simp (decide := true) only [TF, q1, hw1, q2, mapR, List.isEmpty_cons, Bool.and_false, ↓reduceIte, Int.reduceToNat]
   refine hK _ _ ?_; clear hK K
   refine WP.cond (b := false) (by rfl) nofun (fun _ => ?_)
   refine WP.skip ?_
   show WP _ _ _ _ _ _
   refine WP.sr [2, 3, 4] (by kernel_rfl) fun K hK => ?_
   simp (decide := true) only [TF, q1, hw1, q2, mapR, List.isEmpty_cons, Bool.and_false, ↓reduceIte, Int.reduceToNat]
   refine hK _ _ ?_; clear hK K
   refine WP.ret ?_
   exact Ends.pure (d := .tup [_, _, _]) (.inr rfl) rfl ((by rw [hR]; simp (decide := true) only [pD, St.get, lk, W, Pr_prog, q1, hw1, q2, ↓reduceIte, Int.reduceToNat]; first | exact Le.nil3 | exact Le.fg _)) (by simp)
end Go.Proofs

set_option linter.unusedSimpArgs false
set_option linter.unusedVariables false
set_option maxRecDepth 10000
namespace Go.Proofs
open Go Go.Id

set_option maxHeartbeats 4000000

theorem c_r_parse (s : List UInt8) (hs40 : s.length ≤ 1099511627776) : CallP Pr 18 [.str s] (pD (pR s)) := by
 refine CallP.of_wp Tryz.func18 rfl (by kernel_rfl) Tryz.ntmps18 (by simp) ?_
 simp only [frameOf, Nat.reduceAdd, Nat.zero_add]
 refine WP.sr [0] (by kernel_rfl) fun K hK => ?_
 simp (decide := true) only [TF, mapR, List.isEmpty_cons, Bool.and_false, ↓reduceIte, Int.reduceToNat]
 refine hK _ _ ?_; clear hK K
 refine WP.seq ?_
 refine WP.sr [0, 13] (by kernel_rfl) fun K hK => ?_
 simp (decide := true) only [TF, mapR, List.isEmpty_cons, Bool.and_false, ↓reduceIte, Int.reduceToNat]
 refine hK _ _ ?_; clear hK K
 refine WP.cond (b := _) rfl (fun q1 => ?_) (fun q1 => ?_)
 ·
  have hR := pR_long (s := s) (by have := of_decide_eq_true q1; omega)
  refine WP.sr [2, 3, 4] (by kernel_rfl) fun K hK => ?_
  simp (decide := true) only [TF, q1, mapR, List.isEmpty_cons, Bool.and_false, ↓reduceIte, Int.reduceToNat]
  refine hK _ _ ?_; clear hK K
  refine WP.ret ?_
  exact Ends.pure (d := .tup [_, _, _]) (.inr rfl) rfl ((by rw [hR]; simp (decide := true) only [pD, St.get, lk, W, Pr_prog, q1, ↓reduceIte, Int.reduceToNat]; first | exact Le.nil3 | exact Le.fg _)) (by simp)
 ·
  have hs : s.length ≤ 4096 := by have := of_decide_eq_false q1; omega
  have hP := pR_short hs
  obtain ⟨ws, hws⟩ : ∃ ws, cutA 10 [] s = ws := ⟨_, rfl⟩
  have hl := (cutA_len 10 s []).1
  have hv : ∀ x ∈ ws, x.length ≤ 4096 := fun x hx => by rw [← hws] at hx; have := cutA_mem 10 s [] x hx; simp at this; omega
  rw [hws] at hP hl
  refine WP.skip ?_
  show WP _ _ _ _ _ _
  refine WP.sr [5] (by kernel_rfl) fun K hK => ?_
  simp (decide := true) only [TF, q1, hws, mapR, List.isEmpty_cons, Bool.and_false, ↓reduceIte, Int.reduceToNat]
  refine CallK.pure (c_r_cut s 10 (by omega)) rfl rfl (by simp [-List.map_take]) ?_
  simp (decide := true) only [TF, q1, hws, mapR, List.isEmpty_cons, Bool.and_false, ↓reduceIte, Int.reduceToNat]
  refine hK _ _ ?_; clear hK K
  refine WP.sr [5, 6] (by kernel_rfl) fun K hK => ?_
  simp (decide := true) only [TF, q1, hws, mapR, List.isEmpty_cons, Bool.and_false, ↓reduceIte, Int.reduceToNat]
  refine hK _ _ ?_; clear hK K
  refine WP.seq ?_
  refine WP.sr [5, 6, 7] (by kernel_rfl) fun K hK => ?_
  simp (decide := true) only [TF, q1, hws, mapR, List.isEmpty_cons, Bool.and_false, ↓reduceIte, Int.reduceToNat]
  refine hK _ _ ?_; clear hK K
  refine WP.block ?_
  refine WP.lp [5] (X := {x : (Nat) × (List Rule) // match x with | (i, rs) => i ≤ ws.length ∧ rs.length ≤ i ∧ (∀ q ∈ rs, q.ok) ∧ pR s = parseP i rs (ws.drop i)}) (fun x => match x with | ⟨(i, rs), _⟩ => [(6, .slice 6 rs.isEmpty (rs.map Rule.cs) (some 0)), (7, .int .i64 i)]) (fun x => match x with | ⟨(i, rs), _⟩ => [(0, .tip 36 6 rs.length)]) (fun x => match x with | ⟨(i, rs), _⟩ => ws.length - i) (by simp (decide := true) only [W, ↓reduceIte, Int.reduceToNat]; rfl) ?_ ⟨(0, []), ⟨Nat.zero_le _, Nat.le_refl _, by simp, hP⟩⟩ ?_
  rotate_left
  · refine Weak.trans (Weak.ghost 0 36 6 (F' := [(7, .int .i64 0), (6, .slice 6 true [] (some 0)), (5, .slice 1 false (ws.map fun x => [D.str x]) none)]) (σ' := []) (by simp [lk, W]) (by simp [W, keep, ins, UpF, UpD]) (by simp [UpS])) ?_; exact Weak.store (by simp [St.get, lk, W, Le.refl, q1, hws]) (by simp [lk, W]) (by simp [lk]) (by simp [BClo]) (by simp)
  rintro ⟨⟨i, rs⟩, hI⟩
  dsimp only
  simp only [List.cons_append, List.nil_append]
  dsimp only at hI
  clear hP
  obtain ⟨hil, hrn, hok, hP⟩ := hI
  have hw1 : IntKind.wrap .i64 ((i : Int) + 1) = (i : Int) + 1 := wrap_i64 (by omega) (by omega)
  refine WP.seq ?_
  refine WP.sr [5, 6, 7, 19] (by kernel_rfl) fun K hK => ?_
  simp (decide := true) only [TF, q1, hws, hw1, mapR, List.isEmpty_cons, Bool.and_false, ↓reduceIte, Int.reduceToNat]
  refine hK _ _ ?_; clear hK K
  refine WP.cond (b := _) rfl (fun q2 => ?_) (fun q2 => ?_)
  ·
   have hlt := lt_of_q q2
   have hg : (ws.map fun x => [D.str x])[i]? = some [.str ws[i]] := getM hlt
   refine WP.skip ?_
   show WP _ _ _ _ _ _
   refine WP.seq ?_
   refine WP.block ?_
   refine WP.seq ?_
   refine WP.sr [5, 6, 7, 33] (by kernel_rfl) fun K hK => ?_
   refine runOps.take 6 fun J hJ => ?_
   simp (decide := true) only [TF, q1, hws, hw1, q2, hg, mapR, List.isEmpty_cons, Bool.and_false, ↓reduceIte, Int.reduceToNat]
   refine hJ _ _ ?_; clear hJ J
   refine runOps.part 27 rfl (fun q3 => ?_) (fun q3 => ?_)
   ·
    have hi1 : i + 1 = ws.length := by have := eq_of_beq q3; omega
    have e1 : ws.drop i = [ws[i]] := by rw [dropE hlt, dropN (by omega)]
    simp (decide := true) only [TF, q1, hws, hw1, q2, hg, q3, mapR, List.isEmpty_cons, Bool.and_false, ↓reduceIte, Int.reduceToNat]
    refine hK _ _ ?_; clear hK K
    refine WP.cond (b := _) rfl (fun q4 => ?_) (fun q4 => ?_)
    ·
     have hP2 : pR s = parseP ((i + 1 : Nat) : Int) rs (ws.drop (i + 1)) := by rw [hP, e1, parseP_e _ _ (by simpa using q4), dropN (by omega)]; rfl
     refine WP.exit ?_
     show WP _ _ _ _ _ _
     refine WP.region (by kernel_rfl) fun K hK => ?_
     simp (decide := true) only [TF, q1, hws, hw1, q2, hg, q3, q4, mapR, List.isEmpty_cons, Bool.and_false, ↓reduceIte, Int.reduceToNat]
     refine hK _ _ ?_; clear hK K
     show ∃ y, _ ∧ Weak _ _ _
     refine ⟨⟨(i + 1, rs), ?_⟩, ?_, ?_⟩
     · exact ⟨by dsimp only; omega, by dsimp only; omega, hok, hP2⟩
     · dsimp only; omega
     · exact Weak.store (by simp [St.get, lk, W, Le.refl, isE1, q1, hws, hw1, q2, hg, q3, q4]) (by simp [lk, W, isE1, q1, hws, hw1, q2, hg, q3, q4]) (by simp [lk, -List.map_append, -List.mem_append]) (by simp [BClo, lk]) (by simp [lk])
    ·
     have hR : pR s = ([], (i : Int) + 1, 4) := by rw [hP, e1, parseP_l _ _ (by simpa using q4)]
     refine WP.skip ?_
     show WP _ _ _ _ _ _
     rcases line_cases (l := ws[i]) (hv _ (List.getElem_mem hlt)) with ⟨p, hl2, hr, hpo⟩ | ⟨hl2, hr⟩
     ·
      refine WP.sr [5, 6, 7, 8, 9] (by kernel_rfl) fun K hK => ?_
      simp (decide := true) only [TF, q1, hws, hw1, q2, hg, q3, q4, hl2, mapR, List.isEmpty_cons, Bool.and_false, ↓reduceIte, Int.reduceToNat]
      refine CallK.pure (c_r_cut ws[i] 32 (by have := hv _ (List.getElem_mem hlt); omega)) rfl rfl (by simp [-List.map_take]) ?_
      simp (decide := true) only [TF, q1, hws, hw1, q2, hg, q3, q4, hl2, mapR, List.isEmpty_cons, Bool.and_false, ↓reduceIte, Int.reduceToNat]
      refine CallK.pure (c_r_read (cutA 32 [] ws[i]) (by have := (cutA_len 32 ws[i] []).1; have := hv _ (List.getElem_mem hlt); omega) (fun x hx => by have := cutA_mem 32 ws[i] [] x hx; have := hv _ (List.getElem_mem hlt); simp at *; omega)) rfl rfl (by simp [-List.map_take]) ?_
      simp (decide := true) only [TF, q1, hws, hw1, q2, hg, q3, q4, hl2, mapR, List.isEmpty_cons, Bool.and_false, ↓reduceIte, Int.reduceToNat]
      refine hK _ _ ?_; clear hK K
      refine WP.seq ?_
      refine WP.sr [5, 6, 7, 8, 51] (by kernel_rfl) fun K hK => ?_
      simp (decide := true) only [TF, q1, hws, hw1, q2, hg, q3, q4, hl2, mapR, List.isEmpty_cons, Bool.and_false, ↓reduceIte, Int.reduceToNat]
      refine hK _ _ ?_; clear hK K
      refine WP.cond (b := true) (by rfl) (fun _ => ?_) nofun
      refine WP.sr [2, 3, 4] (by kernel_rfl) fun K hK => ?_
      simp (decide := true) only [TF, q1, hws, hw1, q2, hg, q3, q4, hl2, mapR, List.isEmpty_cons, Bool.and_false, ↓reduceIte, Int.reduceToNat]
      refine hK _ _ ?_; clear hK K
      refine WP.ret ?_
      exact Ends.pure (d := .tup [_, _, _]) (.inr rfl) rfl ((by rw [hR]; simp (decide := true) only [pD, St.get, lk, W, Pr_prog, q1, hws, hw1, q2, hg, q3, q4, hl2, ↓reduceIte, Int.reduceToNat]; first | exact Le.nil3 | exact Le.fg _)) (by simp)
     ·
      refine WP.sr [5, 6, 7, 8, 9] (by kernel_rfl) fun K hK => ?_
      simp (decide := true) only [TF, q1, hws, hw1, q2, hg, q3, q4, hl2, mapR, List.isEmpty_cons, Bool.and_false, ↓reduceIte, Int.reduceToNat]
      refine CallK.pure (c_r_cut ws[i] 32 (by have := hv _ (List.getElem_mem hlt); omega)) rfl rfl (by simp [-List.map_take]) ?_
      simp (decide := true) only [TF, q1, hws, hw1, q2, hg, q3, q4, hl2, mapR, List.isEmpty_cons, Bool.and_false, ↓reduceIte, Int.reduceToNat]
      refine CallK.pure (c_r_read (cutA 32 [] ws[i]) (by have := (cutA_len 32 ws[i] []).1; have := hv _ (List.getElem_mem hlt); omega) (fun x hx => by have := cutA_mem 32 ws[i] [] x hx; have := hv _ (List.getElem_mem hlt); simp at *; omega)) rfl rfl (by simp [-List.map_take]) ?_
      simp (decide := true) only [TF, q1, hws, hw1, q2, hg, q3, q4, hl2, mapR, List.isEmpty_cons, Bool.and_false, ↓reduceIte, Int.reduceToNat]
      refine hK _ _ ?_; clear hK K
      refine WP.seq ?_
      refine WP.sr [5, 6, 7, 8, 51] (by kernel_rfl) fun K hK => ?_
      simp (decide := true) only [TF, q1, hws, hw1, q2, hg, q3, q4, hl2, mapR, List.isEmpty_cons, Bool.and_false, ↓reduceIte, Int.reduceToNat]
      refine hK _ _ ?_; clear hK K
      refine WP.cond (b := true) (by rfl) (fun _ => ?_) nofun
      refine WP.sr [2, 3, 4] (by kernel_rfl) fun K hK => ?_
      simp (decide := true) only [TF, q1, hws, hw1, q2, hg, q3, q4, hl2, mapR, List.isEmpty_cons, Bool.and_false, ↓reduceIte, Int.reduceToNat]
      refine hK _ _ ?_; clear hK K
      refine WP.ret ?_
      exact Ends.pure (d := .tup [_, _, _]) (.inr rfl) rfl ((by rw [hR]; simp (decide := true) only [pD, St.get, lk, W, Pr_prog, q1, hws, hw1, q2, hg, q3, q4, hl2, ↓reduceIte, Int.reduceToNat]; first | exact Le.nil3 | exact Le.fg _)) (by simp)
   ·
    have hi1 : i + 1 < ws.length := by have := ne_of_beq_false q3; omega
    have e2 : ws.drop i = ws[i] :: ws[i + 1] :: ws.drop (i + 2) := by rw [dropE hlt, dropE hi1]
    simp (decide := true) only [TF, q1, hws, hw1, q2, hg, q3, mapR, List.isEmpty_cons, Bool.and_false, ↓reduceIte, Int.reduceToNat]
    refine hK _ _ ?_; clear hK K
    refine WP.cond (b := false) (by rfl) nofun (fun _ => ?_)
    refine WP.skip ?_
    show WP _ _ _ _ _ _
    rcases line_cases (l := ws[i]) (hv _ (List.getElem_mem hlt)) with ⟨p, hl2, hr, hpo⟩ | ⟨hl2, hr⟩
    ·
     refine WP.sr [5, 6, 7, 8, 9] (by kernel_rfl) fun K hK => ?_
     simp (decide := true) only [TF, q1, hws, hw1, q2, hg, q3, hl2, mapR, List.isEmpty_cons, Bool.and_false, ↓reduceIte, Int.reduceToNat]
     refine CallK.pure (c_r_cut ws[i] 32 (by have := hv _ (List.getElem_mem hlt); omega)) rfl rfl (by simp [-List.map_take]) ?_
     simp (decide := true) only [TF, q1, hws, hw1, q2, hg, q3, hl2, mapR, List.isEmpty_cons, Bool.and_false, ↓reduceIte, Int.reduceToNat]
     refine CallK.pure (c_r_read (cutA 32 [] ws[i]) (by have := (cutA_len 32 ws[i] []).1; have := hv _ (List.getElem_mem hlt); omega) (fun x hx => by have := cutA_mem 32 ws[i] [] x hx; have := hv _ (List.getElem_mem hlt); simp at *; omega)) rfl rfl (by simp [-List.map_take]) ?_
     simp (decide := true) only [TF, q1, hws, hw1, q2, hg, q3, hl2, mapR, List.isEmpty_cons, Bool.and_false, ↓reduceIte, Int.reduceToNat]
     refine hK _ _ ?_; clear hK K
     refine WP.seq ?_
     refine WP.sr [5, 6, 7, 8, 51] (by kernel_rfl) fun K hK => ?_
     simp (decide := true) only [TF, q1, hws, hw1, q2, hg, q3, hl2, mapR, List.isEmpty_cons, Bool.and_false, ↓reduceIte, Int.reduceToNat]
     refine hK _ _ ?_; clear hK K
     refine WP.cond (b := false) (by rfl) nofun (fun _ => ?_)
     refine WP.skip ?_
     show WP _ _ _ _ _ _
     refine WP.sr [5, 6, 7] (by kernel_rfl) fun K hK => ?_
     simp (decide := true) only [TF, q1, hws, hw1, q2, hg, q3, hl2, mapR, List.isEmpty_cons, Bool.and_false, ↓reduceIte, Int.reduceToNat]
     refine ⟨⟨by simp only [List.length_append, List.length_map, List.length_cons, List.length_nil]; omega, by simp only [List.length_append, List.length_map, List.length_cons, List.length_nil]; omega⟩, ?_⟩
     refine hK _ _ ?_; clear hK K
     refine WP.sr [5, 6, 7, 10] (by kernel_rfl) fun K hK => ?_
     simp (decide := true) only [TF, q1, hws, hw1, q2, hg, q3, hl2, mapR, List.isEmpty_cons, Bool.and_false, ↓reduceIte, Int.reduceToNat]
     refine CallK.pure (c_r_check (rs ++ [p]) false (by simp; omega) nofun (by intro q hq; rcases List.mem_append.1 hq with h | h; exact hok q h; rw [List.mem_singleton.1 h]; exact hpo)) rfl rfl (by simp [-List.map_append, -List.mem_append]) ?_
     simp (decide := true) only [TF, q1, hws, hw1, q2, hg, q3, hl2, mapR, List.isEmpty_cons, Bool.and_false, ↓reduceIte, Int.reduceToNat]
     refine hK _ _ ?_; clear hK K
     refine WP.sr [5, 6, 7, 10, 61] (by kernel_rfl) fun K hK => ?_
     simp (decide := true) only [TF, q1, hws, hw1, q2, hg, q3, hl2, mapR, List.isEmpty_cons, Bool.and_false, ↓reduceIte, Int.reduceToNat]
     refine hK _ _ ?_; clear hK K
     refine WP.cond (b := _) rfl (fun q5 => ?_) (fun q5 => ?_)
     ·
      have hk : ¬ checkE (rs ++ [p]) = 0 := by simpa using q5
      have hR : pR s = ([], (i : Int) + 1, checkE (rs ++ [p])) := by rw [hP, e2, parseP_b _ _ hr hk]
      refine WP.sr [2, 3, 4] (by kernel_rfl) fun K hK => ?_
      simp (decide := true) only [TF, q1, hws, hw1, q2, hg, q3, hl2, q5, mapR, List.isEmpty_cons, Bool.and_false, ↓reduceIte, Int.reduceToNat]
      refine hK _ _ ?_; clear hK K
      refine WP.ret ?_
      exact Ends.pure (d := .tup [_, _, _]) (.inr rfl) rfl ((by rw [hR]; simp (decide := true) only [pD, St.get, lk, W, Pr_prog, q1, hws, hw1, q2, hg, q3, hl2, q5, ↓reduceIte, Int.reduceToNat]; first | exact Le.nil3 | exact Le.fg _)) (by simp)
     ·
      have hk : checkE (rs ++ [p]) = 0 := by simpa using q5
      have hP2 : pR s = parseP ((i + 1 : Nat) : Int) (rs ++ [p]) (ws.drop (i + 1)) := by rw [hP, e2, parseP_s _ _ hr hk, dropE hi1]; rfl
      refine WP.skip ?_
      show WP _ _ _ _ _ _
      refine WP.region (by kernel_rfl) fun K hK => ?_
      simp (decide := true) only [TF, q1, hws, hw1, q2, hg, q3, hl2, q5, mapR, List.isEmpty_cons, Bool.and_false, ↓reduceIte, Int.reduceToNat]
      refine hK _ _ ?_; clear hK K
      show ∃ y, _ ∧ Weak _ _ _
      refine ⟨⟨(i + 1, rs ++ [p]), ?_⟩, ?_, ?_⟩
      · exact ⟨by dsimp only; omega, by simp; omega, by intro q hq; rcases List.mem_append.1 hq with h | h; exact hok q h; rw [List.mem_singleton.1 h]; exact hpo, hP2⟩
      · dsimp only; omega
      · exact Weak.store (by simp [St.get, lk, W, Le.refl, isE1, q1, hws, hw1, q2, hg, q3, hl2, q5]) (by simp [lk, W, isE1, q1, hws, hw1, q2, hg, q3, hl2, q5]) (by simp [lk, -List.map_append, -List.mem_append]) (by simp [BClo, lk]) (by simp [lk])
    ·
     have hR : pR s = ([], (i : Int) + 1, 4) := by rw [hP, e2, parseP_n _ _ hr]
     refine WP.sr [5, 6, 7, 8, 9] (by kernel_rfl) fun K hK => ?_
     simp (decide := true) only [TF, q1, hws, hw1, q2, hg, q3, hl2, mapR, List.isEmpty_cons, Bool.and_false, ↓reduceIte, Int.reduceToNat]
     refine CallK.pure (c_r_cut ws[i] 32 (by have := hv _ (List.getElem_mem hlt); omega)) rfl rfl (by simp [-List.map_take]) ?_
     simp (decide := true) only [TF, q1, hws, hw1, q2, hg, q3, hl2, mapR, List.isEmpty_cons, Bool.and_false, ↓reduceIte, Int.reduceToNat]
     refine CallK.pure (c_r_read (cutA 32 [] ws[i]) (by have := (cutA_len 32 ws[i] []).1; have := hv _ (List.getElem_mem hlt); omega) (fun x hx => by have := cutA_mem 32 ws[i] [] x hx; have := hv _ (List.getElem_mem hlt); simp at *; omega)) rfl rfl (by simp [-List.map_take]) ?_
     simp (decide := true) only [TF, q1, hws, hw1, q2, hg, q3, hl2, mapR, List.isEmpty_cons, Bool.and_false, ↓reduceIte, Int.reduceToNat]
     refine hK _ _ ?_; clear hK K
     refine WP.seq ?_
     refine WP.sr [5, 6, 7, 8, 51] (by kernel_rfl) fun K hK => ?_
     simp (decide := true) only [TF, q1, hws, hw1, q2, hg, q3, hl2, mapR, List.isEmpty_cons, Bool.and_false, ↓reduceIte, Int.reduceToNat]
     refine hK _ _ ?_; clear hK K
     refine WP.cond (b := true) (by rfl) (fun _ => ?_) nofun
     refine WP.sr [2, 3, 4] (by kernel_rfl) fun K hK => ?_
     simp (decide := true) only [TF, q1, hws, hw1, q2, hg, q3, hl2, mapR, List.isEmpty_cons, Bool.and_false, ↓reduceIte, Int.reduceToNat]
     refine hK _ _ ?_; clear hK K
     refine WP.ret ?_
     exact Ends.pure (d := .tup [_, _, _]) (.inr rfl) rfl ((by rw [hR]; simp (decide := true) only [pD, St.get, lk, W, Pr_prog, q1, hws, hw1, q2, hg, q3, hl2, ↓reduceIte, Int.reduceToNat]; first | exact Le.nil3 | exact Le.fg _)) (by simp)
  ·
   have hR : pR s = (rs, 0, 0) := by rw [hP, dropN (ge_of_q q2)]; rfl
   refine WP.exit ?_
   show WP _ _ _ _ _ _
   refine WP.sr [2, 3, 4] (by kernel_rfl) fun K hK => ?_
   simp (decide := true) only [TF, q1, hws, hw1, q2, mapR, List.isEmpty_cons, Bool.and_false, ↓reduceIte, Int.reduceToNat]
   refine hK _ _ ?_; clear hK K
   refine WP.ret ?_
   exact Ends.pure (d := .tup [_, _, _]) (.inr rfl) rfl ((by rw [hR]; simp (decide := true) only [pD, St.get, lk, W, Pr_prog, q1, hws, hw1, q2, ↓reduceIte, Int.reduceToNat]; first | exact Le.nil3 | exact Le.fg _)) (by simp)
end Go.Proofs

set_option linter.unusedSimpArgs false
set_option linter.unusedVariables false
set_option maxRecDepth 10000
namespace Go.Proofs
open Go Go.Id
def P0 : Rule := ⟨[110, 105, 103, 104, 116], true, [⟨[104, 111, 117, 114], [109, 97, 120], [53]⟩, ⟨[116, 114, 117, 115, 116, 101, 100], [105, 115], [110, 111]⟩], false, [], true, 0, 0⟩
def P1 : Rule := ⟨[109, 97, 105, 108], false, [⟨[103, 114, 111, 117, 112], [104, 97, 115], [115, 116, 97, 102, 102]⟩], false, [[109, 97, 105, 108, 46, 114, 101, 97, 100]], false, 2, 600⟩
theorem pR1 : pR [114, 117, 108, 101, 32, 110, 105, 103, 104, 116, 32, 100, 101, 110, 121, 32, 105, 102, 32, 104, 111, 117, 114, 32, 109, 97, 120, 32, 53, 32, 97, 110, 100, 32, 116, 114, 117, 115, 116, 101, 100, 32, 105, 115, 32, 110, 111, 10, 114, 117, 108, 101, 32, 109, 97, 105, 108, 32, 112, 101, 114, 109, 105, 116, 32, 105, 102, 32, 103, 114, 111, 117, 112, 32, 104, 97, 115, 32, 115, 116, 97, 102, 102, 32, 115, 99, 111, 112, 101, 115, 32, 109, 97, 105, 108, 46, 114, 101, 97, 100, 32, 108, 101, 118, 101, 108, 32, 50, 32, 97, 103, 101, 32, 54, 48, 48, 10] = ([P0, P1], 0, 0) := by kernel_rfl
theorem pR2 : pR [114, 117, 108, 101, 32, 97, 32, 100, 101, 110, 121, 32, 115, 99, 111, 112, 101, 115, 32, 120, 10] = ([], 1, 2) := by kernel_rfl
theorem pR3 : pR [114, 117, 108, 101, 32, 97, 32, 112, 101, 114, 109, 105, 116, 10] = ([], 1, 6) := by kernel_rfl
theorem pR4 : pR [114, 117, 108, 101, 32, 97, 32, 112, 101, 114, 109, 105, 116, 32, 115, 99, 111, 112, 101, 115, 32, 120, 32, 108, 101, 118, 101, 108, 32, 48, 10] = ([], 1, 4) := by kernel_rfl
def Q1 : Req := ⟨[], [], [], [[115, 116, 97, 102, 102]], false, [], true, 0, false, 0, 0, 7200⟩
def Q2 : Req := ⟨[], [], [], [], true, [], true, 0, false, 0, 0, 36000⟩
def Q3 : Req := ⟨[], [], [], [], true, [], true, 0, true, 0, 0, 7200⟩
theorem f1 : firstL Q1 P0.conds 0 = -1 := by kernel_rfl
theorem f2 : firstL Q2 P0.conds 0 = 0 := by kernel_rfl
theorem f3 : firstL Q3 P0.conds 0 = 1 := by kernel_rfl
theorem g1 : holdsB ⟨[103, 114, 111, 117, 112], [104, 97, 115], [115, 116, 97, 102, 102]⟩ Q1 = true := by kernel_rfl
theorem g2 : holdsB ⟨[120], [105, 115], [121]⟩ Q1 = false := by kernel_rfl
theorem k1 : checkE [P0, P1] = 0 := by kernel_rfl
theorem k2 : equalR [P0, P1] [P0, P1] = true := by kernel_rfl
theorem x1 : textD [P0] = .tup [.str [114, 117, 108, 101, 32, 110, 105, 103, 104, 116, 32, 100, 101, 110, 121, 32, 105, 102, 32, 104, 111, 117, 114, 32, 109, 97, 120, 32, 53, 32, 97, 110, 100, 32, 116, 114, 117, 115, 116, 101, 100, 32, 105, 115, 32, 110, 111, 10], .int .i64 0] := by kernel_rfl
end Go.Proofs

set_option linter.unusedSimpArgs false
set_option linter.unusedVariables false
set_option maxRecDepth 10000
namespace Go.Proofs
open Go Go.Id
set_option maxHeartbeats 4000000
theorem Le.agg {l m : List D} (h : Les l m) : Le (.agg l) (.agg m) := fun M γ w v hr => by
 cases hr with
 | agg hl h1 h2 =>
  obtain ⟨e, hle⟩ := h.at
  refine .agg (by omega) h1 fun i d v hd hv => ?_
  have hi : i < l.length := by rw [e]; exact (List.getElem?_eq_some_iff.1 hd).1
  exact hle i _ _ (List.getElem?_eq_getElem hi) hd M γ w v (h2 i _ v (List.getElem?_eq_getElem hi) hv)
theorem ok_P0 : P0.ok := by simp [P0, Rule.ok, Rule.ok0, Cond.ok]
theorem ok_P1 : P1.ok := by simp [P1, Rule.ok, Rule.ok0, Cond.ok]
theorem sm_P0 : P0.sm := by simp [P0, Rule.sm]
theorem ok_Q1 : Q1.ok := by simp [Q1, Req.ok]
theorem ok_Q2 : Q2.ok := by simp [Q2, Req.ok]
theorem ok_Q3 : Q3.ok := by simp [Q3, Req.ok]
theorem a_p1 : CallP Pr 17 [.str [114, 117, 108, 101, 32, 110, 105, 103, 104, 116, 32, 100, 101, 110, 121, 32, 105, 102, 32, 104, 111, 117, 114, 32, 109, 97, 120, 32, 53, 32, 97, 110, 100, 32, 116, 114, 117, 115, 116, 101, 100, 32, 105, 115, 32, 110, 111, 10, 114, 117, 108, 101, 32, 109, 97, 105, 108, 32, 112, 101, 114, 109, 105, 116, 32, 105, 102, 32, 103, 114, 111, 117, 112, 32, 104, 97, 115, 32, 115, 116, 97, 102, 102, 32, 115, 99, 111, 112, 101, 115, 32, 109, 97, 105, 108, 46, 114, 101, 97, 100, 32, 108, 101, 118, 101, 108, 32, 50, 32, 97, 103, 101, 32, 54, 48, 48, 10]] (.tup [.slice 6 false [[.str [110, 105, 103, 104, 116], .bool true, .slice 3 false [[.str [104, 111, 117, 114], .str [109, 97, 120], .str [53]], [.str [116, 114, 117, 115, 116, 101, 100], .str [105, 115], .str [110, 111]]] none, .slice 1 true [] none, .int .i64 0, .int .i64 0], [.str [109, 97, 105, 108], .bool false, .slice 3 false [[.str [103, 114, 111, 117, 112], .str [104, 97, 115], .str [115, 116, 97, 102, 102]]] none, .slice 1 false [[.str [109, 97, 105, 108, 46, 114, 101, 97, 100]]] none, .int .i64 2, .int .i64 600]] none, .int .i64 0, .int .i64 0]) := by
 have h := c_parse [114, 117, 108, 101, 32, 110, 105, 103, 104, 116, 32, 100, 101, 110, 121, 32, 105, 102, 32, 104, 111, 117, 114, 32, 109, 97, 120, 32, 53, 32, 97, 110, 100, 32, 116, 114, 117, 115, 116, 101, 100, 32, 105, 115, 32, 110, 111, 10, 114, 117, 108, 101, 32, 109, 97, 105, 108, 32, 112, 101, 114, 109, 105, 116, 32, 105, 102, 32, 103, 114, 111, 117, 112, 32, 104, 97, 115, 32, 115, 116, 97, 102, 102, 32, 115, 99, 111, 112, 101, 115, 32, 109, 97, 105, 108, 46, 114, 101, 97, 100, 32, 108, 101, 118, 101, 108, 32, 50, 32, 97, 103, 101, 32, 54, 48, 48, 10] (by simp)
 rw [pR1] at h
 exact h
theorem a_p2 : CallP Pr 17 [.str [114, 117, 108, 101, 32, 97, 32, 100, 101, 110, 121, 32, 115, 99, 111, 112, 101, 115, 32, 120, 10]] (.tup [.slice 6 true [] none, .int .i64 1, .int .i64 2]) := by
 have h := c_parse [114, 117, 108, 101, 32, 97, 32, 100, 101, 110, 121, 32, 115, 99, 111, 112, 101, 115, 32, 120, 10] (by simp)
 rw [pR2] at h
 exact h
theorem a_p3 : CallP Pr 17 [.str [114, 117, 108, 101, 32, 97, 32, 112, 101, 114, 109, 105, 116, 10]] (.tup [.slice 6 true [] none, .int .i64 1, .int .i64 6]) := by
 have h := c_parse [114, 117, 108, 101, 32, 97, 32, 112, 101, 114, 109, 105, 116, 10] (by simp)
 rw [pR3] at h
 exact h
theorem a_p4 : CallP Pr 17 [.str [114, 117, 108, 101, 32, 97, 32, 112, 101, 114, 109, 105, 116, 32, 115, 99, 111, 112, 101, 115, 32, 120, 32, 108, 101, 118, 101, 108, 32, 48, 10]] (.tup [.slice 6 true [] none, .int .i64 1, .int .i64 4]) := by
 have h := c_parse [114, 117, 108, 101, 32, 97, 32, 112, 101, 114, 109, 105, 116, 32, 115, 99, 111, 112, 101, 115, 32, 120, 32, 108, 101, 118, 101, 108, 32, 48, 10] (by simp)
 rw [pR4] at h
 exact h
theorem a_l : CallP Pr 26 [.slice 1 false [[.str [109, 97, 105, 108, 46, 114, 101, 97, 100]]] none, .slice 1 false [[.str [109, 97, 105, 108, 46, 114, 101, 97, 100]]] none] (.bool true) := c_r_lists [[109, 97, 105, 108, 46, 114, 101, 97, 100]] false [[109, 97, 105, 108, 46, 114, 101, 97, 100]] false (by simp) nofun (by simp) nofun
theorem a_t : CallP Pr 13 [.slice 6 false [[.str [110, 105, 103, 104, 116], .bool true, .slice 3 false [[.str [104, 111, 117, 114], .str [109, 97, 120], .str [53]], [.str [116, 114, 117, 115, 116, 101, 100], .str [105, 115], .str [110, 111]]] none, .slice 1 true [] none, .int .i64 0, .int .i64 0]] none] (.tup [.str [114, 117, 108, 101, 32, 110, 105, 103, 104, 116, 32, 100, 101, 110, 121, 32, 105, 102, 32, 104, 111, 117, 114, 32, 109, 97, 120, 32, 53, 32, 97, 110, 100, 32, 116, 114, 117, 115, 116, 101, 100, 32, 105, 115, 32, 110, 111, 10], .int .i64 0]) := by
 have h := c_text [P0] false (by simp) nofun (by intro p hp; rw [List.mem_singleton.1 hp]; exact sm_P0)
 rw [x1] at h
 exact h
theorem a_f1 : CallP Pr 24 [.agg [.str [110, 105, 103, 104, 116], .bool true, .slice 3 false [[.str [104, 111, 117, 114], .str [109, 97, 120], .str [53]], [.str [116, 114, 117, 115, 116, 101, 100], .str [105, 115], .str [110, 111]]] none, .slice 1 true [] none, .int .i64 0, .int .i64 0], .agg [.str [], .str [], .str [], .slice 1 false [[.str [115, 116, 97, 102, 102]]] none, .slice 0 true [] none, .int .i64 0, .bool false, .int .i64 0, .int .i64 0, .int .i64 7200]] (.int .i64 (-1)) := CallE.weak (c_first P0 Q1 ok_P0 ok_Q1) ⟨Le.refl _, Le.agg ⟨Le.refl _, Le.refl _, Le.refl _, Le.refl _, Le.nil _ _ _, Le.refl _, Le.refl _, Le.refl _, Le.refl _, Le.refl _, trivial⟩, trivial⟩ (Le.of_eq (by rw [f1]))
theorem a_f2 : CallP Pr 24 [.agg [.str [110, 105, 103, 104, 116], .bool true, .slice 3 false [[.str [104, 111, 117, 114], .str [109, 97, 120], .str [53]], [.str [116, 114, 117, 115, 116, 101, 100], .str [105, 115], .str [110, 111]]] none, .slice 1 true [] none, .int .i64 0, .int .i64 0], .agg [.str [], .str [], .str [], .slice 0 true [] none, .slice 0 true [] none, .int .i64 0, .bool false, .int .i64 0, .int .i64 0, .int .i64 36000]] (.int .i64 (0)) := CallE.weak (c_first P0 Q2 ok_P0 ok_Q2) ⟨Le.refl _, Le.agg ⟨Le.refl _, Le.refl _, Le.refl _, Le.nil _ _ _, Le.nil _ _ _, Le.refl _, Le.refl _, Le.refl _, Le.refl _, Le.refl _, trivial⟩, trivial⟩ (Le.of_eq (by rw [f2]))
theorem a_f3 : CallP Pr 24 [.agg [.str [110, 105, 103, 104, 116], .bool true, .slice 3 false [[.str [104, 111, 117, 114], .str [109, 97, 120], .str [53]], [.str [116, 114, 117, 115, 116, 101, 100], .str [105, 115], .str [110, 111]]] none, .slice 1 true [] none, .int .i64 0, .int .i64 0], .agg [.str [], .str [], .str [], .slice 0 true [] none, .slice 0 true [] none, .int .i64 0, .bool true, .int .i64 0, .int .i64 0, .int .i64 7200]] (.int .i64 (1)) := CallE.weak (c_first P0 Q3 ok_P0 ok_Q3) ⟨Le.refl _, Le.agg ⟨Le.refl _, Le.refl _, Le.refl _, Le.nil _ _ _, Le.nil _ _ _, Le.refl _, Le.refl _, Le.refl _, Le.refl _, Le.refl _, trivial⟩, trivial⟩ (Le.of_eq (by rw [f3]))
theorem a_h1 : CallP Pr 22 [.agg [.str [103, 114, 111, 117, 112], .str [104, 97, 115], .str [115, 116, 97, 102, 102]], .agg [.str [], .str [], .str [], .slice 1 false [[.str [115, 116, 97, 102, 102]]] none, .slice 0 true [] none, .int .i64 0, .bool false, .int .i64 0, .int .i64 0, .int .i64 7200]] (.bool true) := CallE.weak (c_holds ⟨[103, 114, 111, 117, 112], [104, 97, 115], [115, 116, 97, 102, 102]⟩ Q1 (by simp [Cond.ok]) ok_Q1) ⟨Le.refl _, Le.agg ⟨Le.refl _, Le.refl _, Le.refl _, Le.refl _, Le.nil _ _ _, Le.refl _, Le.refl _, Le.refl _, Le.refl _, Le.refl _, trivial⟩, trivial⟩ (Le.of_eq (by rw [g1]))
theorem a_h2 : CallP Pr 22 [.agg [.str [120], .str [105, 115], .str [121]], .agg [.str [], .str [], .str [], .slice 1 false [[.str [115, 116, 97, 102, 102]]] none, .slice 0 true [] none, .int .i64 0, .bool false, .int .i64 0, .int .i64 0, .int .i64 7200]] (.bool false) := CallE.weak (c_holds ⟨[120], [105, 115], [121]⟩ Q1 (by simp [Cond.ok]) ok_Q1) ⟨Le.refl _, Le.agg ⟨Le.refl _, Le.refl _, Le.refl _, Le.refl _, Le.nil _ _ _, Le.refl _, Le.refl _, Le.refl _, Le.refl _, Le.refl _, trivial⟩, trivial⟩ (Le.of_eq (by rw [g2]))
theorem a_c : CallP Pr 15 [.slice 6 false [[.str [110, 105, 103, 104, 116], .bool true, .slice 3 false [[.str [104, 111, 117, 114], .str [109, 97, 120], .str [53]], [.str [116, 114, 117, 115, 116, 101, 100], .str [105, 115], .str [110, 111]]] none, .slice 1 true [] none, .int .i64 0, .int .i64 0], [.str [109, 97, 105, 108], .bool false, .slice 3 false [[.str [103, 114, 111, 117, 112], .str [104, 97, 115], .str [115, 116, 97, 102, 102]]] none, .slice 1 false [[.str [109, 97, 105, 108, 46, 114, 101, 97, 100]]] none, .int .i64 2, .int .i64 600]] none] (.int .i64 0) := by
 have h := c_check [P0, P1] false (by simp) nofun (by intro p hp; rcases List.mem_cons.1 hp with rfl | hp; exact ok_P0; rw [List.mem_singleton.1 hp]; exact ok_P1)
 rw [k1] at h
 exact h
theorem a_e : CallP Pr 29 [.slice 6 false [[.str [110, 105, 103, 104, 116], .bool true, .slice 3 false [[.str [104, 111, 117, 114], .str [109, 97, 120], .str [53]], [.str [116, 114, 117, 115, 116, 101, 100], .str [105, 115], .str [110, 111]]] none, .slice 1 true [] none, .int .i64 0, .int .i64 0], [.str [109, 97, 105, 108], .bool false, .slice 3 false [[.str [103, 114, 111, 117, 112], .str [104, 97, 115], .str [115, 116, 97, 102, 102]]] none, .slice 1 false [[.str [109, 97, 105, 108, 46, 114, 101, 97, 100]]] none, .int .i64 2, .int .i64 600]] none, .slice 6 false [[.str [110, 105, 103, 104, 116], .bool true, .slice 3 false [[.str [104, 111, 117, 114], .str [109, 97, 120], .str [53]], [.str [116, 114, 117, 115, 116, 101, 100], .str [105, 115], .str [110, 111]]] none, .slice 1 true [] none, .int .i64 0, .int .i64 0], [.str [109, 97, 105, 108], .bool false, .slice 3 false [[.str [103, 114, 111, 117, 112], .str [104, 97, 115], .str [115, 116, 97, 102, 102]]] none, .slice 1 false [[.str [109, 97, 105, 108, 46, 114, 101, 97, 100]]] none, .int .i64 2, .int .i64 600]] none] (.bool true) := by
 have h := c_equal [P0, P1] false [P0, P1] false (by simp) nofun (by simp) nofun (by intro p hp; rcases List.mem_cons.1 hp with rfl | hp; exact ok_P0.1; rw [List.mem_singleton.1 hp]; exact ok_P1.1) (by intro p hp; rcases List.mem_cons.1 hp with rfl | hp; exact ok_P0.1; rw [List.mem_singleton.1 hp]; exact ok_P1.1)
 rw [k2] at h
 exact h
theorem a_fl : CallP Pr 27 [] (.slice 1 false [[.str [97, 103, 101]], [.str [99, 108, 105, 101, 110, 116]], [.str [103, 114, 111, 117, 112]], [.str [104, 111, 117, 114]], [.str [108, 101, 118, 101, 108]], [.str [114, 105, 115, 107]], [.str [115, 99, 111, 112, 101]], [.str [116, 101, 110, 97, 110, 116]], [.str [116, 114, 117, 115, 116, 101, 100]], [.str [117, 115, 101, 114]]] none) := c_fields

theorem c_alive : CallP Pr 12 [] (.bool true) := by
 refine CallP.of_wp Tryz.func12 rfl (by kernel_rfl) Tryz.ntmps12 (by simp) ?_
 simp only [frameOf, Nat.reduceAdd, Nat.zero_add]
 refine WP.sr [] (by kernel_rfl) fun K hK => ?_
 simp (decide := true) only [TF, EV, Nat.reduceAdd, Int.cast_ofNat_Int, ↓reduceIte, Int.reduceToNat]
 refine hK _ _ ?_; clear hK K
 refine WP.sr [1, 2, 3] (by kernel_rfl) fun K hK => ?_
 simp (decide := true) only [TF, EV, Nat.reduceAdd, Int.cast_ofNat_Int, ↓reduceIte, Int.reduceToNat]
 refine CallK.pure (a_p1) rfl rfl (by simp [-List.map_take]) ?_
 simp (decide := true) only [TF, EV, Nat.reduceAdd, Int.cast_ofNat_Int, ↓reduceIte, Int.reduceToNat]
 refine hK _ _ ?_; clear hK K
 refine WP.sr [1, 2, 3, 5, 6] (by kernel_rfl) fun K hK => ?_
 simp (decide := true) only [TF, EV, Nat.reduceAdd, Int.cast_ofNat_Int, ↓reduceIte, Int.reduceToNat]
 refine CallK.pure (a_p2) rfl rfl (by simp [-List.map_take]) ?_
 simp (decide := true) only [TF, EV, Nat.reduceAdd, Int.cast_ofNat_Int, ↓reduceIte, Int.reduceToNat]
 refine hK _ _ ?_; clear hK K
 refine WP.sr [1, 2, 3, 5, 6, 8, 9] (by kernel_rfl) fun K hK => ?_
 simp (decide := true) only [TF, EV, Nat.reduceAdd, Int.cast_ofNat_Int, ↓reduceIte, Int.reduceToNat]
 refine CallK.pure (a_p3) rfl rfl (by simp [-List.map_take]) ?_
 simp (decide := true) only [TF, EV, Nat.reduceAdd, Int.cast_ofNat_Int, ↓reduceIte, Int.reduceToNat]
 refine hK _ _ ?_; clear hK K
 refine WP.sr [1, 2, 3, 5, 6, 8, 9, 11, 12] (by kernel_rfl) fun K hK => ?_
 simp (decide := true) only [TF, EV, Nat.reduceAdd, Int.cast_ofNat_Int, ↓reduceIte, Int.reduceToNat]
 refine CallK.pure (a_p4) rfl rfl (by simp [-List.map_take]) ?_
 simp (decide := true) only [TF, EV, Nat.reduceAdd, Int.cast_ofNat_Int, ↓reduceIte, Int.reduceToNat]
 refine hK _ _ ?_; clear hK K
 refine WP.seq ?_
 refine WP.sr [1, 101] (by kernel_rfl) fun K hK => ?_
 simp (decide := true) only [TF, EV, Nat.reduceAdd, Int.cast_ofNat_Int, ↓reduceIte, Int.reduceToNat]
 refine CallK.pure (a_l) rfl rfl (by simp [-List.map_take]) ?_
 simp (decide := true) only [TF, EV, Nat.reduceAdd, Int.cast_ofNat_Int, ↓reduceIte, Int.reduceToNat]
 refine hK _ _ ?_; clear hK K
 refine WP.cond (b := false) (by rfl) nofun (fun _ => ?_)
 refine WP.skip ?_
 show WP _ _ _ _ _ _
 refine WP.sr [1, 13, 14] (by kernel_rfl) fun K hK => ?_
 simp (decide := true) only [TF, EV, Nat.reduceAdd, Int.cast_ofNat_Int, ↓reduceIte, Int.reduceToNat]
 refine CallK.pure (a_t) rfl rfl (by simp [-List.map_take]) ?_
 simp (decide := true) only [TF, EV, Nat.reduceAdd, Int.cast_ofNat_Int, ↓reduceIte, Int.reduceToNat]
 refine hK _ _ ?_; clear hK K
 refine WP.sr [1, 13, 14, 15] (by kernel_rfl) fun K hK => ?_
 simp (decide := true) only [TF, EV, Nat.reduceAdd, Int.cast_ofNat_Int, ↓reduceIte, Int.reduceToNat]
 refine hK _ _ ?_; clear hK K
 refine WP.sd [0] (by kernel_rfl) (by kernel_rfl) fun K hK => ?_
 simp (decide := true) only [TF, EV, Nat.reduceAdd, Int.cast_ofNat_Int, ↓reduceIte, Int.reduceToNat]
 refine CallK.pure (a_f1) rfl rfl (by simp [-List.map_take]) ?_
 simp (decide := true) only [TF, EV, Nat.reduceAdd, Int.cast_ofNat_Int, ↓reduceIte, Int.reduceToNat]
 refine CallK.pure (a_f2) rfl rfl (by simp [-List.map_take]) ?_
 simp (decide := true) only [TF, EV, Nat.reduceAdd, Int.cast_ofNat_Int, ↓reduceIte, Int.reduceToNat]
 refine CallK.pure (a_f3) rfl rfl (by simp [-List.map_take]) ?_
 simp (decide := true) only [TF, EV, Nat.reduceAdd, Int.cast_ofNat_Int, ↓reduceIte, Int.reduceToNat]
 refine CallK.pure (a_h1) rfl rfl (by simp [-List.map_take]) ?_
 simp (decide := true) only [TF, EV, Nat.reduceAdd, Int.cast_ofNat_Int, ↓reduceIte, Int.reduceToNat]
 refine CallK.pure (a_h2) rfl rfl (by simp [-List.map_take]) ?_
 simp (decide := true) only [TF, EV, Nat.reduceAdd, Int.cast_ofNat_Int, ↓reduceIte, Int.reduceToNat]
 refine CallK.pure (a_c) rfl rfl (by simp [-List.map_take]) ?_
 simp (decide := true) only [TF, EV, Nat.reduceAdd, Int.cast_ofNat_Int, ↓reduceIte, Int.reduceToNat]
 refine CallK.pure (a_e) rfl rfl (by simp [-List.map_take]) ?_
 simp (decide := true) only [TF, EV, Nat.reduceAdd, Int.cast_ofNat_Int, ↓reduceIte, Int.reduceToNat]
 refine CallK.pure (a_fl) rfl rfl (by simp [-List.map_take]) ?_
 simp (decide := true) only [TF, EV, Nat.reduceAdd, Int.cast_ofNat_Int, ↓reduceIte, Int.reduceToNat]
 refine hK _ _ (by kernel_rfl) ?_
 clear hK K
 refine WP.ret ?_
 exact Ends.pure (.inr rfl) rfl (Le.of_eq (by simp (decide := true) only [St.get, lk, W, ↓reduceIte])) (by simp)
end Go.Proofs

set_option linter.unusedSimpArgs false
set_option linter.unusedVariables false
set_option maxRecDepth 10000
namespace Go.Proofs
open Go Go.Id
set_option maxHeartbeats 4000000
theorem c_r_equal (a : List Rule) (na : Bool) (b : List Rule) (nb : Bool) (ha : a.length ≤ 1099511627776) (hna : na = true → a = []) (hb : b.length ≤ 1099511627776) (hnb : nb = true → b = []) (hoa : ∀ p ∈ a, p.ok0) (hob : ∀ p ∈ b, p.ok0) : CallP Pr 19 [.slice 6 na (a.map Rule.cs) none, .slice 6 nb (b.map Rule.cs) none] (.bool (equalR a b)) := by
 refine CallP.of_wp Tryz.func19 rfl (by kernel_rfl) Tryz.ntmps19 (by simp) ?_
 simp only [frameOf, Nat.reduceAdd, Nat.zero_add]
 refine WP.sr [0, 1] (by kernel_rfl) fun K hK => ?_
 simp (decide := true) only [TF, ↓reduceIte, Int.reduceToNat]
 refine hK _ _ ?_; clear hK K
 refine WP.seq ?_
 refine WP.sr [0, 1, 13] (by kernel_rfl) fun K hK => ?_
 simp (decide := true) only [TF, ↓reduceIte, Int.reduceToNat]
 refine hK _ _ ?_; clear hK K
 refine WP.cond (b := _) rfl (fun q1 => ?_) (fun q1 => ?_)
 ·
  have hne : a.length ≠ b.length := by simp at q1; omega
  have hF : equalR a b = false := all2_len sameR a b hne
  refine WP.sr [4] (by kernel_rfl) fun K hK => ?_
  simp (decide := true) only [TF, q1, ↓reduceIte, Int.reduceToNat]
  refine hK _ _ ?_; clear hK K
  refine WP.ret ?_
  exact Ends.pure (.inr rfl) rfl (Le.of_eq (by simp [St.get, lk, W, hF])) (by simp)
 ·
  have hlen : a.length = b.length := by simp at q1; omega
  refine WP.skip ?_
  show WP _ _ _ _ _ _
  refine WP.seq ?_
  refine WP.sr [0, 1, 5] (by kernel_rfl) fun K hK => ?_
  simp (decide := true) only [TF, q1, ↓reduceIte, Int.reduceToNat]
  refine hK _ _ ?_; clear hK K
  refine WP.block ?_
  refine WP.lp [0, 1] (X := {k : Nat // k ≤ a.length ∧ equalR a b = all2 sameR (a.drop k) (b.drop k)}) (fun x => match x with | ⟨(k), _⟩ => [(5, .int .i64 k)]) (fun x => match x with | ⟨(k), _⟩ => []) (fun x => match x with | ⟨(k), _⟩ => a.length - k) (by simp (decide := true) only [W, ↓reduceIte, Int.reduceToNat]; rfl) ?_ ⟨(0), ⟨Nat.zero_le _, by simp [equalR]⟩⟩ ?_
  rotate_left
  · exact Weak.store (by simp [St.get, lk, W, Le.refl, q1]) (by simp [lk, W, q1]) (by simp [lk, W]) (by simp [BClo, lk]) (by simp [lk])
  rintro ⟨k, hk, hI⟩
  dsimp only
  simp only [List.cons_append, List.nil_append]
  refine WP.seq ?_
  refine WP.sr [0, 1, 5, 17] (by kernel_rfl) fun K hK => ?_
  simp (decide := true) only [TF, q1, ↓reduceIte, Int.reduceToNat]
  refine hK _ _ ?_; clear hK K
  refine WP.cond (b := _) rfl (fun q2 => ?_) (fun q2 => ?_)
  ·
   have hlt := lt_of_q q2
   have hlt2 : k < b.length := by omega
   have hg : (a.map Rule.cs)[k]? = some [.str a[k].name, .bool a[k].deny, .slice 3 a[k].nc (a[k].conds.map Cond.cs) none, .slice 1 a[k].ns (a[k].scopes.map fun x => [.str x]) none, .int .i64 a[k].lvl, .int .i64 a[k].age] := getM hlt
   have hg2 : (b.map Rule.cs)[k]? = some [.str b[k].name, .bool b[k].deny, .slice 3 b[k].nc (b[k].conds.map Cond.cs) none, .slice 1 b[k].ns (b[k].scopes.map fun x => [.str x]) none, .int .i64 b[k].lvl, .int .i64 b[k].age] := getM hlt2
   have hnf := nl_false hna hlt
   have hnf2 := nl_false hnb hlt2
   rw [dropE hlt, dropE hlt2, all2_cons] at hI
   have hoa1 := hoa _ (List.getElem_mem hlt)
   have hob1 := hob _ (List.getElem_mem hlt2)
   refine WP.skip ?_
   show WP _ _ _ _ _ _
   refine WP.seq ?_
   refine WP.block ?_
   refine WP.sd [0, 1, 5, 6, 7] (by kernel_rfl) (by kernel_rfl) fun K hK => ?_
   simp (decide := true) only [TF, q1, q2, hg, hg2, hnf, hnf2, ↓reduceIte, Int.reduceToNat]
   refine hK _ _ (by kernel_rfl) ?_
   clear hK K
   refine WP.seq ?_
   refine WP.sr [0, 1, 5, 6, 7, 70] (by kernel_rfl) fun K hK => ?_
   refine runOps.take 6 fun J hJ => ?_
   simp (decide := true) only [TF, q1, q2, hg, hg2, hnf, hnf2, ↓reduceIte, Int.reduceToNat]
   refine hJ _ _ ?_; clear hJ J
   refine runOps.part 33 rfl (fun q3 => ?_) (fun q3 => ?_)
   ·
    have e1 := q3
    simp [bne] at e1
    have hF : equalR a b = false := by rw [hI]; simp [sameR, e1]
    simp (decide := true) only [TF, q1, q2, hg, hg2, hnf, hnf2, q3, ↓reduceIte, Int.reduceToNat]
    refine hK _ _ ?_; clear hK K
    refine WP.cond (b := true) (by rfl) (fun _ => ?_) nofun
    refine WP.sr [4] (by kernel_rfl) fun K hK => ?_
    simp (decide := true) only [TF, q1, q2, hg, hg2, hnf, hnf2, q3, ↓reduceIte, Int.reduceToNat]
    refine hK _ _ ?_; clear hK K
    refine WP.ret ?_
    exact Ends.pure (.inr rfl) rfl (Le.of_eq (by simp [St.get, lk, W, hF])) (by simp)
   ·
    have e1 := q3
    simp [bne] at e1
    refine runOps.take 7 fun J hJ => ?_
    simp (decide := true) only [TF, q1, q2, hg, hg2, hnf, hnf2, q3, ↓reduceIte, Int.reduceToNat]
    refine hJ _ _ ?_; clear hJ J
    refine runOps.part 40 rfl (fun q4 => ?_) (fun q4 => ?_)
    ·
     have e2 := q4
     simp [bne] at e2
     have hF : equalR a b = false := by rw [hI]; simp [sameR, e2]
     simp (decide := true) only [TF, q1, q2, hg, hg2, hnf, hnf2, q3, q4, ↓reduceIte, Int.reduceToNat]
     refine hK _ _ ?_; clear hK K
     refine WP.cond (b := true) (by rfl) (fun _ => ?_) nofun
     refine WP.sr [4] (by kernel_rfl) fun K hK => ?_
     simp (decide := true) only [TF, q1, q2, hg, hg2, hnf, hnf2, q3, q4, ↓reduceIte, Int.reduceToNat]
     refine hK _ _ ?_; clear hK K
     refine WP.ret ?_
     exact Ends.pure (.inr rfl) rfl (Le.of_eq (by simp [St.get, lk, W, hF])) (by simp)
    ·
     have e2 := q4
     simp [bne] at e2
     refine runOps.take 7 fun J hJ => ?_
     simp (decide := true) only [TF, q1, q2, hg, hg2, hnf, hnf2, q3, q4, ↓reduceIte, Int.reduceToNat]
     refine hJ _ _ ?_; clear hJ J
     refine runOps.part 47 rfl (fun q5 => ?_) (fun q5 => ?_)
     ·
      have e3 := q5
      simp [bne] at e3
      have hF : equalR a b = false := by rw [hI]; simp [sameR, e3]
      simp (decide := true) only [TF, q1, q2, hg, hg2, hnf, hnf2, q3, q4, q5, ↓reduceIte, Int.reduceToNat]
      refine hK _ _ ?_; clear hK K
      refine WP.cond (b := true) (by rfl) (fun _ => ?_) nofun
      refine WP.sr [4] (by kernel_rfl) fun K hK => ?_
      simp (decide := true) only [TF, q1, q2, hg, hg2, hnf, hnf2, q3, q4, q5, ↓reduceIte, Int.reduceToNat]
      refine hK _ _ ?_; clear hK K
      refine WP.ret ?_
      exact Ends.pure (.inr rfl) rfl (Le.of_eq (by simp [St.get, lk, W, hF])) (by simp)
     ·
      have e3 := q5
      simp [bne] at e3
      refine runOps.take 7 fun J hJ => ?_
      simp (decide := true) only [TF, q1, q2, hg, hg2, hnf, hnf2, q3, q4, q5, ↓reduceIte, Int.reduceToNat]
      refine hJ _ _ ?_; clear hJ J
      refine runOps.part 54 rfl (fun q6 => ?_) (fun q6 => ?_)
      ·
       have e4 := q6
       simp [bne] at e4
       have hF : equalR a b = false := by rw [hI]; simp [sameR, e4]
       simp (decide := true) only [TF, q1, q2, hg, hg2, hnf, hnf2, q3, q4, q5, q6, ↓reduceIte, Int.reduceToNat]
       refine hK _ _ ?_; clear hK K
       refine WP.cond (b := true) (by rfl) (fun _ => ?_) nofun
       refine WP.sr [4] (by kernel_rfl) fun K hK => ?_
       simp (decide := true) only [TF, q1, q2, hg, hg2, hnf, hnf2, q3, q4, q5, q6, ↓reduceIte, Int.reduceToNat]
       refine hK _ _ ?_; clear hK K
       refine WP.ret ?_
       exact Ends.pure (.inr rfl) rfl (Le.of_eq (by simp [St.get, lk, W, hF])) (by simp)
      ·
       have e4 := q6
       simp [bne] at e4
       simp (decide := true) only [TF, q1, q2, hg, hg2, hnf, hnf2, q3, q4, q5, q6, ↓reduceIte, Int.reduceToNat]
       refine CallK.pure (c_r_lists a[k].scopes a[k].ns b[k].scopes b[k].ns hoa1.2.2.1 hoa1.2.2.2 hob1.2.2.1 hob1.2.2.2) rfl rfl (by simp [-List.map_take]) ?_
       refine runOps.take 3 fun J hJ => ?_
       simp (decide := true) only [TF, q1, q2, hg, hg2, hnf, hnf2, q3, q4, q5, q6, ↓reduceIte, Int.reduceToNat]
       refine hJ _ _ ?_; clear hJ J
       refine runOps.part 62 rfl (fun q7 => ?_) (fun q7 => ?_)
       ·
        have e5 := q7
        have hF : equalR a b = false := by rw [hI]; simp at e5; simp [sameR, e5]
        simp (decide := true) only [TF, q1, q2, hg, hg2, hnf, hnf2, q3, q4, q5, q6, q7, ↓reduceIte, Int.reduceToNat]
        refine hK _ _ ?_; clear hK K
        refine WP.cond (b := true) (by rfl) (fun _ => ?_) nofun
        refine WP.sr [4] (by kernel_rfl) fun K hK => ?_
        simp (decide := true) only [TF, q1, q2, hg, hg2, hnf, hnf2, q3, q4, q5, q6, q7, ↓reduceIte, Int.reduceToNat]
        refine hK _ _ ?_; clear hK K
        refine WP.ret ?_
        exact Ends.pure (.inr rfl) rfl (Le.of_eq (by simp [St.get, lk, W, hF])) (by simp)
       ·
        have e5 := q7
        simp at e5
        simp (decide := true) only [TF, q1, q2, hg, hg2, hnf, hnf2, q3, q4, q5, q6, q7, ↓reduceIte, Int.reduceToNat]
        refine hK _ _ ?_; clear hK K
        refine WP.cond (b := _) rfl (fun q8 => ?_) (fun q8 => ?_)
        ·
         have hne : a[k].conds.length ≠ b[k].conds.length := by simp at q8; omega
         have hz := all2_len eqC _ _ hne
         have hF : equalR a b = false := by rw [hI]; simp [sameR, hz]
         refine WP.sr [4] (by kernel_rfl) fun K hK => ?_
         simp (decide := true) only [TF, q1, q2, hg, hg2, hnf, hnf2, q3, q4, q5, q6, q7, q8, ↓reduceIte, Int.reduceToNat]
         refine hK _ _ ?_; clear hK K
         refine WP.ret ?_
         exact Ends.pure (.inr rfl) rfl (Le.of_eq (by simp [St.get, lk, W, hF])) (by simp)
        ·
         have hlen2 : a[k].conds.length = b[k].conds.length := by simp at q8; omega
         have hS : sameR a[k] b[k] = all2 eqC a[k].conds b[k].conds := by simp [sameR, e1, e2, e3, e4, e5]
         refine WP.skip ?_
         show WP _ _ _ _ _ _
         refine WP.sr [0, 1, 5, 6, 7, 8] (by kernel_rfl) fun K hK => ?_
         simp (decide := true) only [TF, q1, q2, hg, hg2, hnf, hnf2, q3, q4, q5, q6, q7, q8, ↓reduceIte, Int.reduceToNat]
         refine hK _ _ ?_; clear hK K
         refine WP.block ?_
         refine WP.lp [0, 1, 5, 6, 7] (X := {j : Nat // j ≤ a[k].conds.length ∧ all2 eqC a[k].conds b[k].conds = all2 eqC (a[k].conds.drop j) (b[k].conds.drop j)}) (fun x => match x with | ⟨(j), _⟩ => [(8, .int .i64 j)]) (fun x => match x with | ⟨(j), _⟩ => [(1, .box 36 [.str b[k].name, .bool b[k].deny, .slice 3 b[k].nc (b[k].conds.map Cond.cs) none, .slice 1 b[k].ns (b[k].scopes.map fun x => [.str x]) none, .int .i64 b[k].lvl, .int .i64 b[k].age]), (0, .box 36 [.str a[k].name, .bool a[k].deny, .slice 3 a[k].nc (a[k].conds.map Cond.cs) none, .slice 1 a[k].ns (a[k].scopes.map fun x => [.str x]) none, .int .i64 a[k].lvl, .int .i64 a[k].age])]) (fun x => match x with | ⟨(j), _⟩ => a[k].conds.length - j) (by simp (decide := true) only [W, ↓reduceIte, Int.reduceToNat]; rfl) ?_ ⟨(0), ⟨Nat.zero_le _, by simp⟩⟩ ?_
         rotate_left
         · exact Weak.store (by simp [St.get, lk, W, Le.refl, q1, q2, hg, hg2, hnf, hnf2, q3, q4, q5, q6, q7, q8]) (by simp [lk, W, q1, q2, hg, hg2, hnf, hnf2, q3, q4, q5, q6, q7, q8]) (by simp [lk, W]) (by simp [BClo, lk]) (by simp [lk])
         rintro ⟨j, hkx, hJ⟩
         dsimp only
         simp only [List.cons_append, List.nil_append]
         refine WP.seq ?_
         refine WP.sr [0, 1, 5, 6, 7, 8, 75] (by kernel_rfl) fun K hK => ?_
         simp (decide := true) only [TF, q1, q2, hg, hg2, hnf, hnf2, q3, q4, q5, q6, q7, q8, ↓reduceIte, Int.reduceToNat]
         refine hK _ _ ?_; clear hK K
         refine WP.cond (b := _) rfl (fun q9 => ?_) (fun q9 => ?_)
         ·
          have hltx := lt_of_q q9
          have hoc := hoa1.1
          have hlt2x : j < b[k].conds.length := by omega
          have hgx : (a[k].conds.map Cond.cs)[j]? = some [.str a[k].conds[j].f, .str a[k].conds[j].op, .str a[k].conds[j].v] := getM hltx
          have hgx2 : (b[k].conds.map Cond.cs)[j]? = some [.str b[k].conds[j].f, .str b[k].conds[j].op, .str b[k].conds[j].v] := getM hlt2x
          have hnx := nl_false hoa1.2.1 hltx
          have hnx2 := nl_false hob1.2.1 hlt2x
          rw [dropE hltx, dropE hlt2x, all2_cons] at hJ
          refine WP.skip ?_
          show WP _ _ _ _ _ _
          refine WP.seq ?_
          refine WP.block ?_
          refine WP.sd [0, 1, 5, 6, 7, 8, 88] (by kernel_rfl) (by kernel_rfl) fun K hK => ?_
          simp (decide := true) only [TF, q1, q2, hg, hg2, hnf, hnf2, q3, q4, q5, q6, q7, q8, q9, hgx, hgx2, hnx, hnx2, ↓reduceIte, Int.reduceToNat]
          refine hK _ _ (by kernel_rfl) ?_
          clear hK K
          refine WP.cond (b := _) rfl (fun q10 => ?_) (fun q10 => ?_)
          ·
           have hz2 : eqC a[k].conds[j] b[k].conds[j] = false := by simpa only [eqC, Bool.not_eq_true'] using q10
           have hF : equalR a b = false := by rw [hI, hS, hJ, hz2]; rfl
           refine WP.sr [4] (by kernel_rfl) fun K hK => ?_
           simp (decide := true) only [TF, q1, q2, hg, hg2, hnf, hnf2, q3, q4, q5, q6, q7, q8, q9, hgx, hgx2, hnx, hnx2, q10, ↓reduceIte, Int.reduceToNat]
           refine hK _ _ ?_; clear hK K
           refine WP.ret ?_
           exact Ends.pure (.inr rfl) rfl (Le.of_eq (by simp [St.get, lk, W, hF])) (by simp)
          ·
           have hz2 : eqC a[k].conds[j] b[k].conds[j] = true := by simpa only [eqC, Bool.not_eq_false'] using q10
           rw [hz2, Bool.true_and] at hJ
           refine WP.skip ?_
           show WP _ _ _ _ _ _
           refine WP.region (by kernel_rfl) fun K hK => ?_
           simp (decide := true) only [TF, q1, q2, hg, hg2, hnf, hnf2, q3, q4, q5, q6, q7, q8, q9, hgx, hgx2, hnx, hnx2, q10, ↓reduceIte, Int.reduceToNat]
           refine hK _ _ ?_; clear hK K
           show ∃ y, _ ∧ Weak _ _ _
           refine ⟨⟨j + 1, ?_⟩, ?_, ?_⟩
           · exact ⟨by omega, by first | (simpa [q1, q2, hg, hg2, hnf, hnf2, q3, q4, q5, q6, q7, q8, q9, hgx, hgx2, hnx, hnx2, q10] using hJ) | (simp_all [eqStr, eqC]; done)⟩
           · dsimp only; omega
           · exact Weak.store (by simp [St.get, lk, W, Le.refl, q1, q2, hg, hg2, hnf, hnf2, q3, q4, q5, q6, q7, q8, q9, hgx, hgx2, hnx, hnx2, q10, wrapS hltx (show a[k].conds.length ≤ 140737488355328 by omega)]) (by simp [lk, W, q1, q2, hg, hg2, hnf, hnf2, q3, q4, q5, q6, q7, q8, q9, hgx, hgx2, hnx, hnx2, q10, wrapS hltx (show a[k].conds.length ≤ 140737488355328 by omega)]) (by simp [lk, W]) (by simp [BClo, lk]) (by simp [lk])
         ·
          have hgex := ge_of_q q9
          rw [dropN hgex, dropN (show b[k].conds.length ≤ j by omega), all2_nil] at hJ
          rw [hS, hJ, Bool.true_and] at hI
          refine WP.exit ?_
          show WP _ _ _ _ _ _
          refine WP.region (by kernel_rfl) fun K hK => ?_
          simp (decide := true) only [TF, q1, q2, hg, hg2, hnf, hnf2, q3, q4, q5, q6, q7, q8, q9, ↓reduceIte, Int.reduceToNat]
          refine hK _ _ ?_; clear hK K
          show ∃ y, _ ∧ Weak _ _ _
          refine ⟨⟨k + 1, ?_⟩, ?_, ?_⟩
          · exact ⟨by omega, hI⟩
          · dsimp only; omega
          · exact Weak.store (by simp [St.get, lk, W, Le.refl, q1, q2, hg, hg2, hnf, hnf2, q3, q4, q5, q6, q7, q8, q9, wrapS hlt (show a.length ≤ 140737488355328 by omega)]) (by simp [lk, W, q1, q2, hg, hg2, hnf, hnf2, q3, q4, q5, q6, q7, q8, q9, wrapS hlt (show a.length ≤ 140737488355328 by omega)]) (by simp [lk, W]) (by simp [BClo, lk]) (by simp [lk])
  ·
   have hge := ge_of_q q2
   rw [dropN hge, dropN (show b.length ≤ k by omega), all2_nil] at hI
   refine WP.exit ?_
   show WP _ _ _ _ _ _
   refine WP.sr [4] (by kernel_rfl) fun K hK => ?_
   simp (decide := true) only [TF, q1, q2, ↓reduceIte, Int.reduceToNat]
   refine hK _ _ ?_; clear hK K
   refine WP.ret ?_
   exact Ends.pure (.inr rfl) rfl (Le.of_eq (by simp [St.get, lk, W, hI])) (by simp)
end Go.Proofs

set_option linter.unusedSimpArgs false
set_option linter.unusedVariables false
namespace Go.Proofs
open Go Go.Id
def Rule.rng (p : Rule) : Prop := (-9223372036854775808 ≤ p.lvl ∧ p.lvl ≤ 9223372036854775807) ∧ (-9223372036854775808 ≤ p.age ∧ p.age ≤ 9223372036854775807)
theorem short_ok {ls : List (List UInt8)} {n : Int} (h : shortB ls n = true) : (∀ s ∈ ls, s.length ≤ 300) ∧ (ls.length : Int) ≤ n := by
  simp only [shortB, Bool.and_eq_true, List.all_eq_true, decide_eq_true_eq] at h
  exact ⟨fun s hs => by have := h.1 s hs; omega, h.2⟩
theorem rule_sm {p : Rule} (h : ruleB p = true) (hb : p.big) (hr : p.rng) : p.sm := by
  simp only [ruleB, Bool.and_eq_true, List.all_eq_true, decide_eq_true_eq] at h
  obtain ⟨⟨⟨h1, h2⟩, h3⟩, h4⟩ := h
  obtain ⟨s1, s2⟩ := short_ok h3
  exact ⟨by omega, by omega, fun c hc => by have := h1 c hc; exact ⟨by omega, by omega, by omega⟩, by omega, fun s hs => by have := s1 s hs; omega, hb.2.1, hb.2.2.2, hr.1, hr.2⟩
theorem rule_ok {p : Rule} (h : ruleB p = true) (hb : p.big) : p.ok := by
  simp only [ruleB, Bool.and_eq_true, List.all_eq_true, decide_eq_true_eq] at h
  obtain ⟨⟨⟨h1, h2⟩, h3⟩, h4⟩ := h
  obtain ⟨s1, s2⟩ := short_ok h3
  exact ⟨⟨by omega, hb.2.1, by omega, hb.2.2.2⟩, by omega, fun c hc => by have := h1 c hc; exact ⟨by omega, by omega, by omega⟩, fun s hs => by have := s1 s hs; omega⟩
theorem asked_ok {r : Req} (h : askedB r = true) (hb : r.big) : r.ok := by
  simp only [askedB, Bool.and_eq_true, decide_eq_true_eq] at h
  have h1 := (short_ok h.1.2).2
  have h2 := (short_ok h.2).2
  exact ⟨by omega, hb.2.1, by omega, hb.2.2.2⟩
theorem few_sm {l : List Rule} (h : fewB l = true) (hb : ∀ p ∈ l, p.big) (hr : ∀ p ∈ l, p.rng) : (∀ p ∈ l, p.sm) ∧ l.length ≤ 70 := by
  simp only [fewB, Bool.and_eq_true, List.all_eq_true, decide_eq_true_eq] at h
  exact ⟨fun p hp => rule_sm (h.1 p hp) (hb p hp) (hr p hp), by omega⟩
theorem all2_refl {α : Type} {p : α → α → Bool} (h : ∀ x, p x x = true) : ∀ l : List α, all2 p l l = true
  | [] => rfl
  | x :: l => by rw [all2, h, all2_refl h l]; rfl
theorem equalR_refl (l : List Rule) : equalR l l = true := by
  refine all2_refl (fun p => ?_) l
  have h1 : all2 eqC p.conds p.conds = true := all2_refl (fun c => by simp [eqC]) _
  have h2 : all2 eqStr p.scopes p.scopes = true := all2_refl (fun c => by simp [eqStr]) _
  simp [sameR, h1, h2]
theorem parseP_ok : ∀ (ws : Wds) (n : Int) (rs : List Rule), (∀ x ∈ ws, x.length ≤ 4096) → (∀ p ∈ rs, p.ok) → (∀ p ∈ (parseP n rs ws).1, p.ok) ∧ (parseP n rs ws).1.length ≤ rs.length + ws.length
  | [], n, rs, h, hr => ⟨hr, Nat.le_add_right _ _⟩
  | [l], n, rs, h, hr => by
    unfold parseP
    split
    · exact ⟨hr, Nat.le_add_right _ _⟩
    · simp
  | l :: m :: t, n, rs, h, hr => by
    unfold parseP
    cases hl : rdL l with
    | none => simp
    | some p =>
      simp only
      split
      · have ho := rdL_ok (h l (by simp)) hl
        obtain ⟨a, b⟩ := parseP_ok (m :: t) (n + 1) (rs ++ [p]) (fun x hx => h x (List.mem_cons_of_mem _ hx)) (fun q hq => by rcases List.mem_append.1 hq with hq | hq; exact hr q hq; rw [List.mem_singleton.1 hq]; exact ho)
        refine ⟨a, ?_⟩
        simp only [List.length_append, List.length_cons, List.length_nil] at b ⊢
        omega
      · simp
theorem pR_ok (s : List UInt8) : (∀ p ∈ (pR s).1, p.ok) ∧ (pR s).1.length ≤ 4097 := by
  rcases Nat.lt_or_ge 4096 s.length with h | h
  · rw [pR_long h]; simp
  · rw [pR_short h]
    have hl := (cutA_len 10 s []).1
    obtain ⟨a, b⟩ := parseP_ok (cutA 10 [] s) 0 [] (fun x hx => by have := cutA_mem 10 s [] x hx; simp at this; omega) (by simp)
    exact ⟨a, by simp only [List.length_nil] at b; omega⟩
theorem text_cases (l : List Rule) : ∃ s e, textD l = .tup [.str s, .int .i64 e] := by
  unfold textD
  split
  · exact ⟨_, _, rfl⟩
  · split <;> exact ⟨_, _, rfl⟩
end Go.Proofs
