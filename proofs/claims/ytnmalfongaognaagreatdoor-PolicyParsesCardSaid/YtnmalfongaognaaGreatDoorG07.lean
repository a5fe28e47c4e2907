import Derived.Test.YtnmalfongaognaaGreatDoorG06
import Derived.Lib.SplitLaws
set_option linter.unusedSimpArgs false
set_option linter.unusedVariables false
set_option maxRecDepth 10000
namespace Go.Proofs
open Go Go.Id

theorem c_line (p : Rule) (hp : p.sm) : CallP Pr 35 [.agg [.str p.name, .bool p.deny, .slice 3 p.nc (p.conds.map Cond.cs) none, .slice 1 p.ns (p.scopes.map fun x => [.str x]) none, .int .i64 p.lvl, .int .i64 p.age]] (.str (lineB p)) := by
 refine CallP.of_wp Tryz.func35 rfl (by kernel_rfl) Tryz.ntmps35 (by simp) ?_
 simp only [frameOf, Nat.reduceAdd, Nat.zero_add]
 refine WP.sr [1] (by kernel_rfl) fun K hK => ?_
 simp (decide := true) only [W, Pr_prog, map1, map2, map4, mapL, ↓reduceIte, Int.reduceToNat]
 refine hK _ _ ?_
 clear hK K
 refine WP.sr [1, 3] (by kernel_rfl) fun K hK => ?_
 simp (decide := true) only [W, Pr_prog, t_fldD_36_0, t_szD_9, t_aggD_9, t_elemD_34, t_okElem_9, map1, map2, map4, mapL, ↓reduceIte, Int.reduceToNat]
 refine hK _ _ ?_
 clear hK K
 refine WP.seq ?_
 refine WP.sr [1, 3, 11] (by kernel_rfl) fun K hK => ?_
 simp (decide := true) only [W, Pr_prog, t_fldD_36_1, t_szD_4, t_aggD_4, map1, map2, map4, mapL, ↓reduceIte, Int.reduceToNat]
 refine hK _ _ ?_
 clear hK K
 refine WP.meetQ ⟨[(3, .slice 1 false ((headW p).map fun x => [D.str x]) (some 1)), (1, .ref 0 0)], [(0, .box 36 [.str p.name, .bool p.deny, .slice 3 p.nc (p.conds.map Cond.cs) none, .slice 1 p.ns (p.scopes.map fun x => [.str x]) none, .int .i64 p.lvl, .int .i64 p.age]), (1, .tip 9 1 (headW p).length)]⟩ ?_ ?_
 ·
  refine WP.cond (b := _) rfl (fun q1 => ?_) (fun q1 => ?_)
  ·
   refine WP.region (by kernel_rfl) fun K hK => ?_
   simp (decide := true) only [W, Pr_prog, t_elemD_34, t_szD_9, q1, map1, map2, map4, mapL, ↓reduceIte, Int.reduceToNat]
   refine hK _ _ ?_
   clear hK K
   show Weak _ _ _
   refine Weak.trans (Weak.keep [1, 3]) ?_
   simp only [keep, W, ↓reduceIte, Nat.reduceEqDiff]
   exact Weak.arrTip 1 9 1 [[D.str [114, 117, 108, 101]], [D.str p.name], [D.str [100, 101, 110, 121]]] 3 (by simp [St.get, lk]) (by simp [lk, W]) (by simp) (by simp) (by simp (decide := true) [ArF, ArD, headW, q1]) (by simp) (by intro i hi; by_cases h0 : i = 0 <;> simp_all [lk]) (by simp [lk, wC_len, headW]) (by simp [BClo])
  ·
   refine WP.skip ?_
   show Weak _ _ _
   refine Weak.trans (Weak.keep [1, 3]) ?_
   simp only [keep, W, ↓reduceIte, Nat.reduceEqDiff]
   exact Weak.arrTip 1 9 1 [[D.str [114, 117, 108, 101]], [D.str p.name], [D.str [112, 101, 114, 109, 105, 116]]] 3 (by simp [St.get, lk]) (by simp [lk, W]) (by simp) (by simp) (by simp (decide := true) [ArF, ArD, headW, q1]) (by simp) (by intro i hi; by_cases h0 : i = 0 <;> simp_all [lk]) (by simp [lk, wC_len, headW]) (by simp [BClo])
 ·
  refine WP.sr [1, 3, 4] (by kernel_rfl) fun K hK => ?_
  simp (decide := true) only [W, Pr_prog, map1, map2, map4, mapL, ↓reduceIte, Int.reduceToNat]
  refine hK _ _ ?_
  clear hK K
  refine WP.seq ?_
  refine WP.sr [1, 3, 4, 15, 16, 17] (by kernel_rfl) fun K hK => ?_
  simp (decide := true) only [W, Pr_prog, t_fldD_36_2, t_szD_33, t_aggD_33, t_isStr_33, t_isSliceT_33, map1, map2, map4, mapL, ↓reduceIte, Int.reduceToNat]
  refine hK _ _ ?_
  clear hK K
  refine WP.block ?_
  refine WP.lp [1, 15, 16] (X := {k : Nat // k ≤ p.conds.length}) (fun x => match x with | ⟨(k), _⟩ => [(3, .slice 1 false ((wC p k).map fun x => [D.str x]) (some 1)), (4, .str (leadW k)), (17, .int .i64 k)]) (fun x => match x with | ⟨(k), _⟩ => [(0, .box 36 [.str p.name, .bool p.deny, .slice 3 p.nc (p.conds.map Cond.cs) none, .slice 1 p.ns (p.scopes.map fun x => [.str x]) none, .int .i64 p.lvl, .int .i64 p.age]), (1, .tip 9 1 (wC p k).length)]) (fun x => match x with | ⟨(k), _⟩ => p.conds.length - k) (by simp (decide := true) only [W, ↓reduceIte, Int.reduceToNat]; rfl) ?_ ⟨(0), Nat.zero_le _⟩ ?_
  rotate_left
  · exact Weak.store (by simp [St.get, lk, W, Le.refl, W, wC_0, leadW]) (by simp [lk, W, wC_0]) (by simp [lk, W]) (by simp [BClo, lk]) (by simp [lk])
  rintro ⟨k, hk⟩
  dsimp only
  simp only [List.cons_append, List.nil_append]
  refine WP.sr [1, 3, 4, 15, 16, 17, 18] (by kernel_rfl) fun K hK => ?_
  simp (decide := true) only [W, Pr_prog, map1, map2, map4, mapL, ↓reduceIte, Int.reduceToNat]
  refine hK _ _ ?_
  clear hK K
  refine WP.seq ?_
  refine WP.cond (b := _) rfl (fun q2 => ?_) (fun q2 => ?_)
  ·
   have hlt := lt_of_q q2
   have hg : (p.conds.map Cond.cs)[k]? = some [.str p.conds[k].f, .str p.conds[k].op, .str p.conds[k].v] := getM hlt
   have hnf := nl_false hp.2.2.2.2.2.1 hlt
   have hc := hp.2.2.1 _ (List.getElem_mem hlt)
   have hnx := wC_next p k hlt
   refine WP.skip ?_
   show WP _ _ _ _ _ _
   refine WP.seq ?_
   refine WP.block ?_
   refine WP.sr [1, 3, 4, 6, 15, 16, 17] (by kernel_rfl) fun K hK => ?_
   simp (decide := true) only [W, Pr_prog, t_elemD_33, t_szD_43, t_aggD_43, t_zeroD_43, q2, hg, hnf, map1, map2, map4, mapL, ↓reduceIte, Int.reduceToNat]
   refine hK _ _ ?_
   clear hK K
   refine WP.sd [1, 3, 15, 16, 17] (by kernel_rfl) (by kernel_rfl) fun K hK => ?_
   simp (decide := true) only [W, Pr_prog, t_fldD_43_0, t_szD_9, t_aggD_9, t_fldD_43_1, t_fldD_43_2, q2, hg, hnf, map1, map2, map4, mapL, ↓reduceIte, Int.reduceToNat]
   refine CallK.pure (c_escape p.conds[k].v (by omega)) rfl rfl (by simp [-List.map_take]) ?_
   simp (decide := true) only [W, Pr_prog, t_elemD_34, t_okElem_9, q2, hg, hnf, map1, map2, map4, mapL, ↓reduceIte, Int.reduceToNat]
   refine ⟨⟨by simp only [List.length_append, List.length_cons, List.length_nil, List.length_map, wC_len p k hk]; have := hp.2.1; have := hp.2.2.2.1; omega, by simp only [List.length_append, List.length_cons, List.length_nil, List.length_map, wC_len p k hk]; have := hp.2.1; have := hp.2.2.2.1; omega⟩, ?_⟩
   refine hK _ _ (by kernel_rfl) ?_
   clear hK K
   refine WP.region (by kernel_rfl) fun K hK => ?_
   simp (decide := true) only [W, Pr_prog, q2, hg, hnf, map1, map2, map4, mapL, ↓reduceIte, Int.reduceToNat]
   refine hK _ _ ?_
   clear hK K
   show WP _ _ _ _ _ _
   refine WP.region (by kernel_rfl) fun K hK => ?_
   simp (decide := true) only [W, Pr_prog, q2, hg, hnf, map1, map2, map4, mapL, ↓reduceIte, Int.reduceToNat]
   refine hK _ _ ?_
   clear hK K
   show ∃ y, _ ∧ Weak _ _ _
   refine ⟨⟨k + 1, ?_⟩, ?_, ?_⟩
   · show k + 1 ≤ p.conds.length; omega
   · dsimp only; omega
   · exact Weak.store (by simp [St.get, lk, W, Le.refl, q2, hg, hnf, hnx, show leadW (k + 1) = [97, 110, 100] from rfl, wrapS hlt (show p.conds.length ≤ 140737488355328 by have := hp.2.1; omega)]) (by simp [lk, W, q2, hg, hnf, hnx]) (by simp [lk, W]) (by simp [BClo, lk]) (by simp [lk])
  ·
   have hge := ge_of_q q2
   obtain rfl : k = p.conds.length := by omega
   refine WP.exit ?_
   show WP _ _ _ _ _ _
   refine WP.seq ?_
   refine WP.sr [1, 3, 36] (by kernel_rfl) fun K hK => ?_
   simp (decide := true) only [W, Pr_prog, t_fldD_36_3, t_szD_34, t_aggD_34, t_isStr_34, t_isSliceT_34, q2, map1, map2, map4, mapL, ↓reduceIte, Int.reduceToNat]
   refine hK _ _ ?_
   clear hK K
   refine WP.cond (b := _) rfl (fun q3 => ?_) (fun q3 => ?_)
   ·
    refine WP.drawn (by kernel_rfl) (by kernel_rfl) fun K hK => ?_
    simp (decide := true) only [W, Pr_prog, t_elemD_34, t_okElem_9, t_fldD_36_3, t_szD_34, t_aggD_34, q2, q3, map1, map2, map4, mapL, ↓reduceIte, Int.reduceToNat]
    refine ⟨⟨by simp only [List.length_append, List.length_cons, List.length_nil, List.length_map, wC_len p p.conds.length (Nat.le_refl _)]; have := hp.2.1; have := hp.2.2.2.1; omega, by simp only [List.length_append, List.length_cons, List.length_nil, List.length_map, wC_len p p.conds.length (Nat.le_refl _)]; have := hp.2.1; have := hp.2.2.2.1; omega⟩, ?_⟩
    refine ⟨⟨by simp only [List.length_append, List.length_cons, List.length_nil, List.length_map, wC_len p p.conds.length (Nat.le_refl _)]; have := hp.2.1; have := hp.2.2.2.1; omega, by simp only [List.length_append, List.length_cons, List.length_nil, List.length_map, wC_len p p.conds.length (Nat.le_refl _)]; have := hp.2.1; have := hp.2.2.2.1; omega⟩, ?_⟩
    refine hK _ _ (by kernel_rfl) ?_
    clear hK K
    show WP _ _ _ _ _ _
    refine WP.seq ?_
    refine WP.sr [1, 3, 45] (by kernel_rfl) fun K hK => ?_
    simp (decide := true) only [W, Pr_prog, t_fldD_36_4, t_szD_3, t_aggD_3, q2, q3, map1, map2, map4, mapL, ↓reduceIte, Int.reduceToNat]
    refine hK _ _ ?_
    clear hK K
    refine WP.cond (b := _) rfl (fun q4 => ?_) (fun q4 => ?_)
    ·
     refine WP.region (by kernel_rfl) fun K hK => ?_
     simp (decide := true) only [W, Pr_prog, t_fldD_36_4, t_szD_3, t_aggD_3, q2, q3, q4, map1, map2, map4, mapL, ↓reduceIte, Int.reduceToNat]
     refine CallK.pure (c_int p.lvl hp.2.2.2.2.2.2.2.1.1 hp.2.2.2.2.2.2.2.1.2) rfl rfl (by simp [-List.map_take]) ?_
     simp (decide := true) only [W, Pr_prog, t_elemD_34, t_okElem_9, q2, q3, q4, map1, map2, map4, mapL, ↓reduceIte, Int.reduceToNat]
     refine ⟨⟨by simp only [List.length_append, List.length_cons, List.length_nil, List.length_map, wC_len p p.conds.length (Nat.le_refl _)]; have := hp.2.1; have := hp.2.2.2.1; omega, by simp only [List.length_append, List.length_cons, List.length_nil, List.length_map, wC_len p p.conds.length (Nat.le_refl _)]; have := hp.2.1; have := hp.2.2.2.1; omega⟩, ?_⟩
     refine hK _ _ ?_
     clear hK K
     show WP _ _ _ _ _ _
     refine WP.seq ?_
     refine WP.sr [1, 3, 54] (by kernel_rfl) fun K hK => ?_
     simp (decide := true) only [W, Pr_prog, t_fldD_36_5, t_szD_3, t_aggD_3, q2, q3, q4, map1, map2, map4, mapL, ↓reduceIte, Int.reduceToNat]
     refine hK _ _ ?_
     clear hK K
     refine WP.cond (b := _) rfl (fun q5 => ?_) (fun q5 => ?_)
     ·
      refine WP.region (by kernel_rfl) fun K hK => ?_
      simp (decide := true) only [W, Pr_prog, t_fldD_36_5, t_szD_3, t_aggD_3, q2, q3, q4, q5, map1, map2, map4, mapL, ↓reduceIte, Int.reduceToNat]
      refine CallK.pure (c_int p.age hp.2.2.2.2.2.2.2.2.1 hp.2.2.2.2.2.2.2.2.2) rfl rfl (by simp [-List.map_take]) ?_
      simp (decide := true) only [W, Pr_prog, t_elemD_34, t_okElem_9, q2, q3, q4, q5, map1, map2, map4, mapL, ↓reduceIte, Int.reduceToNat]
      refine ⟨⟨by simp only [List.length_append, List.length_cons, List.length_nil, List.length_map, wC_len p p.conds.length (Nat.le_refl _)]; have := hp.2.1; have := hp.2.2.2.1; omega, by simp only [List.length_append, List.length_cons, List.length_nil, List.length_map, wC_len p p.conds.length (Nat.le_refl _)]; have := hp.2.1; have := hp.2.2.2.1; omega⟩, ?_⟩
      refine hK _ _ ?_
      clear hK K
      show WP _ _ _ _ _ _
      refine WP.sr [2] (by kernel_rfl) fun K hK => ?_
      simp (decide := true) only [W, Pr_prog, q2, q3, q4, q5, map1, map2, map4, mapL, ↓reduceIte, Int.reduceToNat]
      have hW : lineW p = (wC p p.conds.length ++ [[115, 99, 111, 112, 101, 115]] ++ p.scopes ++ [[108, 101, 118, 101, 108], Lib.itoa p.lvl] ++ [[97, 103, 101], Lib.itoa p.age]) := by simp (decide := true) only [lineW, W, q2, q3, q4, q5, ↓reduceIte]; try simp
      have hWl := lineW_len p hp
      have hWj := lineB_len p hp
      unfold lineB at hWj
      rw [hW] at hWl hWj
      refine CallK.pure (lib_join (wC p p.conds.length ++ [[115, 99, 111, 112, 101, 115]] ++ p.scopes ++ [[108, 101, 118, 101, 108], Lib.itoa p.lvl] ++ [[97, 103, 101], Lib.itoa p.age]) false [32] (by omega) (by omega)) rfl rfl (by simp [-List.map_append]) ?_
      simp (decide := true) only [W, Pr_prog, q2, q3, q4, q5, map1, map2, map4, mapL, ↓reduceIte, Int.reduceToNat]
      refine hK _ _ ?_
      clear hK K
      refine WP.ret ?_
      exact Ends.pure (.inr rfl) rfl (Le.of_eq (by first | (simp (decide := true) only [St.get, lk, W, lineB, q2, q3, q4, q5, ↓reduceIte]; done) | (simp [St.get, lk, W, bne, lineB, q2, q3, q4, q5]; done) | (simp_all [St.get, lk, W, LN, bne, lineB]; done) | (simp_all [St.get, lk, W, LN, bne, lineB]; intros; first | omega | (rw [Bool.eq_iff_iff]; simp; try omega)))) (by simp)
     ·
      refine WP.skip ?_
      show WP _ _ _ _ _ _
      refine WP.sr [2] (by kernel_rfl) fun K hK => ?_
      simp (decide := true) only [W, Pr_prog, q2, q3, q4, q5, map1, map2, map4, mapL, ↓reduceIte, Int.reduceToNat]
      have hW : lineW p = (wC p p.conds.length ++ [[115, 99, 111, 112, 101, 115]] ++ p.scopes ++ [[108, 101, 118, 101, 108], Lib.itoa p.lvl]) := by simp (decide := true) only [lineW, W, q2, q3, q4, q5, ↓reduceIte]; try simp
      have hWl := lineW_len p hp
      have hWj := lineB_len p hp
      unfold lineB at hWj
      rw [hW] at hWl hWj
      refine CallK.pure (lib_join (wC p p.conds.length ++ [[115, 99, 111, 112, 101, 115]] ++ p.scopes ++ [[108, 101, 118, 101, 108], Lib.itoa p.lvl]) false [32] (by omega) (by omega)) rfl rfl (by simp [-List.map_append]) ?_
      simp (decide := true) only [W, Pr_prog, q2, q3, q4, q5, map1, map2, map4, mapL, ↓reduceIte, Int.reduceToNat]
      refine hK _ _ ?_
      clear hK K
      refine WP.ret ?_
      exact Ends.pure (.inr rfl) rfl (Le.of_eq (by first | (simp (decide := true) only [St.get, lk, W, lineB, q2, q3, q4, q5, ↓reduceIte]; done) | (simp [St.get, lk, W, bne, lineB, q2, q3, q4, q5]; done) | (simp_all [St.get, lk, W, LN, bne, lineB]; done) | (simp_all [St.get, lk, W, LN, bne, lineB]; intros; first | omega | (rw [Bool.eq_iff_iff]; simp; try omega)))) (by simp)
    ·
     refine WP.skip ?_
     show WP _ _ _ _ _ _
     refine WP.seq ?_
     refine WP.sr [1, 3, 54] (by kernel_rfl) fun K hK => ?_
     simp (decide := true) only [W, Pr_prog, t_fldD_36_5, t_szD_3, t_aggD_3, q2, q3, q4, map1, map2, map4, mapL, ↓reduceIte, Int.reduceToNat]
     refine hK _ _ ?_
     clear hK K
     refine WP.cond (b := _) rfl (fun q6 => ?_) (fun q6 => ?_)
     ·
      refine WP.region (by kernel_rfl) fun K hK => ?_
      simp (decide := true) only [W, Pr_prog, t_fldD_36_5, t_szD_3, t_aggD_3, q2, q3, q4, q6, map1, map2, map4, mapL, ↓reduceIte, Int.reduceToNat]
      refine CallK.pure (c_int p.age hp.2.2.2.2.2.2.2.2.1 hp.2.2.2.2.2.2.2.2.2) rfl rfl (by simp [-List.map_take]) ?_
      simp (decide := true) only [W, Pr_prog, t_elemD_34, t_okElem_9, q2, q3, q4, q6, map1, map2, map4, mapL, ↓reduceIte, Int.reduceToNat]
      refine ⟨⟨by simp only [List.length_append, List.length_cons, List.length_nil, List.length_map, wC_len p p.conds.length (Nat.le_refl _)]; have := hp.2.1; have := hp.2.2.2.1; omega, by simp only [List.length_append, List.length_cons, List.length_nil, List.length_map, wC_len p p.conds.length (Nat.le_refl _)]; have := hp.2.1; have := hp.2.2.2.1; omega⟩, ?_⟩
      refine hK _ _ ?_
      clear hK K
      show WP _ _ _ _ _ _
      refine WP.sr [2] (by kernel_rfl) fun K hK => ?_
      simp (decide := true) only [W, Pr_prog, q2, q3, q4, q6, map1, map2, map4, mapL, ↓reduceIte, Int.reduceToNat]
      have hW : lineW p = (wC p p.conds.length ++ [[115, 99, 111, 112, 101, 115]] ++ p.scopes ++ [[97, 103, 101], Lib.itoa p.age]) := by simp (decide := true) only [lineW, W, q2, q3, q4, q6, ↓reduceIte]; try simp
      have hWl := lineW_len p hp
      have hWj := lineB_len p hp
      unfold lineB at hWj
      rw [hW] at hWl hWj
      refine CallK.pure (lib_join (wC p p.conds.length ++ [[115, 99, 111, 112, 101, 115]] ++ p.scopes ++ [[97, 103, 101], Lib.itoa p.age]) false [32] (by omega) (by omega)) rfl rfl (by simp [-List.map_append]) ?_
      simp (decide := true) only [W, Pr_prog, q2, q3, q4, q6, map1, map2, map4, mapL, ↓reduceIte, Int.reduceToNat]
      refine hK _ _ ?_
      clear hK K
      refine WP.ret ?_
      exact Ends.pure (.inr rfl) rfl (Le.of_eq (by first | (simp (decide := true) only [St.get, lk, W, lineB, q2, q3, q4, q6, ↓reduceIte]; done) | (simp [St.get, lk, W, bne, lineB, q2, q3, q4, q6]; done) | (simp_all [St.get, lk, W, LN, bne, lineB]; done) | (simp_all [St.get, lk, W, LN, bne, lineB]; intros; first | omega | (rw [Bool.eq_iff_iff]; simp; try omega)))) (by simp)
     ·
      refine WP.skip ?_
      show WP _ _ _ _ _ _
      refine WP.sr [2] (by kernel_rfl) fun K hK => ?_
      simp (decide := true) only [W, Pr_prog, q2, q3, q4, q6, map1, map2, map4, mapL, ↓reduceIte, Int.reduceToNat]
      have hW : lineW p = (wC p p.conds.length ++ [[115, 99, 111, 112, 101, 115]] ++ p.scopes) := by simp (decide := true) only [lineW, W, q2, q3, q4, q6, ↓reduceIte]; try simp
      have hWl := lineW_len p hp
      have hWj := lineB_len p hp
      unfold lineB at hWj
      rw [hW] at hWl hWj
      refine CallK.pure (lib_join (wC p p.conds.length ++ [[115, 99, 111, 112, 101, 115]] ++ p.scopes) false [32] (by omega) (by omega)) rfl rfl (by simp [-List.map_append]) ?_
      simp (decide := true) only [W, Pr_prog, q2, q3, q4, q6, map1, map2, map4, mapL, ↓reduceIte, Int.reduceToNat]
      refine hK _ _ ?_
      clear hK K
      refine WP.ret ?_
      exact Ends.pure (.inr rfl) rfl (Le.of_eq (by first | (simp (decide := true) only [St.get, lk, W, lineB, q2, q3, q4, q6, ↓reduceIte]; done) | (simp [St.get, lk, W, bne, lineB, q2, q3, q4, q6]; done) | (simp_all [St.get, lk, W, LN, bne, lineB]; done) | (simp_all [St.get, lk, W, LN, bne, lineB]; intros; first | omega | (rw [Bool.eq_iff_iff]; simp; try omega)))) (by simp)
   ·
    refine WP.skip ?_
    show WP _ _ _ _ _ _
    refine WP.seq ?_
    refine WP.sr [1, 3, 45] (by kernel_rfl) fun K hK => ?_
    simp (decide := true) only [W, Pr_prog, t_fldD_36_4, t_szD_3, t_aggD_3, q2, q3, map1, map2, map4, mapL, ↓reduceIte, Int.reduceToNat]
    refine hK _ _ ?_
    clear hK K
    refine WP.cond (b := _) rfl (fun q7 => ?_) (fun q7 => ?_)
    ·
     refine WP.region (by kernel_rfl) fun K hK => ?_
     simp (decide := true) only [W, Pr_prog, t_fldD_36_4, t_szD_3, t_aggD_3, q2, q3, q7, map1, map2, map4, mapL, ↓reduceIte, Int.reduceToNat]
     refine CallK.pure (c_int p.lvl hp.2.2.2.2.2.2.2.1.1 hp.2.2.2.2.2.2.2.1.2) rfl rfl (by simp [-List.map_take]) ?_
     simp (decide := true) only [W, Pr_prog, t_elemD_34, t_okElem_9, q2, q3, q7, map1, map2, map4, mapL, ↓reduceIte, Int.reduceToNat]
     refine ⟨⟨by simp only [List.length_append, List.length_cons, List.length_nil, List.length_map, wC_len p p.conds.length (Nat.le_refl _)]; have := hp.2.1; have := hp.2.2.2.1; omega, by simp only [List.length_append, List.length_cons, List.length_nil, List.length_map, wC_len p p.conds.length (Nat.le_refl _)]; have := hp.2.1; have := hp.2.2.2.1; omega⟩, ?_⟩
     refine hK _ _ ?_
     clear hK K
     show WP _ _ _ _ _ _
     refine WP.seq ?_
     refine WP.sr [1, 3, 54] (by kernel_rfl) fun K hK => ?_
     simp (decide := true) only [W, Pr_prog, t_fldD_36_5, t_szD_3, t_aggD_3, q2, q3, q7, map1, map2, map4, mapL, ↓reduceIte, Int.reduceToNat]
     refine hK _ _ ?_
     clear hK K
     refine WP.cond (b := _) rfl (fun q8 => ?_) (fun q8 => ?_)
     ·
      refine WP.region (by kernel_rfl) fun K hK => ?_
      simp (decide := true) only [W, Pr_prog, t_fldD_36_5, t_szD_3, t_aggD_3, q2, q3, q7, q8, map1, map2, map4, mapL, ↓reduceIte, Int.reduceToNat]
      refine CallK.pure (c_int p.age hp.2.2.2.2.2.2.2.2.1 hp.2.2.2.2.2.2.2.2.2) rfl rfl (by simp [-List.map_take]) ?_
      simp (decide := true) only [W, Pr_prog, t_elemD_34, t_okElem_9, q2, q3, q7, q8, map1, map2, map4, mapL, ↓reduceIte, Int.reduceToNat]
      refine ⟨⟨by simp only [List.length_append, List.length_cons, List.length_nil, List.length_map, wC_len p p.conds.length (Nat.le_refl _)]; have := hp.2.1; have := hp.2.2.2.1; omega, by simp only [List.length_append, List.length_cons, List.length_nil, List.length_map, wC_len p p.conds.length (Nat.le_refl _)]; have := hp.2.1; have := hp.2.2.2.1; omega⟩, ?_⟩
      refine hK _ _ ?_
      clear hK K
      show WP _ _ _ _ _ _
      refine WP.sr [2] (by kernel_rfl) fun K hK => ?_
      simp (decide := true) only [W, Pr_prog, q2, q3, q7, q8, map1, map2, map4, mapL, ↓reduceIte, Int.reduceToNat]
      have hW : lineW p = (wC p p.conds.length ++ [[108, 101, 118, 101, 108], Lib.itoa p.lvl] ++ [[97, 103, 101], Lib.itoa p.age]) := by simp (decide := true) only [lineW, W, q2, q3, q7, q8, ↓reduceIte]; try simp
      have hWl := lineW_len p hp
      have hWj := lineB_len p hp
      unfold lineB at hWj
      rw [hW] at hWl hWj
      refine CallK.pure (lib_join (wC p p.conds.length ++ [[108, 101, 118, 101, 108], Lib.itoa p.lvl] ++ [[97, 103, 101], Lib.itoa p.age]) false [32] (by omega) (by omega)) rfl rfl (by simp [-List.map_append]) ?_
      simp (decide := true) only [W, Pr_prog, q2, q3, q7, q8, map1, map2, map4, mapL, ↓reduceIte, Int.reduceToNat]
      refine hK _ _ ?_
      clear hK K
      refine WP.ret ?_
      exact Ends.pure (.inr rfl) rfl (Le.of_eq (by first | (simp (decide := true) only [St.get, lk, W, lineB, q2, q3, q7, q8, ↓reduceIte]; done) | (simp [St.get, lk, W, bne, lineB, q2, q3, q7, q8]; done) | (simp_all [St.get, lk, W, LN, bne, lineB]; done) | (simp_all [St.get, lk, W, LN, bne, lineB]; intros; first | omega | (rw [Bool.eq_iff_iff]; simp; try omega)))) (by simp)
     ·
      refine WP.skip ?_
      show WP _ _ _ _ _ _
      refine WP.sr [2] (by kernel_rfl) fun K hK => ?_
      simp (decide := true) only [W, Pr_prog, q2, q3, q7, q8, map1, map2, map4, mapL, ↓reduceIte, Int.reduceToNat]
      have hW : lineW p = (wC p p.conds.length ++ [[108, 101, 118, 101, 108], Lib.itoa p.lvl]) := by simp (decide := true) only [lineW, W, q2, q3, q7, q8, ↓reduceIte]; try simp
      have hWl := lineW_len p hp
      have hWj := lineB_len p hp
      unfold lineB at hWj
      rw [hW] at hWl hWj
      refine CallK.pure (lib_join (wC p p.conds.length ++ [[108, 101, 118, 101, 108], Lib.itoa p.lvl]) false [32] (by omega) (by omega)) rfl rfl (by simp [-List.map_append]) ?_
      simp (decide := true) only [W, Pr_prog, q2, q3, q7, q8, map1, map2, map4, mapL, ↓reduceIte, Int.reduceToNat]
      refine hK _ _ ?_
      clear hK K
      refine WP.ret ?_
      exact Ends.pure (.inr rfl) rfl (Le.of_eq (by first | (simp (decide := true) only [St.get, lk, W, lineB, q2, q3, q7, q8, ↓reduceIte]; done) | (simp [St.get, lk, W, bne, lineB, q2, q3, q7, q8]; done) | (simp_all [St.get, lk, W, LN, bne, lineB]; done) | (simp_all [St.get, lk, W, LN, bne, lineB]; intros; first | omega | (rw [Bool.eq_iff_iff]; simp; try omega)))) (by simp)
    ·
     refine WP.skip ?_
     show WP _ _ _ _ _ _
     refine WP.seq ?_
     refine WP.sr [1, 3, 54] (by kernel_rfl) fun K hK => ?_
     simp (decide := true) only [W, Pr_prog, t_fldD_36_5, t_szD_3, t_aggD_3, q2, q3, q7, map1, map2, map4, mapL, ↓reduceIte, Int.reduceToNat]
     refine hK _ _ ?_
     clear hK K
     refine WP.cond (b := _) rfl (fun q9 => ?_) (fun q9 => ?_)
     ·
      refine WP.region (by kernel_rfl) fun K hK => ?_
      simp (decide := true) only [W, Pr_prog, t_fldD_36_5, t_szD_3, t_aggD_3, q2, q3, q7, q9, map1, map2, map4, mapL, ↓reduceIte, Int.reduceToNat]
      refine CallK.pure (c_int p.age hp.2.2.2.2.2.2.2.2.1 hp.2.2.2.2.2.2.2.2.2) rfl rfl (by simp [-List.map_take]) ?_
      simp (decide := true) only [W, Pr_prog, t_elemD_34, t_okElem_9, q2, q3, q7, q9, map1, map2, map4, mapL, ↓reduceIte, Int.reduceToNat]
      refine ⟨⟨by simp only [List.length_append, List.length_cons, List.length_nil, List.length_map, wC_len p p.conds.length (Nat.le_refl _)]; have := hp.2.1; have := hp.2.2.2.1; omega, by simp only [List.length_append, List.length_cons, List.length_nil, List.length_map, wC_len p p.conds.length (Nat.le_refl _)]; have := hp.2.1; have := hp.2.2.2.1; omega⟩, ?_⟩
      refine hK _ _ ?_
      clear hK K
      show WP _ _ _ _ _ _
      refine WP.sr [2] (by kernel_rfl) fun K hK => ?_
      simp (decide := true) only [W, Pr_prog, q2, q3, q7, q9, map1, map2, map4, mapL, ↓reduceIte, Int.reduceToNat]
      have hW : lineW p = (wC p p.conds.length ++ [[97, 103, 101], Lib.itoa p.age]) := by simp (decide := true) only [lineW, W, q2, q3, q7, q9, ↓reduceIte]; try simp
      have hWl := lineW_len p hp
      have hWj := lineB_len p hp
      unfold lineB at hWj
      rw [hW] at hWl hWj
      refine CallK.pure (lib_join (wC p p.conds.length ++ [[97, 103, 101], Lib.itoa p.age]) false [32] (by omega) (by omega)) rfl rfl (by simp [-List.map_append]) ?_
      simp (decide := true) only [W, Pr_prog, q2, q3, q7, q9, map1, map2, map4, mapL, ↓reduceIte, Int.reduceToNat]
      refine hK _ _ ?_
      clear hK K
      refine WP.ret ?_
      exact Ends.pure (.inr rfl) rfl (Le.of_eq (by first | (simp (decide := true) only [St.get, lk, W, lineB, q2, q3, q7, q9, ↓reduceIte]; done) | (simp [St.get, lk, W, bne, lineB, q2, q3, q7, q9]; done) | (simp_all [St.get, lk, W, LN, bne, lineB]; done) | (simp_all [St.get, lk, W, LN, bne, lineB]; intros; first | omega | (rw [Bool.eq_iff_iff]; simp; try omega)))) (by simp)
     ·
      refine WP.skip ?_
      show WP _ _ _ _ _ _
      refine WP.sr [2] (by kernel_rfl) fun K hK => ?_
      simp (decide := true) only [W, Pr_prog, q2, q3, q7, q9, map1, map2, map4, mapL, ↓reduceIte, Int.reduceToNat]
      have hW : lineW p = (wC p p.conds.length) := by simp (decide := true) only [lineW, W, q2, q3, q7, q9, ↓reduceIte]; try simp
      have hWl := lineW_len p hp
      have hWj := lineB_len p hp
      unfold lineB at hWj
      rw [hW] at hWl hWj
      refine CallK.pure (lib_join (wC p p.conds.length) false [32] (by omega) (by omega)) rfl rfl (by simp [-List.map_append]) ?_
      simp (decide := true) only [W, Pr_prog, q2, q3, q7, q9, map1, map2, map4, mapL, ↓reduceIte, Int.reduceToNat]
      refine hK _ _ ?_
      clear hK K
      refine WP.ret ?_
      exact Ends.pure (.inr rfl) rfl (Le.of_eq (by first | (simp (decide := true) only [St.get, lk, W, lineB, q2, q3, q7, q9, ↓reduceIte]; done) | (simp [St.get, lk, W, bne, lineB, q2, q3, q7, q9]; done) | (simp_all [St.get, lk, W, LN, bne, lineB]; done) | (simp_all [St.get, lk, W, LN, bne, lineB]; intros; first | omega | (rw [Bool.eq_iff_iff]; simp; try omega)))) (by simp)
theorem c_text (l : List Rule) (nl : Bool) (hn : l.length ≤ 1099511627776) (hnl : nl = true → l = []) (hl : ∀ p ∈ l, p.sm) : CallP Pr 13 [.slice 6 nl (l.map Rule.cs) none] (textD l) := by
 refine CallP.of_wp Tryz.func13 rfl (by kernel_rfl) Tryz.ntmps13 (by simp) ?_
 simp only [frameOf, Nat.reduceAdd, Nat.zero_add]
 refine WP.sr [0] (by kernel_rfl) fun K hK => ?_
 simp (decide := true) only [W, Pr_prog, ↓reduceIte, Int.reduceToNat]
 refine hK _ _ ?_
 clear hK K
 refine WP.seq ?_
 refine WP.sr [0, 4] (by kernel_rfl) fun K hK => ?_
 simp (decide := true) only [W, Pr_prog, ↓reduceIte, Int.reduceToNat]
 refine CallK.pure (c_check l nl hn hnl (fun p hp => (hl p hp).ok)) rfl rfl (by simp [-List.map_take]) ?_
 simp (decide := true) only [W, Pr_prog, ↓reduceIte, Int.reduceToNat]
 refine hK _ _ ?_
 clear hK K
 refine WP.sr [0, 4, 11] (by kernel_rfl) fun K hK => ?_
 simp (decide := true) only [W, Pr_prog, ↓reduceIte, Int.reduceToNat]
 refine hK _ _ ?_
 clear hK K
 refine WP.cond (b := _) rfl (fun q1 => ?_) (fun q1 => ?_)
 ·
  refine WP.sr [2, 3] (by kernel_rfl) fun K hK => ?_
  simp (decide := true) only [W, Pr_prog, q1, ↓reduceIte, Int.reduceToNat]
  refine hK _ _ ?_
  clear hK K
  refine WP.ret ?_
  exact Ends.pure (d := .tup [_, _]) (.inr rfl) rfl (Le.of_eq (by first | (simp (decide := true) only [St.get, lk, W, textD, q1, ↓reduceIte]; done) | (simp [St.get, lk, W, bne, textD, q1]; done) | (simp_all [St.get, lk, W, LN, bne, textD]; done) | (simp_all [St.get, lk, W, LN, bne, textD]; intros; first | omega | (rw [Bool.eq_iff_iff]; simp; try omega)))) (by simp)
 ·
  have h0 : checkE l = 0 := by simpa using q1
  have h64 := check_64 h0
  have htx := textB_take l hl
  refine WP.skip ?_
  show WP _ _ _ _ _ _
  refine WP.sr [0, 5] (by kernel_rfl) fun K hK => ?_
  simp (decide := true) only [W, Pr_prog, t_zeroD_58, q1, h0, ↓reduceIte, Int.reduceToNat]
  refine hK _ _ ?_
  clear hK K
  refine WP.seq ?_
  refine WP.sr [5, 13, 14, 15] (by kernel_rfl) fun K hK => ?_
  simp (decide := true) only [W, Pr_prog, t_isStr_22, t_isSliceT_22, q1, h0, ↓reduceIte, Int.reduceToNat]
  refine hK _ _ ?_
  clear hK K
  refine WP.block ?_
  refine WP.lp [5, 13, 14] (X := {x : (Nat) × (Bool) // match x with | (k, a) => k ≤ l.length}) (fun x => match x with | ⟨(k, a), _⟩ => [(15, .int .i64 k)]) (fun x => match x with | ⟨(k, a), _⟩ => [(0, .box 58 [adr a 0, .slice 1 (textB (l.take k)).isEmpty (u8s (textB (l.take k))) (some 1)]), (1, .tip 5 1 (textB (l.take k)).length)]) (fun x => match x with | ⟨(k, a), _⟩ => l.length - k) (by simp (decide := true) only [W, ↓reduceIte, Int.reduceToNat]; rfl) ?_ ⟨(0, true), Nat.zero_le _⟩ ?_
  rotate_left
  · refine Weak.trans (Weak.ghost 1 5 1 (σ' := [(0, .box 58 [.nilptr, .slice 1 true [] (some 1)])]) (by simp [lk, W]) (UpF.refl _ _ _) (by simp [UpS, UpB, UpL, UpD])) ?_; exact Weak.store (by simp [St.get, lk, W, Le.refl, q1, h0, textB]) (by simp [lk, W, adr_true, u8s, textB]) (by simp [lk]) (by simp [BClo, lk, u8s]) (by simp)
  rintro ⟨⟨k, a⟩, hk⟩
  dsimp only
  simp only [List.cons_append, List.nil_append]
  dsimp only at hk
  refine WP.sr [5, 13, 14, 15, 16] (by kernel_rfl) fun K hK => ?_
  simp (decide := true) only [W, Pr_prog, q1, h0, ↓reduceIte, Int.reduceToNat]
  refine hK _ _ ?_
  clear hK K
  refine WP.seq ?_
  refine WP.cond (b := _) rfl (fun q2 => ?_) (fun q2 => ?_)
  ·
   have hlt := lt_of_q q2
   have hg : (l.map Rule.cs)[k]? = some [.str l[k].name, .bool l[k].deny, .slice 3 l[k].nc (l[k].conds.map Cond.cs) none, .slice 1 l[k].ns (l[k].scopes.map fun x => [.str x]) none, .int .i64 l[k].lvl, .int .i64 l[k].age] := getM hlt
   have hnf := nl_false hnl hlt
   have hp := hl _ (List.getElem_mem hlt)
   have hll := lineB_len l[k] hp
   have hnx := textB_next l k hlt
   have htk := htx k (by omega)
   refine WP.skip ?_
   show WP _ _ _ _ _ _
   refine WP.seq ?_
   refine WP.block ?_
   refine WP.sr [5, 7, 13, 14, 15] (by kernel_rfl) fun K hK => ?_
   simp (decide := true) only [W, Pr_prog, t_elemD_22, t_szD_36, t_aggD_36, t_zeroD_36, q1, h0, q2, hg, hnf, ↓reduceIte, Int.reduceToNat]
   refine hK _ _ ?_
   clear hK K
   refine WP.region (by kernel_rfl) fun K hK => ?_
   simp (decide := true) only [W, Pr_prog, t_szD_36, t_aggD_36, q1, h0, q2, hg, hnf, ↓reduceIte, Int.reduceToNat]
   refine CallK.pure (c_line l[k] hp) rfl rfl (by simp [-List.map_take]) ?_
   simp (decide := true) only [W, Pr_prog, q1, h0, q2, hg, hnf, ↓reduceIte, Int.reduceToNat]
   refine ⟨by first | omega | (simp only [List.length_append, List.length_cons, List.length_nil]; omega), ?_⟩
   refine CallK.imp (bld_ws 0 1 (by decide) a (textB (l.take k)).isEmpty (textB (l.take k)) (lineB l[k] ++ [10]) (by simp only [List.length_append, List.length_cons, List.length_nil]; omega)) rfl rfl (by simp [lk, BClo, adr_false]) (by simp [lk]) (by simp [lk]) ?_
   simp (decide := true) only [W, Pr_prog, q1, h0, q2, hg, hnf, ↓reduceIte, Int.reduceToNat]
   refine hK _ _ ?_
   clear hK K
   show WP _ _ _ _ _ _
   refine WP.region (by kernel_rfl) fun K hK => ?_
   simp (decide := true) only [W, Pr_prog, q1, h0, q2, hg, hnf, ↓reduceIte, Int.reduceToNat]
   refine hK _ _ ?_
   clear hK K
   show ∃ y, _ ∧ Weak _ _ _
   refine ⟨⟨(k + 1, false), ?_⟩, ?_, ?_⟩
   · show k + 1 ≤ l.length; omega
   · dsimp only; omega
   · exact Weak.store (by simp [St.get, lk, W, Le.refl, q1, h0, q2, hg, hnf, hnx, wrapS hlt (show l.length ≤ 140737488355328 by omega)]) (by simp [lk, W, adr_false, q1, h0, q2, hg, hnf, hnx, isE_app]) (by simp [lk]) (by simp [BClo, lk]) (by simp)
  ·
   have hge := ge_of_q q2
   obtain rfl : k = l.length := by omega
   have htk := htx l.length h64
   rw [List.take_length] at htk ⊢
   refine WP.exit ?_
   show WP _ _ _ _ _ _
   refine WP.seq ?_
   refine WP.sr [5, 25] (by kernel_rfl) fun K hK => ?_
   simp (decide := true) only [W, Pr_prog, q1, h0, q2, ↓reduceIte, Int.reduceToNat]
   refine CallK.imp (bld_len 0 1 (by decide) a (textB l).isEmpty (textB l)) rfl rfl (by simp [lk, BClo, adr_false]) (by simp [lk]) (by simp [lk]) ?_
   simp (decide := true) only [W, Pr_prog, q1, h0, q2, ↓reduceIte, Int.reduceToNat]
   refine hK _ _ ?_
   clear hK K
   refine WP.cond (b := _) rfl (fun q3 => ?_) (fun q3 => ?_)
   ·
    refine WP.sr [2, 3] (by kernel_rfl) fun K hK => ?_
    simp (decide := true) only [W, Pr_prog, q1, h0, q2, q3, ↓reduceIte, Int.reduceToNat]
    refine hK _ _ ?_
    clear hK K
    refine WP.ret ?_
    exact Ends.pure (d := .tup [_, _]) (.inr rfl) rfl (Le.of_eq (by first | (simp (decide := true) only [St.get, lk, W, textD, q1, h0, q2, q3, ↓reduceIte]; done) | (simp [St.get, lk, W, bne, textD, q1, h0, q2, q3]; done) | (simp_all [St.get, lk, W, LN, bne, textD]; done) | (simp_all [St.get, lk, W, LN, bne, textD]; intros; first | omega | (rw [Bool.eq_iff_iff]; simp; try omega)))) (by simp)
   ·
    refine WP.skip ?_
    show WP _ _ _ _ _ _
    refine WP.sr [2, 3] (by kernel_rfl) fun K hK => ?_
    simp (decide := true) only [W, Pr_prog, q1, h0, q2, q3, ↓reduceIte, Int.reduceToNat]
    refine CallK.imp (bld_str 0 1 (by decide) (adr a 0) (textB l)) rfl rfl (by simp [lk, BClo, adr_false]) (by simp [lk]) (by simp [lk]) ?_
    simp (decide := true) only [W, Pr_prog, q1, h0, q2, q3, ↓reduceIte, Int.reduceToNat]
    refine hK _ _ ?_
    clear hK K
    refine WP.ret ?_
    exact Ends.pure (d := .tup [_, _]) (.inr rfl) rfl (Le.of_eq (by first | (simp (decide := true) only [St.get, lk, W, textD, q1, h0, q2, q3, ↓reduceIte]; done) | (simp [St.get, lk, W, bne, textD, q1, h0, q2, q3]; done) | (simp_all [St.get, lk, W, LN, bne, textD]; done) | (simp_all [St.get, lk, W, LN, bne, textD]; intros; first | omega | (rw [Bool.eq_iff_iff]; simp; try omega)))) (by simp)
theorem c_r_line (p : Rule) (hp : p.sm) : CallP Pr 38 [.agg [.str p.name, .bool p.deny, .slice 3 p.nc (p.conds.map Cond.cs) none, .slice 1 p.ns (p.scopes.map fun x => [.str x]) none, .int .i64 p.lvl, .int .i64 p.age]] (.str (lineB p ++ [10])) := by
 have hpn := hp.1
 refine CallP.of_wp Tryz.func38 rfl (by kernel_rfl) Tryz.ntmps38 (by simp) ?_
 simp only [frameOf, Nat.reduceAdd, Nat.zero_add]
 refine WP.sr [1] (by kernel_rfl) fun K hK => ?_
 simp (decide := true) only [W, Pr_prog, ↓reduceIte, Int.reduceToNat]
 refine hK _ _ ?_
 clear hK K
 refine WP.sr [1, 3] (by kernel_rfl) fun K hK => ?_
 simp (decide := true) only [W, Pr_prog, t_fldD_36_0, t_szD_9, t_aggD_9, ↓reduceIte, Int.reduceToNat]
 refine ⟨by first | omega | (simp only [List.length_append, List.length_cons, List.length_nil]; omega), ?_⟩
 refine ⟨by first | omega | (simp only [List.length_append, List.length_cons, List.length_nil]; omega), ?_⟩
 refine hK _ _ ?_
 clear hK K
 refine WP.seq ?_
 refine WP.sr [1, 3, 12] (by kernel_rfl) fun K hK => ?_
 simp (decide := true) only [W, Pr_prog, t_fldD_36_1, t_szD_4, t_aggD_4, ↓reduceIte, Int.reduceToNat]
 refine hK _ _ ?_
 clear hK K
 refine WP.meetQ ⟨[(3, .str (Lib.join (wC p 0) [32])), (1, .ref 0 0)], [(0, .box 36 [.str p.name, .bool p.deny, .slice 3 p.nc (p.conds.map Cond.cs) none, .slice 1 p.ns (p.scopes.map fun x => [.str x]) none, .int .i64 p.lvl, .int .i64 p.age])]⟩ ?_ ?_
 ·
  refine WP.cond (b := _) rfl (fun q1 => ?_) (fun q1 => ?_)
  ·
   refine WP.region (by kernel_rfl) fun K hK => ?_
   simp (decide := true) only [W, Pr_prog, t_fldD_36_0, t_szD_9, t_aggD_9, q1, ↓reduceIte, Int.reduceToNat]
   refine ⟨by first | omega | (simp only [List.length_append, List.length_cons, List.length_nil]; omega), ?_⟩
   refine ⟨by first | omega | (simp only [List.length_append, List.length_cons, List.length_nil]; omega), ?_⟩
   refine hK _ _ ?_
   clear hK K
   show Weak _ _ _
   exact Weak.store (by simp [St.get, lk, W, Le.refl, wC_0, join_head, q1]) (by simp [lk, W, q1]) (by simp [lk, W]) (by simp [BClo, lk]) (by simp [lk])
  ·
   refine WP.skip ?_
   show Weak _ _ _
   exact Weak.store (by simp [St.get, lk, W, Le.refl, wC_0, join_head, q1]) (by simp [lk, W, q1]) (by simp [lk, W]) (by simp [BClo, lk]) (by simp [lk])
 ·
  refine WP.seq ?_
  refine WP.sr [1, 3, 4] (by kernel_rfl) fun K hK => ?_
  simp (decide := true) only [W, Pr_prog, ↓reduceIte, Int.reduceToNat]
  refine hK _ _ ?_
  clear hK K
  refine WP.block ?_
  refine WP.lp [1] (X := {k : Nat // k ≤ p.conds.length}) (fun x => match x with | ⟨(k), _⟩ => [(3, .str (Lib.join (wC p k) [32])), (4, .int .i64 k)]) (fun x => match x with | ⟨(k), _⟩ => [(0, .box 36 [.str p.name, .bool p.deny, .slice 3 p.nc (p.conds.map Cond.cs) none, .slice 1 p.ns (p.scopes.map fun x => [.str x]) none, .int .i64 p.lvl, .int .i64 p.age])]) (fun x => match x with | ⟨(k), _⟩ => p.conds.length - k) (by simp (decide := true) only [W, ↓reduceIte, Int.reduceToNat]; rfl) ?_ ⟨(0), Nat.zero_le _⟩ ?_
  rotate_left
  · exact Weak.store (by simp [St.get, lk, W, Le.refl, W]) (by simp [lk, W, W]) (by simp [lk, W]) (by simp [BClo, lk]) (by simp [lk])
  rintro ⟨k, hk⟩
  dsimp only
  simp only [List.cons_append, List.nil_append]
  refine WP.seq ?_
  refine WP.sr [1, 3, 4, 21] (by kernel_rfl) fun K hK => ?_
  simp (decide := true) only [W, Pr_prog, t_fldD_36_2, t_szD_33, t_aggD_33, t_isStr_33, t_isSliceT_33, ↓reduceIte, Int.reduceToNat]
  refine hK _ _ ?_
  clear hK K
  refine WP.cond (b := _) rfl (fun q2 => ?_) (fun q2 => ?_)
  ·
   have hlt := lt_of_q q2
   have hg : (p.conds.map Cond.cs)[k]? = some [.str p.conds[k].f, .str p.conds[k].op, .str p.conds[k].v] := getM hlt
   have hnf := nl_false hp.2.2.2.2.2.1 hlt
   have hc := hp.2.2.1 _ (List.getElem_mem hlt)
   have hnx := join_next p k hlt
   have hjl := joinC_len p hp k hk
   have hel := escB_len p.conds[k].v
   have hll := leadW_len k
   refine WP.skip ?_
   show WP _ _ _ _ _ _
   refine WP.seq ?_
   refine WP.block ?_
   refine WP.sr [1, 3, 4, 5] (by kernel_rfl) fun K hK => ?_
   simp (decide := true) only [W, Pr_prog, t_fldD_36_2, t_szD_33, t_aggD_33, t_elemD_33, t_szD_43, t_aggD_43, t_zeroD_43, q2, hg, hnf, ↓reduceIte, Int.reduceToNat]
   refine hK _ _ ?_
   clear hK K
   refine WP.seq ?_
   refine WP.sr [1, 3, 4, 5, 30] (by kernel_rfl) fun K hK => ?_
   simp (decide := true) only [W, Pr_prog, q2, hg, hnf, ↓reduceIte, Int.reduceToNat]
   refine hK _ _ ?_
   clear hK K
   refine WP.meetQ ⟨[(3, .str (Lib.join (wC p k) [32] ++ ([32] ++ leadW k ++ [32]))), (1, .ref 0 0), (4, .int .i64 k), (5, .ref 1 0)], [(0, .box 36 [.str p.name, .bool p.deny, .slice 3 p.nc (p.conds.map Cond.cs) none, .slice 1 p.ns (p.scopes.map fun x => [.str x]) none, .int .i64 p.lvl, .int .i64 p.age]), (1, .box 43 [.str p.conds[k].f, .str p.conds[k].op, .str p.conds[k].v])]⟩ ?_ ?_
   ·
    refine WP.cond (b := _) rfl (fun q3 => ?_) (fun q3 => ?_)
    ·
     have hkz : k = 0 := by simpa using q3
     refine WP.region (by kernel_rfl) fun K hK => ?_
     simp (decide := true) only [W, Pr_prog, q2, hg, hnf, q3, ↓reduceIte, Int.reduceToNat]
     refine ⟨by first | omega | (simp only [List.length_append, List.length_cons, List.length_nil]; omega), ?_⟩
     refine hK _ _ ?_
     clear hK K
     show Weak _ _ _
     exact Weak.store (by simp [St.get, lk, W, Le.refl, q2, hg, hnf, q3, leadW, hkz]) (by simp [lk, W, q2, hg, hnf, q3]) (by simp [lk, W]) (by simp [BClo, lk]) (by simp [lk])
    ·
     have hkz : ¬ k = 0 := by simpa using q3
     refine WP.region (by kernel_rfl) fun K hK => ?_
     simp (decide := true) only [W, Pr_prog, q2, hg, hnf, q3, ↓reduceIte, Int.reduceToNat]
     refine ⟨by first | omega | (simp only [List.length_append, List.length_cons, List.length_nil]; omega), ?_⟩
     refine hK _ _ ?_
     clear hK K
     show Weak _ _ _
     exact Weak.store (by simp [St.get, lk, W, Le.refl, q2, hg, hnf, q3, leadW, hkz]) (by simp [lk, W, q2, hg, hnf, q3]) (by simp [lk, W]) (by simp [BClo, lk]) (by simp [lk])
   ·
    refine WP.drawn (by kernel_rfl) (by kernel_rfl) fun K hK => ?_
    simp (decide := true) only [W, Pr_prog, t_fldD_43_0, t_szD_9, t_aggD_9, t_fldD_43_1, t_fldD_43_2, q2, hg, hnf, ↓reduceIte, Int.reduceToNat]
    refine ⟨by first | omega | (simp only [List.length_append, List.length_cons, List.length_nil]; omega), ?_⟩
    refine ⟨by first | omega | (simp only [List.length_append, List.length_cons, List.length_nil]; omega), ?_⟩
    refine ⟨by first | omega | (simp only [List.length_append, List.length_cons, List.length_nil]; omega), ?_⟩
    refine ⟨by first | omega | (simp only [List.length_append, List.length_cons, List.length_nil]; omega), ?_⟩
    refine CallK.pure (c_r_escape p.conds[k].v (by omega)) rfl rfl (by simp [-List.map_take]) ?_
    simp (decide := true) only [W, Pr_prog, q2, hg, hnf, ↓reduceIte, Int.reduceToNat]
    refine ⟨by first | omega | (simp only [List.length_append, List.length_cons, List.length_nil]; omega), ?_⟩
    refine hK _ _ (by kernel_rfl) ?_
    clear hK K
    show WP _ _ _ _ _ _
    refine WP.region (by kernel_rfl) fun K hK => ?_
    simp (decide := true) only [W, Pr_prog, q2, hg, hnf, ↓reduceIte, Int.reduceToNat]
    refine hK _ _ ?_
    clear hK K
    show ∃ y, _ ∧ Weak _ _ _
    refine ⟨⟨k + 1, ?_⟩, ?_, ?_⟩
    · show k + 1 ≤ p.conds.length; omega
    · dsimp only; omega
    · exact Weak.store (by simp [St.get, lk, W, Le.refl, q2, hg, hnf, hnx, wrapS hlt (show p.conds.length ≤ 140737488355328 by have := hp.2.1; omega)]) (by simp [lk, W, q2, hg, hnf]) (by simp [lk, W]) (by simp [BClo, lk]) (by simp [lk])
  ·
   have hge := ge_of_q q2
   obtain rfl : k = p.conds.length := by omega
   have hjl := joinC_len p hp _ hk
   refine WP.exit ?_
   show WP _ _ _ _ _ _
   refine WP.seq ?_
   refine WP.sr [1, 3, 51] (by kernel_rfl) fun K hK => ?_
   simp (decide := true) only [W, Pr_prog, t_fldD_36_3, t_szD_34, t_aggD_34, t_isStr_34, t_isSliceT_34, q2, ↓reduceIte, Int.reduceToNat]
   refine hK _ _ ?_
   clear hK K
   refine WP.cond (b := _) rfl (fun q4 => ?_) (fun q4 => ?_)
   ·
    have hpr : preJ p = Lib.join (wC p p.conds.length) [32] ++ [32, 115, 99, 111, 112, 101, 115] := by rw [preJ, if_pos q4]
    refine WP.region (by kernel_rfl) fun K hK => ?_
    simp (decide := true) only [W, Pr_prog, q2, q4, ↓reduceIte, Int.reduceToNat]
    refine ⟨by first | omega | (simp only [List.length_append, List.length_cons, List.length_nil]; omega), ?_⟩
    refine hK _ _ ?_
    clear hK K
    show WP _ _ _ _ _ _
    refine WP.seq ?_
    refine WP.sr [1, 3, 6] (by kernel_rfl) fun K hK => ?_
    simp (decide := true) only [W, Pr_prog, q2, q4, ↓reduceIte, Int.reduceToNat]
    refine hK _ _ ?_
    clear hK K
    refine WP.block ?_
    refine WP.lp [1] (X := {j : Nat // j ≤ p.scopes.length}) (fun x => match x with | ⟨(j), _⟩ => [(3, .str (preJ p ++ spS (p.scopes.take j))), (6, .int .i64 j)]) (fun x => match x with | ⟨(j), _⟩ => [(0, .box 36 [.str p.name, .bool p.deny, .slice 3 p.nc (p.conds.map Cond.cs) none, .slice 1 p.ns (p.scopes.map fun x => [.str x]) none, .int .i64 p.lvl, .int .i64 p.age])]) (fun x => match x with | ⟨(j), _⟩ => p.scopes.length - j) (by simp (decide := true) only [W, ↓reduceIte, Int.reduceToNat]; rfl) ?_ ⟨(0), Nat.zero_le _⟩ ?_
    rotate_left
    · exact Weak.store (by simp [St.get, lk, W, Le.refl, hpr, q2, q4, spS_nil]) (by simp [lk, W, q2, q4]) (by simp [lk, W]) (by simp [BClo, lk]) (by simp [lk])
    rintro ⟨j, hj⟩
    dsimp only
    simp only [List.cons_append, List.nil_append]
    refine WP.seq ?_
    refine WP.sr [1, 3, 6, 58] (by kernel_rfl) fun K hK => ?_
    simp (decide := true) only [W, Pr_prog, t_fldD_36_3, t_szD_34, t_aggD_34, t_isStr_34, t_isSliceT_34, q2, q4, ↓reduceIte, Int.reduceToNat]
    refine hK _ _ ?_
    clear hK K
    refine WP.cond (b := _) rfl (fun q5 => ?_) (fun q5 => ?_)
    ·
     have hlj := lt_of_q q5
     have hg : (p.scopes.map fun x => [D.str x])[j]? = some [.str p.scopes[j]] := getM hlj
     have hnf := nl_false hp.2.2.2.2.2.2.1 hlj
     have hsl := hp.2.2.2.2.1 _ (List.getElem_mem hlj)
     have hnx := flatS_next p.scopes j hlj
     have hfl := flatS_len p hp j
     have hpj := preJ_len p hp
     refine WP.skip ?_
     show WP _ _ _ _ _ _
     refine WP.seq ?_
     refine WP.block ?_
     refine WP.region (by kernel_rfl) fun K hK => ?_
     simp (decide := true) only [W, Pr_prog, t_fldD_36_3, t_szD_34, t_aggD_34, t_elemD_34, t_szD_9, t_aggD_9, q2, q4, q5, hg, hnf, ↓reduceIte, Int.reduceToNat]
     refine ⟨by first | omega | (simp only [List.length_append, List.length_cons, List.length_nil]; omega), ?_⟩
     refine ⟨by first | omega | (simp only [List.length_append, List.length_cons, List.length_nil]; omega), ?_⟩
     refine hK _ _ ?_
     clear hK K
     show WP _ _ _ _ _ _
     refine WP.region (by kernel_rfl) fun K hK => ?_
     simp (decide := true) only [W, Pr_prog, q2, q4, q5, hg, hnf, ↓reduceIte, Int.reduceToNat]
     refine hK _ _ ?_
     clear hK K
     show ∃ y, _ ∧ Weak _ _ _
     refine ⟨⟨j + 1, ?_⟩, ?_, ?_⟩
     · show j + 1 ≤ p.scopes.length; omega
     · dsimp only; omega
     · exact Weak.store (by simp [St.get, lk, W, Le.refl, q2, q4, q5, hg, hnf, hnx, wrapS hlj (show p.scopes.length ≤ 140737488355328 by have := hp.2.2.2.1; omega)]) (by simp [lk, W, q2, q4, q5, hg, hnf]) (by simp [lk, W]) (by simp [BClo, lk]) (by simp [lk])
    ·
     have hgj := ge_of_q q5
     obtain rfl : j = p.scopes.length := by omega
     have hfl := flatS_len p hp p.scopes.length
     have hpj := preJ_len p hp
     rw [List.take_length] at hfl ⊢
     have i1 := Lib.itoa_length_le p.lvl hp.2.2.2.2.2.2.2.1.1 hp.2.2.2.2.2.2.2.1.2
     have i2 := Lib.itoa_length_le p.age hp.2.2.2.2.2.2.2.2.1 hp.2.2.2.2.2.2.2.2.2
     refine WP.exit ?_
     show WP _ _ _ _ _ _
     refine WP.seq ?_
     refine WP.sr [1, 3, 71] (by kernel_rfl) fun K hK => ?_
     simp (decide := true) only [W, Pr_prog, t_fldD_36_4, t_szD_3, t_aggD_3, q2, q4, q5, ↓reduceIte, Int.reduceToNat]
     refine hK _ _ ?_
     clear hK K
     refine WP.cond (b := _) rfl (fun q6 => ?_) (fun q6 => ?_)
     ·
      refine WP.region (by kernel_rfl) fun K hK => ?_
      simp (decide := true) only [W, Pr_prog, t_fldD_36_4, t_szD_3, t_aggD_3, q2, q4, q5, q6, ↓reduceIte, Int.reduceToNat]
      refine ⟨by first | omega | (simp only [List.length_append, List.length_cons, List.length_nil]; omega), ?_⟩
      refine CallK.pure (c_r_int p.lvl hp.2.2.2.2.2.2.2.1.1 hp.2.2.2.2.2.2.2.1.2) rfl rfl (by simp [-List.map_take]) ?_
      simp (decide := true) only [W, Pr_prog, q2, q4, q5, q6, ↓reduceIte, Int.reduceToNat]
      refine ⟨by first | omega | (simp only [List.length_append, List.length_cons, List.length_nil]; omega), ?_⟩
      refine hK _ _ ?_
      clear hK K
      show WP _ _ _ _ _ _
      refine WP.seq ?_
      refine WP.sr [1, 3, 80] (by kernel_rfl) fun K hK => ?_
      simp (decide := true) only [W, Pr_prog, t_fldD_36_5, t_szD_3, t_aggD_3, q2, q4, q5, q6, ↓reduceIte, Int.reduceToNat]
      refine hK _ _ ?_
      clear hK K
      refine WP.cond (b := _) rfl (fun q7 => ?_) (fun q7 => ?_)
      ·
       refine WP.region (by kernel_rfl) fun K hK => ?_
       simp (decide := true) only [W, Pr_prog, t_fldD_36_5, t_szD_3, t_aggD_3, q2, q4, q5, q6, q7, ↓reduceIte, Int.reduceToNat]
       refine ⟨by first | omega | (simp only [List.length_append, List.length_cons, List.length_nil]; omega), ?_⟩
       refine CallK.pure (c_r_int p.age hp.2.2.2.2.2.2.2.2.1 hp.2.2.2.2.2.2.2.2.2) rfl rfl (by simp [-List.map_take]) ?_
       simp (decide := true) only [W, Pr_prog, q2, q4, q5, q6, q7, ↓reduceIte, Int.reduceToNat]
       refine ⟨by first | omega | (simp only [List.length_append, List.length_cons, List.length_nil]; omega), ?_⟩
       refine hK _ _ ?_
       clear hK K
       show WP _ _ _ _ _ _
       refine WP.sr [2] (by kernel_rfl) fun K hK => ?_
       simp (decide := true) only [W, Pr_prog, q2, q4, q5, q6, q7, ↓reduceIte, Int.reduceToNat]
       refine ⟨by first | omega | (simp only [List.length_append, List.length_cons, List.length_nil]; omega), ?_⟩
       refine hK _ _ ?_
       clear hK K
       refine WP.ret ?_
       exact Ends.pure (.inr rfl) rfl (Le.of_eq (by have hz := lineB_eq p; simp (decide := true) only [q2, q4, q5, q6, q7, ↓reduceIte, W] at hz; simp (decide := true) only [St.get, lk, W, hz]; simp [lk])) (by simp)
      ·
       refine WP.skip ?_
       show WP _ _ _ _ _ _
       refine WP.sr [2] (by kernel_rfl) fun K hK => ?_
       simp (decide := true) only [W, Pr_prog, q2, q4, q5, q6, q7, ↓reduceIte, Int.reduceToNat]
       refine ⟨by first | omega | (simp only [List.length_append, List.length_cons, List.length_nil]; omega), ?_⟩
       refine hK _ _ ?_
       clear hK K
       refine WP.ret ?_
       exact Ends.pure (.inr rfl) rfl (Le.of_eq (by have hz := lineB_eq p; simp (decide := true) only [q2, q4, q5, q6, q7, ↓reduceIte, W] at hz; simp (decide := true) only [St.get, lk, W, hz]; simp [lk])) (by simp)
     ·
      refine WP.skip ?_
      show WP _ _ _ _ _ _
      refine WP.seq ?_
      refine WP.sr [1, 3, 80] (by kernel_rfl) fun K hK => ?_
      simp (decide := true) only [W, Pr_prog, t_fldD_36_5, t_szD_3, t_aggD_3, q2, q4, q5, q6, ↓reduceIte, Int.reduceToNat]
      refine hK _ _ ?_
      clear hK K
      refine WP.cond (b := _) rfl (fun q8 => ?_) (fun q8 => ?_)
      ·
       refine WP.region (by kernel_rfl) fun K hK => ?_
       simp (decide := true) only [W, Pr_prog, t_fldD_36_5, t_szD_3, t_aggD_3, q2, q4, q5, q6, q8, ↓reduceIte, Int.reduceToNat]
       refine ⟨by first | omega | (simp only [List.length_append, List.length_cons, List.length_nil]; omega), ?_⟩
       refine CallK.pure (c_r_int p.age hp.2.2.2.2.2.2.2.2.1 hp.2.2.2.2.2.2.2.2.2) rfl rfl (by simp [-List.map_take]) ?_
       simp (decide := true) only [W, Pr_prog, q2, q4, q5, q6, q8, ↓reduceIte, Int.reduceToNat]
       refine ⟨by first | omega | (simp only [List.length_append, List.length_cons, List.length_nil]; omega), ?_⟩
       refine hK _ _ ?_
       clear hK K
       show WP _ _ _ _ _ _
       refine WP.sr [2] (by kernel_rfl) fun K hK => ?_
       simp (decide := true) only [W, Pr_prog, q2, q4, q5, q6, q8, ↓reduceIte, Int.reduceToNat]
       refine ⟨by first | omega | (simp only [List.length_append, List.length_cons, List.length_nil]; omega), ?_⟩
       refine hK _ _ ?_
       clear hK K
       refine WP.ret ?_
       exact Ends.pure (.inr rfl) rfl (Le.of_eq (by have hz := lineB_eq p; simp (decide := true) only [q2, q4, q5, q6, q8, ↓reduceIte, W] at hz; simp (decide := true) only [St.get, lk, W, hz]; simp [lk])) (by simp)
      ·
       refine WP.skip ?_
       show WP _ _ _ _ _ _
       refine WP.sr [2] (by kernel_rfl) fun K hK => ?_
       simp (decide := true) only [W, Pr_prog, q2, q4, q5, q6, q8, ↓reduceIte, Int.reduceToNat]
       refine ⟨by first | omega | (simp only [List.length_append, List.length_cons, List.length_nil]; omega), ?_⟩
       refine hK _ _ ?_
       clear hK K
       refine WP.ret ?_
       exact Ends.pure (.inr rfl) rfl (Le.of_eq (by have hz := lineB_eq p; simp (decide := true) only [q2, q4, q5, q6, q8, ↓reduceIte, W] at hz; simp (decide := true) only [St.get, lk, W, hz]; simp [lk])) (by simp)
   ·
    have hpr : preJ p = Lib.join (wC p p.conds.length) [32] := by rw [preJ, if_neg (by rw [q4]; decide)]; simp
    refine WP.skip ?_
    show WP _ _ _ _ _ _
    refine WP.seq ?_
    refine WP.sr [1, 3, 6] (by kernel_rfl) fun K hK => ?_
    simp (decide := true) only [W, Pr_prog, q2, q4, ↓reduceIte, Int.reduceToNat]
    refine hK _ _ ?_
    clear hK K
    refine WP.block ?_
    refine WP.lp [1] (X := {j : Nat // j ≤ p.scopes.length}) (fun x => match x with | ⟨(j), _⟩ => [(3, .str (preJ p ++ spS (p.scopes.take j))), (6, .int .i64 j)]) (fun x => match x with | ⟨(j), _⟩ => [(0, .box 36 [.str p.name, .bool p.deny, .slice 3 p.nc (p.conds.map Cond.cs) none, .slice 1 p.ns (p.scopes.map fun x => [.str x]) none, .int .i64 p.lvl, .int .i64 p.age])]) (fun x => match x with | ⟨(j), _⟩ => p.scopes.length - j) (by simp (decide := true) only [W, ↓reduceIte, Int.reduceToNat]; rfl) ?_ ⟨(0), Nat.zero_le _⟩ ?_
    rotate_left
    · exact Weak.store (by simp [St.get, lk, W, Le.refl, hpr, q2, q4, spS_nil]) (by simp [lk, W, q2, q4]) (by simp [lk, W]) (by simp [BClo, lk]) (by simp [lk])
    rintro ⟨j, hj⟩
    dsimp only
    simp only [List.cons_append, List.nil_append]
    refine WP.seq ?_
    refine WP.sr [1, 3, 6, 58] (by kernel_rfl) fun K hK => ?_
    simp (decide := true) only [W, Pr_prog, t_fldD_36_3, t_szD_34, t_aggD_34, t_isStr_34, t_isSliceT_34, q2, q4, ↓reduceIte, Int.reduceToNat]
    refine hK _ _ ?_
    clear hK K
    refine WP.cond (b := _) rfl (fun q9 => ?_) (fun q9 => ?_)
    ·
     have hlj := lt_of_q q9
     have hg : (p.scopes.map fun x => [D.str x])[j]? = some [.str p.scopes[j]] := getM hlj
     have hnf := nl_false hp.2.2.2.2.2.2.1 hlj
     have hsl := hp.2.2.2.2.1 _ (List.getElem_mem hlj)
     have hnx := flatS_next p.scopes j hlj
     have hfl := flatS_len p hp j
     have hpj := preJ_len p hp
     refine WP.skip ?_
     show WP _ _ _ _ _ _
     refine WP.seq ?_
     refine WP.block ?_
     refine WP.region (by kernel_rfl) fun K hK => ?_
     simp (decide := true) only [W, Pr_prog, t_fldD_36_3, t_szD_34, t_aggD_34, t_elemD_34, t_szD_9, t_aggD_9, q2, q4, q9, hg, hnf, ↓reduceIte, Int.reduceToNat]
     refine ⟨by first | omega | (simp only [List.length_append, List.length_cons, List.length_nil]; omega), ?_⟩
     refine ⟨by first | omega | (simp only [List.length_append, List.length_cons, List.length_nil]; omega), ?_⟩
     refine hK _ _ ?_
     clear hK K
     show WP _ _ _ _ _ _
     refine WP.region (by kernel_rfl) fun K hK => ?_
     simp (decide := true) only [W, Pr_prog, q2, q4, q9, hg, hnf, ↓reduceIte, Int.reduceToNat]
     refine hK _ _ ?_
     clear hK K
     show ∃ y, _ ∧ Weak _ _ _
     refine ⟨⟨j + 1, ?_⟩, ?_, ?_⟩
     · show j + 1 ≤ p.scopes.length; omega
     · dsimp only; omega
     · exact Weak.store (by simp [St.get, lk, W, Le.refl, q2, q4, q9, hg, hnf, hnx, wrapS hlj (show p.scopes.length ≤ 140737488355328 by have := hp.2.2.2.1; omega)]) (by simp [lk, W, q2, q4, q9, hg, hnf]) (by simp [lk, W]) (by simp [BClo, lk]) (by simp [lk])
    ·
     have hgj := ge_of_q q9
     obtain rfl : j = p.scopes.length := by omega
     have hfl := flatS_len p hp p.scopes.length
     have hpj := preJ_len p hp
     rw [List.take_length] at hfl ⊢
     have i1 := Lib.itoa_length_le p.lvl hp.2.2.2.2.2.2.2.1.1 hp.2.2.2.2.2.2.2.1.2
     have i2 := Lib.itoa_length_le p.age hp.2.2.2.2.2.2.2.2.1 hp.2.2.2.2.2.2.2.2.2
     refine WP.exit ?_
     show WP _ _ _ _ _ _
     refine WP.seq ?_
     refine WP.sr [1, 3, 71] (by kernel_rfl) fun K hK => ?_
     simp (decide := true) only [W, Pr_prog, t_fldD_36_4, t_szD_3, t_aggD_3, q2, q4, q9, ↓reduceIte, Int.reduceToNat]
     refine hK _ _ ?_
     clear hK K
     refine WP.cond (b := _) rfl (fun q10 => ?_) (fun q10 => ?_)
     ·
      refine WP.region (by kernel_rfl) fun K hK => ?_
      simp (decide := true) only [W, Pr_prog, t_fldD_36_4, t_szD_3, t_aggD_3, q2, q4, q9, q10, ↓reduceIte, Int.reduceToNat]
      refine ⟨by first | omega | (simp only [List.length_append, List.length_cons, List.length_nil]; omega), ?_⟩
      refine CallK.pure (c_r_int p.lvl hp.2.2.2.2.2.2.2.1.1 hp.2.2.2.2.2.2.2.1.2) rfl rfl (by simp [-List.map_take]) ?_
      simp (decide := true) only [W, Pr_prog, q2, q4, q9, q10, ↓reduceIte, Int.reduceToNat]
      refine ⟨by first | omega | (simp only [List.length_append, List.length_cons, List.length_nil]; omega), ?_⟩
      refine hK _ _ ?_
      clear hK K
      show WP _ _ _ _ _ _
      refine WP.seq ?_
      refine WP.sr [1, 3, 80] (by kernel_rfl) fun K hK => ?_
      simp (decide := true) only [W, Pr_prog, t_fldD_36_5, t_szD_3, t_aggD_3, q2, q4, q9, q10, ↓reduceIte, Int.reduceToNat]
      refine hK _ _ ?_
      clear hK K
      refine WP.cond (b := _) rfl (fun q11 => ?_) (fun q11 => ?_)
      ·
       refine WP.region (by kernel_rfl) fun K hK => ?_
       simp (decide := true) only [W, Pr_prog, t_fldD_36_5, t_szD_3, t_aggD_3, q2, q4, q9, q10, q11, ↓reduceIte, Int.reduceToNat]
       refine ⟨by first | omega | (simp only [List.length_append, List.length_cons, List.length_nil]; omega), ?_⟩
       refine CallK.pure (c_r_int p.age hp.2.2.2.2.2.2.2.2.1 hp.2.2.2.2.2.2.2.2.2) rfl rfl (by simp [-List.map_take]) ?_
       simp (decide := true) only [W, Pr_prog, q2, q4, q9, q10, q11, ↓reduceIte, Int.reduceToNat]
       refine ⟨by first | omega | (simp only [List.length_append, List.length_cons, List.length_nil]; omega), ?_⟩
       refine hK _ _ ?_
       clear hK K
       show WP _ _ _ _ _ _
       refine WP.sr [2] (by kernel_rfl) fun K hK => ?_
       simp (decide := true) only [W, Pr_prog, q2, q4, q9, q10, q11, ↓reduceIte, Int.reduceToNat]
       refine ⟨by first | omega | (simp only [List.length_append, List.length_cons, List.length_nil]; omega), ?_⟩
       refine hK _ _ ?_
       clear hK K
       refine WP.ret ?_
       exact Ends.pure (.inr rfl) rfl (Le.of_eq (by have hz := lineB_eq p; simp (decide := true) only [q2, q4, q9, q10, q11, ↓reduceIte, W] at hz; simp (decide := true) only [St.get, lk, W, hz]; simp [lk])) (by simp)
      ·
       refine WP.skip ?_
       show WP _ _ _ _ _ _
       refine WP.sr [2] (by kernel_rfl) fun K hK => ?_
       simp (decide := true) only [W, Pr_prog, q2, q4, q9, q10, q11, ↓reduceIte, Int.reduceToNat]
       refine ⟨by first | omega | (simp only [List.length_append, List.length_cons, List.length_nil]; omega), ?_⟩
       refine hK _ _ ?_
       clear hK K
       refine WP.ret ?_
       exact Ends.pure (.inr rfl) rfl (Le.of_eq (by have hz := lineB_eq p; simp (decide := true) only [q2, q4, q9, q10, q11, ↓reduceIte, W] at hz; simp (decide := true) only [St.get, lk, W, hz]; simp [lk])) (by simp)
     ·
      refine WP.skip ?_
      show WP _ _ _ _ _ _
      refine WP.seq ?_
      refine WP.sr [1, 3, 80] (by kernel_rfl) fun K hK => ?_
      simp (decide := true) only [W, Pr_prog, t_fldD_36_5, t_szD_3, t_aggD_3, q2, q4, q9, q10, ↓reduceIte, Int.reduceToNat]
      refine hK _ _ ?_
      clear hK K
      refine WP.cond (b := _) rfl (fun q12 => ?_) (fun q12 => ?_)
      ·
       refine WP.region (by kernel_rfl) fun K hK => ?_
       simp (decide := true) only [W, Pr_prog, t_fldD_36_5, t_szD_3, t_aggD_3, q2, q4, q9, q10, q12, ↓reduceIte, Int.reduceToNat]
       refine ⟨by first | omega | (simp only [List.length_append, List.length_cons, List.length_nil]; omega), ?_⟩
       refine CallK.pure (c_r_int p.age hp.2.2.2.2.2.2.2.2.1 hp.2.2.2.2.2.2.2.2.2) rfl rfl (by simp [-List.map_take]) ?_
       simp (decide := true) only [W, Pr_prog, q2, q4, q9, q10, q12, ↓reduceIte, Int.reduceToNat]
       refine ⟨by first | omega | (simp only [List.length_append, List.length_cons, List.length_nil]; omega), ?_⟩
       refine hK _ _ ?_
       clear hK K
       show WP _ _ _ _ _ _
       refine WP.sr [2] (by kernel_rfl) fun K hK => ?_
       simp (decide := true) only [W, Pr_prog, q2, q4, q9, q10, q12, ↓reduceIte, Int.reduceToNat]
       refine ⟨by first | omega | (simp only [List.length_append, List.length_cons, List.length_nil]; omega), ?_⟩
       refine hK _ _ ?_
       clear hK K
       refine WP.ret ?_
       exact Ends.pure (.inr rfl) rfl (Le.of_eq (by have hz := lineB_eq p; simp (decide := true) only [q2, q4, q9, q10, q12, ↓reduceIte, W] at hz; simp (decide := true) only [St.get, lk, W, hz]; simp [lk])) (by simp)
      ·
       refine WP.skip ?_
       show WP _ _ _ _ _ _
       refine WP.sr [2] (by kernel_rfl) fun K hK => ?_
       simp (decide := true) only [W, Pr_prog, q2, q4, q9, q10, q12, ↓reduceIte, Int.reduceToNat]
       refine ⟨by first | omega | (simp only [List.length_append, List.length_cons, List.length_nil]; omega), ?_⟩
       refine hK _ _ ?_
       clear hK K
       refine WP.ret ?_
       exact Ends.pure (.inr rfl) rfl (Le.of_eq (by have hz := lineB_eq p; simp (decide := true) only [q2, q4, q9, q10, q12, ↓reduceIte, W] at hz; simp (decide := true) only [St.get, lk, W, hz]; simp [lk])) (by simp)
theorem c_r_text (l : List Rule) (nl : Bool) (hn : l.length ≤ 1099511627776) (hnl : nl = true → l = []) (hl : ∀ p ∈ l, p.sm) : CallP Pr 14 [.slice 6 nl (l.map Rule.cs) none] (textD l) := by
 refine CallP.of_wp Tryz.func14 rfl (by kernel_rfl) Tryz.ntmps14 (by simp) ?_
 simp only [frameOf, Nat.reduceAdd, Nat.zero_add]
 refine WP.sr [0] (by kernel_rfl) fun K hK => ?_
 simp (decide := true) only [W, Pr_prog, ↓reduceIte, Int.reduceToNat]
 refine hK _ _ ?_
 clear hK K
 refine WP.seq ?_
 refine WP.sr [0, 4] (by kernel_rfl) fun K hK => ?_
 simp (decide := true) only [W, Pr_prog, ↓reduceIte, Int.reduceToNat]
 refine CallK.pure (c_r_check l nl hn hnl (fun p hp => (hl p hp).ok)) rfl rfl (by simp [-List.map_take]) ?_
 simp (decide := true) only [W, Pr_prog, ↓reduceIte, Int.reduceToNat]
 refine hK _ _ ?_
 clear hK K
 refine WP.sr [0, 4, 10] (by kernel_rfl) fun K hK => ?_
 simp (decide := true) only [W, Pr_prog, ↓reduceIte, Int.reduceToNat]
 refine hK _ _ ?_
 clear hK K
 refine WP.cond (b := _) rfl (fun q1 => ?_) (fun q1 => ?_)
 ·
  refine WP.sr [2, 3] (by kernel_rfl) fun K hK => ?_
  simp (decide := true) only [W, Pr_prog, q1, ↓reduceIte, Int.reduceToNat]
  refine hK _ _ ?_
  clear hK K
  refine WP.ret ?_
  exact Ends.pure (d := .tup [_, _]) (.inr rfl) rfl (Le.of_eq (by first | (simp (decide := true) only [St.get, lk, W, textD, q1, ↓reduceIte]; done) | (simp [St.get, lk, W, bne, textD, q1]; done) | (simp_all [St.get, lk, W, LN, bne, textD]; done) | (simp_all [St.get, lk, W, LN, bne, textD]; intros; first | omega | (rw [Bool.eq_iff_iff]; simp; try omega)))) (by simp)
 ·
  have h0 : checkE l = 0 := by simpa using q1
  have h64 := check_64 h0
  have htx := textB_take l hl
  refine WP.skip ?_
  show WP _ _ _ _ _ _
  refine WP.sr [0, 5] (by kernel_rfl) fun K hK => ?_
  simp (decide := true) only [W, Pr_prog, q1, h0, ↓reduceIte, Int.reduceToNat]
  refine hK _ _ ?_
  clear hK K
  refine WP.seq ?_
  refine WP.sr [0, 5, 6] (by kernel_rfl) fun K hK => ?_
  simp (decide := true) only [W, Pr_prog, q1, h0, ↓reduceIte, Int.reduceToNat]
  refine hK _ _ ?_
  clear hK K
  refine WP.block ?_
  refine WP.lp [0] (X := {k : Nat // k ≤ l.length}) (fun x => match x with | ⟨(k), _⟩ => [(5, .str (textB (l.take k))), (6, .int .i64 k)]) (fun x => match x with | ⟨(k), _⟩ => []) (fun x => match x with | ⟨(k), _⟩ => l.length - k) (by simp (decide := true) only [W, ↓reduceIte, Int.reduceToNat]; rfl) ?_ ⟨(0), Nat.zero_le _⟩ ?_
  rotate_left
  · exact Weak.nil (by simp [St.get, lk, W, Le.refl, textB, q1, h0]) (by simp [W])
  rintro ⟨k, hk⟩
  dsimp only
  simp only [List.cons_append, List.nil_append]
  refine WP.seq ?_
  refine WP.sr [0, 5, 6, 15] (by kernel_rfl) fun K hK => ?_
  simp (decide := true) only [W, Pr_prog, t_isStr_22, t_isSliceT_22, q1, h0, ↓reduceIte, Int.reduceToNat]
  refine hK _ _ ?_
  clear hK K
  refine WP.cond (b := _) rfl (fun q2 => ?_) (fun q2 => ?_)
  ·
   have hlt := lt_of_q q2
   have hg : (l.map Rule.cs)[k]? = some [.str l[k].name, .bool l[k].deny, .slice 3 l[k].nc (l[k].conds.map Cond.cs) none, .slice 1 l[k].ns (l[k].scopes.map fun x => [.str x]) none, .int .i64 l[k].lvl, .int .i64 l[k].age] := getM hlt
   have hnf := nl_false hnl hlt
   have hp := hl _ (List.getElem_mem hlt)
   have hll := lineB_len l[k] hp
   have hnx := textB_next l k hlt
   have htk := htx k (by omega)
   refine WP.skip ?_
   show WP _ _ _ _ _ _
   refine WP.seq ?_
   refine WP.block ?_
   refine WP.region (by kernel_rfl) fun K hK => ?_
   simp (decide := true) only [W, Pr_prog, t_elemD_22, t_szD_36, t_aggD_36, q1, h0, q2, hg, hnf, ↓reduceIte, Int.reduceToNat]
   refine CallK.pure (c_r_line l[k] hp) rfl rfl (by simp [-List.map_take]) ?_
   simp (decide := true) only [W, Pr_prog, q1, h0, q2, hg, hnf, ↓reduceIte, Int.reduceToNat]
   refine ⟨by first | omega | (simp only [List.length_append, List.length_cons, List.length_nil]; omega), ?_⟩
   refine hK _ _ ?_
   clear hK K
   show WP _ _ _ _ _ _
   refine WP.region (by kernel_rfl) fun K hK => ?_
   simp (decide := true) only [W, Pr_prog, q1, h0, q2, hg, hnf, ↓reduceIte, Int.reduceToNat]
   refine hK _ _ ?_
   clear hK K
   show ∃ y, _ ∧ Weak _ _ _
   refine ⟨⟨k + 1, ?_⟩, ?_, Weak.nil ?_ ?_⟩
   · show k + 1 ≤ l.length; omega
   · dsimp only; omega
   · simp [St.get, lk, W, Le.refl, q1, h0, q2, hg, hnf, hnx, wrapS hlt (show l.length ≤ 140737488355328 by omega)]
   · simp [W]
  ·
   have hge := ge_of_q q2
   obtain rfl : k = l.length := by omega
   have htk := htx l.length h64
   rw [List.take_length] at htk ⊢
   refine WP.exit ?_
   show WP _ _ _ _ _ _
   refine WP.seq ?_
   refine WP.sr [5, 27] (by kernel_rfl) fun K hK => ?_
   simp (decide := true) only [W, Pr_prog, t_isStr_9, t_isSliceT_9, q1, h0, q2, ↓reduceIte, Int.reduceToNat]
   refine hK _ _ ?_
   clear hK K
   refine WP.cond (b := _) rfl (fun q3 => ?_) (fun q3 => ?_)
   ·
    refine WP.sr [2, 3] (by kernel_rfl) fun K hK => ?_
    simp (decide := true) only [W, Pr_prog, q1, h0, q2, q3, ↓reduceIte, Int.reduceToNat]
    refine hK _ _ ?_
    clear hK K
    refine WP.ret ?_
    exact Ends.pure (d := .tup [_, _]) (.inr rfl) rfl (Le.of_eq (by first | (simp (decide := true) only [St.get, lk, W, textD, q1, h0, q2, q3, ↓reduceIte]; done) | (simp [St.get, lk, W, bne, textD, q1, h0, q2, q3]; done) | (simp_all [St.get, lk, W, LN, bne, textD]; done) | (simp_all [St.get, lk, W, LN, bne, textD]; intros; first | omega | (rw [Bool.eq_iff_iff]; simp; try omega)))) (by simp)
   ·
    refine WP.skip ?_
    show WP _ _ _ _ _ _
    refine WP.sr [2, 3] (by kernel_rfl) fun K hK => ?_
    simp (decide := true) only [W, Pr_prog, q1, h0, q2, q3, ↓reduceIte, Int.reduceToNat]
    refine hK _ _ ?_
    clear hK K
    refine WP.ret ?_
    exact Ends.pure (d := .tup [_, _]) (.inr rfl) rfl (Le.of_eq (by first | (simp (decide := true) only [St.get, lk, W, textD, q1, h0, q2, q3, ↓reduceIte]; done) | (simp [St.get, lk, W, bne, textD, q1, h0, q2, q3]; done) | (simp_all [St.get, lk, W, LN, bne, textD]; done) | (simp_all [St.get, lk, W, LN, bne, textD]; intros; first | omega | (rw [Bool.eq_iff_iff]; simp; try omega)))) (by simp)
end Go.Proofs

set_option linter.unusedSimpArgs false
set_option linter.unusedVariables false
namespace Go.Proofs
open Go Go.Id
abbrev Wds := List (List UInt8)
def hdB (ws : Wds) (w : List UInt8) : Bool := ws.head? == some w
def tlW (ws : Wds) (w : List UInt8) : Wds := if hdB ws w then ws.tail else ws
theorem hd_cases (ws : Wds) : ws = [] ∨ ∃ x t, ws = x :: t := by cases ws <;> simp
theorem takeMap {α β : Type} (f : α → β) (l : List α) : (l.map f).take l.length = l.map f := by rw [← List.length_map (f := f), List.take_length]
theorem hdB_cons (x : List UInt8) (t : Wds) (w : List UInt8) : hdB (x :: t) w = (x == w) := by simp [hdB]
theorem hdB_nil (w : List UInt8) : hdB [] w = false := rfl
theorem hdB_t {ws : Wds} {w : List UInt8} (h : hdB ws w = true) : ws = w :: ws.tail := by
  cases ws with
  | nil => cases h
  | cons x t => rw [hdB_cons] at h; simp at h; simp [h]
/-- condition. -/
def cdV (ws : Wds) : Bool := match ws with | _ :: _ :: v :: _ => (unB v).isSome | _ => false
def cdW (ws : Wds) : Wds := match ws with | _ :: _ :: _ :: t => t | ws => ws
def cdC (ws : Wds) (cs : List Cond) : List Cond := match ws with | f :: op :: v :: _ => cs ++ [⟨f, op, (unB v).getD []⟩] | _ => cs
theorem cd_cases (ws : Wds) : (ws.length < 3 ∧ cdV ws = false ∧ cdW ws = ws ∧ ∀ cs, cdC ws cs = cs) ∨ ∃ f op v t, ws = f :: op :: v :: t := by
  match ws with
  | [] => exact .inl ⟨by simp, rfl, rfl, fun _ => rfl⟩
  | [_] => exact .inl ⟨by simp, rfl, rfl, fun _ => rfl⟩
  | [_, _] => exact .inl ⟨by simp, rfl, rfl, fun _ => rfl⟩
  | f :: op :: v :: t => exact .inr ⟨f, op, v, t, rfl⟩
theorem un_cases (v : List UInt8) : (∃ u, unD (unB v) = .tup [.str u, .int .i64 0] ∧ unB v = some u) ∨ (unD (unB v) = .tup [.str [], .int .i64 4] ∧ unB v = none) := by
  cases h : unB v with
  | none => exact .inr ⟨rfl, rfl⟩
  | some u => exact .inl ⟨u, rfl, rfl⟩
theorem unD_s (u : List UInt8) : unD (some u) = .tup [.str u, .int .i64 0] := rfl
theorem unD_n : unD none = .tup [.str [], .int .i64 4] := rfl
theorem mapC (l : List Cond) (f op v : List UInt8) : l.map Cond.cs ++ [[.str f, .str op, .str v]] = (l ++ [(⟨f, op, v⟩ : Cond)]).map Cond.cs := by simp [Cond.cs]
theorem isE1 {α : Type} (l : List α) (x : α) : (l ++ [x]).isEmpty = false := by cases l <;> rfl
/-- scopes. -/
def scR : Wds → Wds → Wds × Wds
  | [], sc => ([], sc)
  | x :: t, sc => if (x == [108, 101, 118, 101, 108] || x == [97, 103, 101]) = true then (x :: t, sc) else scR t (sc ++ [x])
theorem scR_len : ∀ (ws sc : Wds), (scR ws sc).1.length ≤ ws.length ∧ (scR ws sc).1.length + (scR ws sc).2.length = ws.length + sc.length
  | [], sc => by simp [scR]
  | x :: t, sc => by
    have := scR_len t (sc ++ [x])
    simp only [List.length_append, List.length_cons, List.length_nil] at this
    unfold scR
    split
    · simp
    · simp only [List.length_cons]; omega
theorem scR_mem : ∀ (ws sc : Wds), (∀ x ∈ (scR ws sc).1, x ∈ ws) ∧ (∀ x ∈ (scR ws sc).2, x ∈ ws ∨ x ∈ sc)
  | [], sc => by simp [scR]
  | y :: t, sc => by
    obtain ⟨h1, h2⟩ := scR_mem t (sc ++ [y])
    unfold scR
    split
    · exact ⟨fun x hx => hx, fun x hx => .inr hx⟩
    · refine ⟨fun x hx => List.mem_cons_of_mem _ (h1 x hx), fun x hx => ?_⟩
      rcases h2 x hx with h | h
      · exact .inl (List.mem_cons_of_mem _ h)
      · rcases List.mem_append.1 h with h | h
        · exact .inr h
        · simp at h; subst h; simp
/-- count. -/
def cntR (ws : Wds) (w : List UInt8) : Int × Bool × Wds :=
  if hdB ws w then (match ws.tail with | [] => (0, false, []) | x :: u => ((rdN x).1, (rdN x).2 == 0 && (rdN x).1 != 0, u)) else (0, true, ws)
theorem cntR_suf (ws : Wds) (w : List UInt8) : (∀ x ∈ (cntR ws w).2.2, x ∈ ws) ∧ (cntR ws w).2.2.length ≤ ws.length := by
  unfold cntR
  split
  · match ws with
    | [] => simp
    | [_] => simp
    | a :: b :: u => exact ⟨fun x hx => List.mem_cons_of_mem _ (List.mem_cons_of_mem _ hx), by simp; omega⟩
  · exact ⟨fun x hx => hx, Nat.le_refl _⟩
/-- The conditions. -/
def cdR (n : Nat) (lead : List UInt8) (ws : Wds) (cs : List Cond) : Bool × Wds × List Cond :=
  match n with
  | 0 => (true, ws, cs)
  | n + 1 => if hdB ws lead then (if cdV ws.tail then cdR n [97, 110, 100] (cdW ws.tail) (cdC ws.tail cs) else (false, cdW ws.tail, cdC ws.tail cs)) else (true, ws, cs)
theorem cdW_len (ws : Wds) : (cdW ws).length ≤ ws.length := by
  rcases cd_cases ws with ⟨_, _, h, _⟩ | ⟨f, op, v, t, rfl⟩
  · rw [h]; exact Nat.le_refl _
  · simp [cdW]; omega
theorem cdW_mem (ws : Wds) : ∀ x ∈ cdW ws, x ∈ ws := by
  rcases cd_cases ws with ⟨_, _, h, _⟩ | ⟨f, op, v, t, rfl⟩
  · rw [h]; exact fun x hx => hx
  · intro x hx; simp only [cdW] at hx; simp [hx]
end Go.Proofs

set_option linter.unusedSimpArgs false
set_option linter.unusedVariables false
set_option maxRecDepth 10000
namespace Go.Proofs
open Go Go.Id

theorem c_next (ws : Wds) (cs : List Cond) (sc : Wds) (lv ag : Int) (nm : List UInt8) (dn : Bool) (w : List UInt8) (hw : ws.length ≤ 1099511627776) : CallE Pr 114 [.ref 0 0, .str w] [(0, .box 97 [.slice 1 false ((ws).map fun x => [D.str x]) none, .str nm, .bool dn, .slice 3 (cs).isEmpty ((cs).map Cond.cs) (some 1), .slice 1 (sc).isEmpty ((sc).map fun x => [D.str x]) (some 2), .int .i64 (lv), .int .i64 (ag)]), (1, .tip 43 3 (cs).length), (2, .tip 9 1 (sc).length)] (.bool (hdB ws w)) [(0, .box 97 [.slice 1 false ((tlW ws w).map fun x => [D.str x]) none, .str nm, .bool dn, .slice 3 (cs).isEmpty ((cs).map Cond.cs) (some 1), .slice 1 (sc).isEmpty ((sc).map fun x => [D.str x]) (some 2), .int .i64 (lv), .int .i64 (ag)]), (1, .tip 43 3 (cs).length), (2, .tip 9 1 (sc).length)] := by
 refine CallE.of_wp Tryz.func114 rfl (by kernel_rfl) Tryz.ntmps114 (by simp) ?_
 simp only [frameOf, Nat.reduceAdd, Nat.zero_add, List.map_cons, List.map_nil]
 rcases hd_cases ws with rfl | ⟨x, t, rfl⟩
 ·
  have z0 : (((0 : Nat) : Int) == 0) = true := rfl
  refine WP.sr [0, 1] (by kernel_rfl) fun K hK => ?_
  simp (decide := true) only [W, Pr_prog, z0, takeMap, le1, ↓reduceIte, Int.reduceToNat]
  refine hK _ _ ?_
  clear hK K
  refine WP.seq ?_
  refine WP.sr [0, 20] (by kernel_rfl) fun K hK => ?_
  simp (decide := true) only [W, Pr_prog, t_fldD_97_0, t_szD_34, t_aggD_34, t_isStr_34, t_isSliceT_34, t_elemD_34, t_szD_9, t_aggD_9, z0, takeMap, le1, ↓reduceIte, Int.reduceToNat]
  refine hK _ _ ?_
  clear hK K
  refine WP.cond (b := true) (by first | rfl | simp [W, z0]) (fun _ => ?_) nofun
  refine WP.sr [4] (by kernel_rfl) fun K hK => ?_
  simp (decide := true) only [W, Pr_prog, z0, takeMap, le1, ↓reduceIte, Int.reduceToNat]
  refine hK _ _ ?_
  clear hK K
  refine WP.ret ?_
  refine Ends.imp (.inr rfl) rfl (Le.of_eq (by first | (simp (decide := true) only [St.get, lk, W, hdB, tlW, z0, ↓reduceIte]; done) | (simp [St.get, lk, W, bne, hdB, tlW, z0]; done) | (simp_all [St.get, lk, W, LN, bne, hdB, tlW]; done) | (simp_all [St.get, lk, W, LN, bne, hdB, tlW]; intros; first | omega | (rw [Bool.eq_iff_iff]; simp; try omega)))) ?_ ?_ ?_
  · simp
  · simp_all [St.get, lk, W, BClo, hdB, tlW]
  · simp [lk]
 ·
  have z0 : (((t.length + 1 : Nat) : Int) == 0) = false := by rw [beq_eq_false_iff_ne]; omega
  refine WP.sr [0, 1] (by kernel_rfl) fun K hK => ?_
  simp (decide := true) only [W, Pr_prog, z0, takeMap, le1, ↓reduceIte, Int.reduceToNat]
  refine hK _ _ ?_
  clear hK K
  refine WP.seq ?_
  refine WP.sr [0, 20] (by kernel_rfl) fun K hK => ?_
  simp (decide := true) only [W, Pr_prog, t_fldD_97_0, t_szD_34, t_aggD_34, t_isStr_34, t_isSliceT_34, t_elemD_34, t_szD_9, t_aggD_9, z0, takeMap, le1, ↓reduceIte, Int.reduceToNat]
  refine hK _ _ ?_
  clear hK K
  refine WP.cond (b := _) rfl (fun q1 => ?_) (fun q1 => ?_)
  ·
   refine WP.sr [4] (by kernel_rfl) fun K hK => ?_
   simp (decide := true) only [W, Pr_prog, z0, q1, takeMap, le1, ↓reduceIte, Int.reduceToNat]
   refine hK _ _ ?_
   clear hK K
   refine WP.ret ?_
   refine Ends.imp (.inr rfl) rfl (Le.of_eq (by first | (simp (decide := true) only [St.get, lk, W, hdB, tlW, z0, q1, ↓reduceIte]; done) | (simp [St.get, lk, W, bne, hdB, tlW, z0, q1]; done) | (simp_all [St.get, lk, W, LN, bne, hdB, tlW]; done) | (simp_all [St.get, lk, W, LN, bne, hdB, tlW]; intros; first | omega | (rw [Bool.eq_iff_iff]; simp; try omega)))) ?_ ?_ ?_
   · simp
   · simp_all [St.get, lk, W, BClo, hdB, tlW]
   · simp [lk]
  ·
   refine WP.skip ?_
   show WP _ _ _ _ _ _
   refine WP.sr [] (by kernel_rfl) fun K hK => ?_
   simp (decide := true) only [W, Pr_prog, t_fldD_97_0, t_szD_34, t_aggD_34, t_isStr_34, t_elemD_34, z0, q1, takeMap, le1, ↓reduceIte, Int.reduceToNat]
   refine hK _ _ ?_
   clear hK K
   refine WP.sr [4] (by kernel_rfl) fun K hK => ?_
   simp (decide := true) only [W, Pr_prog, z0, q1, takeMap, le1, ↓reduceIte, Int.reduceToNat]
   refine hK _ _ ?_
   clear hK K
   refine WP.ret ?_
   refine Ends.imp (.inr rfl) rfl (Le.of_eq (by first | (simp (decide := true) only [St.get, lk, W, hdB, tlW, z0, q1, ↓reduceIte]; done) | (simp [St.get, lk, W, bne, hdB, tlW, z0, q1]; done) | (simp_all [St.get, lk, W, LN, bne, hdB, tlW]; done) | (simp_all [St.get, lk, W, LN, bne, hdB, tlW]; intros; first | omega | (rw [Bool.eq_iff_iff]; simp; try omega)))) ?_ ?_ ?_
   · simp
   · simp_all [St.get, lk, W, BClo, hdB, tlW]
   · simp [lk]
theorem c_cond_long (f op v : List UInt8) (t : Wds) (cs : List Cond) (sc : Wds) (lv ag : Int) (nm : List UInt8) (dn : Bool) (hv : v.length ≤ 1099511627776) (hcs : cs.length ≤ 1099511627776) : CallE Pr 115 [.ref 0 0] [(0, .box 97 [.slice 1 false ((f :: op :: v :: t).map fun x => [D.str x]) none, .str nm, .bool dn, .slice 3 (cs).isEmpty ((cs).map Cond.cs) (some 1), .slice 1 (sc).isEmpty ((sc).map fun x => [D.str x]) (some 2), .int .i64 (lv), .int .i64 (ag)]), (1, .tip 43 3 (cs).length), (2, .tip 9 1 (sc).length)] (.bool (unB v).isSome) [(0, .box 97 [.slice 1 false ((t).map fun x => [D.str x]) none, .str nm, .bool dn, .slice 3 (cs ++ [(⟨f, op, (unB v).getD []⟩ : Cond)]).isEmpty ((cs ++ [(⟨f, op, (unB v).getD []⟩ : Cond)]).map Cond.cs) (some 1), .slice 1 (sc).isEmpty ((sc).map fun x => [D.str x]) (some 2), .int .i64 (lv), .int .i64 (ag)]), (1, .tip 43 3 (cs ++ [(⟨f, op, (unB v).getD []⟩ : Cond)]).length), (2, .tip 9 1 (sc).length)] := by
 have z0 : decide (((t.length + 1 + 1 + 1 : Nat) : Int) < 3) = false := decide_eq_false (by omega)
 have z3 : (3 ≤ t.length + 1 + 1 + 1) = True := eq_true (by omega)
 refine CallE.of_wp Tryz.func115 rfl (by kernel_rfl) Tryz.ntmps115 (by simp) ?_
 simp only [frameOf, Nat.reduceAdd, Nat.zero_add, List.map_cons, List.map_nil]
 refine WP.sr [0] (by kernel_rfl) fun K hK => ?_
 simp (decide := true) only [W, Pr_prog, z0, z3, takeMap, mapC, unD_s, unD_n, ↓reduceIte, Int.reduceToNat]
 refine hK _ _ ?_
 clear hK K
 refine WP.seq ?_
 refine WP.sr [0, 10] (by kernel_rfl) fun K hK => ?_
 simp (decide := true) only [W, Pr_prog, t_fldD_97_0, t_szD_34, t_aggD_34, t_isStr_34, t_isSliceT_34, z0, z3, takeMap, mapC, unD_s, unD_n, ↓reduceIte, Int.reduceToNat]
 refine hK _ _ ?_
 clear hK K
 refine WP.cond (b := false) (by first | rfl | simp [W, z0, z3]) nofun (fun _ => ?_)
 refine WP.skip ?_
 show WP _ _ _ _ _ _
 rcases un_cases v with ⟨u, hu, hu2⟩ | ⟨hu, hu2⟩
 ·
  refine WP.sr [0, 3, 4] (by kernel_rfl) fun K hK => ?_
  simp (decide := true) only [W, Pr_prog, t_fldD_97_0, t_szD_34, t_aggD_34, t_elemD_34, t_szD_9, t_aggD_9, z0, z3, hu2, takeMap, mapC, unD_s, unD_n, ↓reduceIte, Int.reduceToNat]
  refine CallK.pure (c_unescape v hv) rfl rfl (by simp [-List.map_take]) ?_
  simp (decide := true) only [W, Pr_prog, z0, z3, hu2, takeMap, mapC, unD_s, unD_n, ↓reduceIte, Int.reduceToNat]
  refine hK _ _ ?_
  clear hK K
  refine WP.sd [0, 4] (by kernel_rfl) (by kernel_rfl) fun K hK => ?_
  simp (decide := true) only [W, Pr_prog, t_fldD_97_1, t_fldD_36_2, t_szD_33, t_aggD_33, t_fldD_97_0, t_szD_34, t_aggD_34, t_elemD_34, t_szD_9, t_aggD_9, t_zeroD_43, t_structOk_43, t_fldD_43_0, t_fldD_43_1, t_fldD_43_2, t_elemD_33, t_okElem_43, z0, z3, hu2, takeMap, mapC, unD_s, unD_n, ↓reduceIte, Int.reduceToNat]
  refine ⟨⟨by simp only [List.length_append, List.length_map, List.length_cons, List.length_nil]; omega, by simp only [List.length_append, List.length_map, List.length_cons, List.length_nil]; omega⟩, ?_⟩
  refine hK _ _ (by kernel_rfl) ?_
  clear hK K
  refine WP.sr [4] (by kernel_rfl) fun K hK => ?_
  simp (decide := true) only [W, Pr_prog, t_fldD_97_0, t_szD_34, t_aggD_34, t_isStr_34, t_elemD_34, z0, z3, hu2, takeMap, mapC, unD_s, unD_n, ↓reduceIte, Int.reduceToNat]
  refine hK _ _ ?_
  clear hK K
  refine WP.sr [2] (by kernel_rfl) fun K hK => ?_
  simp (decide := true) only [W, Pr_prog, z0, z3, hu2, takeMap, mapC, unD_s, unD_n, ↓reduceIte, Int.reduceToNat]
  refine hK _ _ ?_
  clear hK K
  refine WP.ret ?_
  refine Ends.imp (.inr rfl) rfl (Le.of_eq (by first | (simp (decide := true) only [St.get, lk, W, z0, z3, hu2, ↓reduceIte]; done) | (simp [St.get, lk, W, bne, z0, z3, hu2]; done) | (simp_all [St.get, lk, W, LN, bne]; done) | (simp_all [St.get, lk, W, LN, bne]; intros; first | omega | (rw [Bool.eq_iff_iff]; simp; try omega)))) ?_ ?_ ?_
  · simp
  · simp [St.get, lk, W, BClo, z0, z3, hu2, isE1, Cond.cs, or_imp, forall_and]
  · simp [lk]
 ·
  refine WP.sr [0, 3, 4] (by kernel_rfl) fun K hK => ?_
  simp (decide := true) only [W, Pr_prog, t_fldD_97_0, t_szD_34, t_aggD_34, t_elemD_34, t_szD_9, t_aggD_9, z0, z3, hu2, takeMap, mapC, unD_s, unD_n, ↓reduceIte, Int.reduceToNat]
  refine CallK.pure (c_unescape v hv) rfl rfl (by simp [-List.map_take]) ?_
  simp (decide := true) only [W, Pr_prog, z0, z3, hu2, takeMap, mapC, unD_s, unD_n, ↓reduceIte, Int.reduceToNat]
  refine hK _ _ ?_
  clear hK K
  refine WP.sd [0, 4] (by kernel_rfl) (by kernel_rfl) fun K hK => ?_
  simp (decide := true) only [W, Pr_prog, t_fldD_97_1, t_fldD_36_2, t_szD_33, t_aggD_33, t_fldD_97_0, t_szD_34, t_aggD_34, t_elemD_34, t_szD_9, t_aggD_9, t_zeroD_43, t_structOk_43, t_fldD_43_0, t_fldD_43_1, t_fldD_43_2, t_elemD_33, t_okElem_43, z0, z3, hu2, takeMap, mapC, unD_s, unD_n, ↓reduceIte, Int.reduceToNat]
  refine ⟨⟨by simp only [List.length_append, List.length_map, List.length_cons, List.length_nil]; omega, by simp only [List.length_append, List.length_map, List.length_cons, List.length_nil]; omega⟩, ?_⟩
  refine hK _ _ (by kernel_rfl) ?_
  clear hK K
  refine WP.sr [4] (by kernel_rfl) fun K hK => ?_
  simp (decide := true) only [W, Pr_prog, t_fldD_97_0, t_szD_34, t_aggD_34, t_isStr_34, t_elemD_34, z0, z3, hu2, takeMap, mapC, unD_s, unD_n, ↓reduceIte, Int.reduceToNat]
  refine hK _ _ ?_
  clear hK K
  refine WP.sr [2] (by kernel_rfl) fun K hK => ?_
  simp (decide := true) only [W, Pr_prog, z0, z3, hu2, takeMap, mapC, unD_s, unD_n, ↓reduceIte, Int.reduceToNat]
  refine hK _ _ ?_
  clear hK K
  refine WP.ret ?_
  refine Ends.imp (.inr rfl) rfl (Le.of_eq (by first | (simp (decide := true) only [St.get, lk, W, z0, z3, hu2, ↓reduceIte]; done) | (simp [St.get, lk, W, bne, z0, z3, hu2]; done) | (simp_all [St.get, lk, W, LN, bne]; done) | (simp_all [St.get, lk, W, LN, bne]; intros; first | omega | (rw [Bool.eq_iff_iff]; simp; try omega)))) ?_ ?_ ?_
  · simp
  · simp [St.get, lk, W, BClo, z0, z3, hu2, isE1, Cond.cs, or_imp, forall_and]
  · simp [lk]
theorem c_cond_short (ws : Wds) (cs : List Cond) (sc : Wds) (lv ag : Int) (nm : List UInt8) (dn : Bool) (h3 : ws.length < 3) : CallE Pr 115 [.ref 0 0] [(0, .box 97 [.slice 1 false ((ws).map fun x => [D.str x]) none, .str nm, .bool dn, .slice 3 (cs).isEmpty ((cs).map Cond.cs) (some 1), .slice 1 (sc).isEmpty ((sc).map fun x => [D.str x]) (some 2), .int .i64 (lv), .int .i64 (ag)]), (1, .tip 43 3 (cs).length), (2, .tip 9 1 (sc).length)] (.bool false) [(0, .box 97 [.slice 1 false ((ws).map fun x => [D.str x]) none, .str nm, .bool dn, .slice 3 (cs).isEmpty ((cs).map Cond.cs) (some 1), .slice 1 (sc).isEmpty ((sc).map fun x => [D.str x]) (some 2), .int .i64 (lv), .int .i64 (ag)]), (1, .tip 43 3 (cs).length), (2, .tip 9 1 (sc).length)] := by
 have z0 : decide ((ws.length : Int) < 3) = true := decide_eq_true (by omega)
 refine CallE.of_wp Tryz.func115 rfl (by kernel_rfl) Tryz.ntmps115 (by simp) ?_
 simp only [frameOf, Nat.reduceAdd, Nat.zero_add, List.map_cons, List.map_nil]
 refine WP.sr [0] (by kernel_rfl) fun K hK => ?_
 simp (decide := true) only [W, Pr_prog, z0, ↓reduceIte, Int.reduceToNat]
 refine hK _ _ ?_
 clear hK K
 refine WP.seq ?_
 refine WP.sr [0, 10] (by kernel_rfl) fun K hK => ?_
 simp (decide := true) only [W, Pr_prog, t_fldD_97_0, t_szD_34, t_aggD_34, t_isStr_34, t_isSliceT_34, z0, ↓reduceIte, Int.reduceToNat]
 refine hK _ _ ?_
 clear hK K
 refine WP.cond (b := true) (by first | rfl | simp [W, z0]) (fun _ => ?_) nofun
 refine WP.sr [2] (by kernel_rfl) fun K hK => ?_
 simp (decide := true) only [W, Pr_prog, z0, ↓reduceIte, Int.reduceToNat]
 refine hK _ _ ?_
 clear hK K
 refine WP.ret ?_
 refine Ends.imp (.inr rfl) rfl (Le.of_eq (by first | (simp (decide := true) only [St.get, lk, W, z0, ↓reduceIte]; done) | (simp [St.get, lk, W, bne, z0]; done) | (simp_all [St.get, lk, W, LN, bne]; done) | (simp_all [St.get, lk, W, LN, bne]; intros; first | omega | (rw [Bool.eq_iff_iff]; simp; try omega)))) ?_ ?_ ?_
 · simp
 · simp [St.get, lk, W, BClo, z0]
 · simp [lk]
theorem c_condition (ws : Wds) (cs : List Cond) (sc : Wds) (lv ag : Int) (nm : List UInt8) (dn : Bool) (hv : ∀ x ∈ ws, x.length ≤ 1099511627776) (hcs : cs.length ≤ 1099511627776) : CallE Pr 115 [.ref 0 0] [(0, .box 97 [.slice 1 false ((ws).map fun x => [D.str x]) none, .str nm, .bool dn, .slice 3 (cs).isEmpty ((cs).map Cond.cs) (some 1), .slice 1 (sc).isEmpty ((sc).map fun x => [D.str x]) (some 2), .int .i64 (lv), .int .i64 (ag)]), (1, .tip 43 3 (cs).length), (2, .tip 9 1 (sc).length)] (.bool (cdV ws)) [(0, .box 97 [.slice 1 false ((cdW ws).map fun x => [D.str x]) none, .str nm, .bool dn, .slice 3 (cdC ws cs).isEmpty ((cdC ws cs).map Cond.cs) (some 1), .slice 1 (sc).isEmpty ((sc).map fun x => [D.str x]) (some 2), .int .i64 (lv), .int .i64 (ag)]), (1, .tip 43 3 (cdC ws cs).length), (2, .tip 9 1 (sc).length)] := by
 rcases cd_cases ws with ⟨h1, h2, h3, h4⟩ | ⟨f, op, v, t, rfl⟩
 · rw [h2, h3, h4]; exact c_cond_short ws cs sc lv ag nm dn h1
 · exact c_cond_long f op v t cs sc lv ag nm dn (hv v (by simp)) hcs
theorem c_scopes (ws : Wds) (cs : List Cond) (sc : Wds) (lv ag : Int) (nm : List UInt8) (dn : Bool) (hw : ws.length + sc.length ≤ 1099511627776) : CallE Pr 116 [.ref 0 0] [(0, .box 97 [.slice 1 false ((ws).map fun x => [D.str x]) none, .str nm, .bool dn, .slice 3 (cs).isEmpty ((cs).map Cond.cs) (some 1), .slice 1 (sc).isEmpty ((sc).map fun x => [D.str x]) (some 2), .int .i64 (lv), .int .i64 (ag)]), (1, .tip 43 3 (cs).length), (2, .tip 9 1 (sc).length)] (.bool (decide (((scR ws sc).2.length : Int) > 0))) [(0, .box 97 [.slice 1 false (((scR ws sc).1).map fun x => [D.str x]) none, .str nm, .bool dn, .slice 3 (cs).isEmpty ((cs).map Cond.cs) (some 1), .slice 1 ((scR ws sc).2).isEmpty (((scR ws sc).2).map fun x => [D.str x]) (some 2), .int .i64 (lv), .int .i64 (ag)]), (1, .tip 43 3 (cs).length), (2, .tip 9 1 ((scR ws sc).2).length)] := by
 refine CallE.of_wp Tryz.func116 rfl (by kernel_rfl) Tryz.ntmps116 (by simp) ?_
 simp only [frameOf, Nat.reduceAdd, Nat.zero_add, List.map_cons, List.map_nil]
 refine WP.sr [0] (by kernel_rfl) fun K hK => ?_
 simp (decide := true) only [W, Pr_prog, takeMap, le1, map1, ↓reduceIte, Int.reduceToNat]
 refine hK _ _ ?_
 clear hK K
 refine WP.seq ?_
 refine WP.block ?_
 refine WP.lp [0] (X := {x : (Wds) × (Wds) // match x with | (u, q) => u.length + q.length ≤ 1099511627776 ∧ scR ws sc = scR u q}) (fun x => match x with | ⟨(u, q), _⟩ => []) (fun x => match x with | ⟨(u, q), _⟩ => [(0, .box 97 [.slice 1 false ((u).map fun x => [D.str x]) none, .str nm, .bool dn, .slice 3 (cs).isEmpty ((cs).map Cond.cs) (some 1), .slice 1 (q).isEmpty ((q).map fun x => [D.str x]) (some 2), .int .i64 (lv), .int .i64 (ag)]), (1, .tip 43 3 (cs).length), (2, .tip 9 1 (q).length)]) (fun x => match x with | ⟨(u, q), _⟩ => u.length) (by simp (decide := true) only [W, ↓reduceIte, Int.reduceToNat]; rfl) ?_ ⟨(ws, sc), ⟨hw, rfl⟩⟩ ?_
 rotate_left
 · exact Weak.store (by simp [St.get, lk, W, Le.refl]) (by simp [lk, W]) (by simp [lk, W]) (by simp [BClo, lk]) (by simp [lk])
 rintro ⟨⟨u, q⟩, hs, hI⟩
 dsimp only
 simp only [List.cons_append, List.nil_append]
 rcases hd_cases u with rfl | ⟨x, t, rfl⟩
 ·
  have z0 : decide (((0 : Nat) : Int) > 0) = false := rfl
  rw [scR] at hI
  refine WP.seq ?_
  refine WP.sr [0, 26] (by kernel_rfl) fun K hK => ?_
  simp (decide := true) only [W, Pr_prog, t_fldD_97_0, t_szD_34, t_aggD_34, t_isStr_34, t_isSliceT_34, t_elemD_34, t_szD_9, t_aggD_9, z0, takeMap, le1, map1, ↓reduceIte, Int.reduceToNat]
  refine hK _ _ ?_
  clear hK K
  refine WP.cond (b := false) (by first | rfl | simp [W, z0]) nofun (fun _ => ?_)
  refine WP.exit ?_
  show WP _ _ _ _ _ _
  refine WP.sr [2] (by kernel_rfl) fun K hK => ?_
  simp (decide := true) only [W, Pr_prog, t_fldD_97_1, t_fldD_36_3, t_szD_34, t_aggD_34, t_isStr_34, t_isSliceT_34, z0, takeMap, le1, map1, ↓reduceIte, Int.reduceToNat]
  refine hK _ _ ?_
  clear hK K
  refine WP.ret ?_
  refine Ends.imp (.inr rfl) rfl (Le.of_eq (by first | (simp (decide := true) only [St.get, lk, W, z0, hI, ↓reduceIte]; done) | (simp [St.get, lk, W, bne, z0, hI]; done) | (simp_all [St.get, lk, W, LN, bne]; done) | (simp_all [St.get, lk, W, LN, bne]; intros; first | omega | (rw [Bool.eq_iff_iff]; simp; try omega)))) ?_ ?_ ?_
  · simp
  · simp_all [St.get, lk, W, BClo]
  · simp [lk]
 ·
  have z0 := gt0 t.length
  rw [scR] at hI
  refine WP.seq ?_
  refine WP.sr [0, 26] (by kernel_rfl) fun K hK => ?_
  refine runOps.take 16 fun J hJ => ?_
  simp (decide := true) only [W, Pr_prog, t_fldD_97_0, t_szD_34, t_aggD_34, t_isStr_34, t_isSliceT_34, t_elemD_34, t_szD_9, t_aggD_9, z0, takeMap, le1, map1, ↓reduceIte, Int.reduceToNat]
  refine hJ _ _ ?_
  clear hJ J
  refine runOps.part 18 rfl (fun q1 => ?_) (fun q1 => ?_)
  ·
   simp (decide := true) only [W, Pr_prog, t_fldD_97_0, t_szD_34, t_aggD_34, t_elemD_34, t_szD_9, t_aggD_9, z0, q1, takeMap, le1, map1, ↓reduceIte, Int.reduceToNat]
   refine hK _ _ ?_
   clear hK K
   refine WP.cond (b := _) rfl (fun q2 => ?_) (fun q2 => ?_)
   ·
    refine WP.skip ?_
    show WP _ _ _ _ _ _
    refine WP.block ?_
    refine WP.sd [0] (by kernel_rfl) (by kernel_rfl) fun K hK => ?_
    simp (decide := true) only [W, Pr_prog, t_fldD_97_1, t_fldD_36_3, t_szD_34, t_aggD_34, t_fldD_97_0, t_elemD_34, t_szD_9, t_aggD_9, t_okElem_9, z0, q1, q2, takeMap, le1, map1, ↓reduceIte, Int.reduceToNat]
    refine ⟨⟨by simp only [List.length_append, List.length_map, List.length_cons, List.length_nil] at hs ⊢; omega, by simp only [List.length_append, List.length_map, List.length_cons, List.length_nil] at hs ⊢; omega⟩, ?_⟩
    refine hK _ _ (by kernel_rfl) ?_
    clear hK K
    refine WP.region (by kernel_rfl) fun K hK => ?_
    simp (decide := true) only [W, Pr_prog, t_fldD_97_0, t_szD_34, t_aggD_34, t_isStr_34, t_elemD_34, z0, q1, q2, takeMap, le1, map1, ↓reduceIte, Int.reduceToNat]
    refine hK _ _ ?_
    clear hK K
    show ∃ y, _ ∧ Weak _ _ _
    refine ⟨⟨(t, q ++ [x]), ?_⟩, ?_, ?_⟩
    · exact ⟨by simp at hs ⊢; omega, by first | (simpa [z0, q1, q2] using hI) | (simp_all; done)⟩
    · simp
    · exact Weak.store (by simp [St.get, lk, W, Le.refl]) (by simp [lk, W, isE1, -List.map_append]) (by simp [lk, W]) (by simp [BClo, lk, or_imp, forall_and]) (by simp [lk])
   ·
    refine WP.exit ?_
    show WP _ _ _ _ _ _
    refine WP.sr [2] (by kernel_rfl) fun K hK => ?_
    simp (decide := true) only [W, Pr_prog, t_fldD_97_1, t_fldD_36_3, t_szD_34, t_aggD_34, t_isStr_34, t_isSliceT_34, z0, q1, q2, takeMap, le1, map1, ↓reduceIte, Int.reduceToNat]
    refine hK _ _ ?_
    clear hK K
    refine WP.ret ?_
    refine Ends.imp (.inr rfl) rfl (Le.of_eq (by first | (simp (decide := true) only [St.get, lk, W, z0, q1, q2, hI, ↓reduceIte]; done) | (simp [St.get, lk, W, bne, z0, q1, q2, hI]; done) | (simp_all [St.get, lk, W, LN, bne]; done) | (simp_all [St.get, lk, W, LN, bne]; intros; first | omega | (rw [Bool.eq_iff_iff]; simp; try omega)))) ?_ ?_ ?_
    · simp
    · simp_all [St.get, lk, W, BClo]
    · simp [lk]
  ·
   simp (decide := true) only [W, Pr_prog, t_fldD_97_0, t_szD_34, t_aggD_34, t_elemD_34, t_szD_9, t_aggD_9, z0, q1, takeMap, le1, map1, ↓reduceIte, Int.reduceToNat]
   refine hK _ _ ?_
   clear hK K
   refine WP.cond (b := false) (by first | rfl | simp [W, z0, q1]) nofun (fun _ => ?_)
   refine WP.exit ?_
   show WP _ _ _ _ _ _
   refine WP.sr [2] (by kernel_rfl) fun K hK => ?_
   simp (decide := true) only [W, Pr_prog, t_fldD_97_1, t_fldD_36_3, t_szD_34, t_aggD_34, t_isStr_34, t_isSliceT_34, z0, q1, takeMap, le1, map1, ↓reduceIte, Int.reduceToNat]
   refine hK _ _ ?_
   clear hK K
   refine WP.ret ?_
   refine Ends.imp (.inr rfl) rfl (Le.of_eq (by first | (simp (decide := true) only [St.get, lk, W, z0, q1, hI, ↓reduceIte]; done) | (simp [St.get, lk, W, bne, z0, q1, hI]; done) | (simp_all [St.get, lk, W, LN, bne]; done) | (simp_all [St.get, lk, W, LN, bne]; intros; first | omega | (rw [Bool.eq_iff_iff]; simp; try omega)))) ?_ ?_ ?_
   · simp
   · simp_all [St.get, lk, W, BClo]
   · simp [lk]
end Go.Proofs

set_option linter.unusedSimpArgs false
set_option linter.unusedVariables false
namespace Go.Proofs
open Go Go.Id
def rdScp (ok : Bool) (w : Wds) : Bool × Wds × Wds := if ok then (if hdB w [115, 99, 111, 112, 101, 115] then (decide (((scR w.tail []).2.length : Int) > 0), (scR w.tail []).1, (scR w.tail []).2) else (true, w, [])) else (false, w, [])
def readF (ws : Wds) : Bool × Wds × List Cond × Wds × Int × Int :=
  match cdR (ws.length + 1) [105, 102] ws [] with
  | (ok, w1, c1) => match rdScp ok w1 with
    | (ok2, w2, s2) => match cntR w2 [108, 101, 118, 101, 108] with
      | (n1, b1, w3) => match cntR w3 [97, 103, 101] with
        | (n2, b2, w4) => (ok2 && b1 && b2 && ((w4.length : Int) == 0), w4, c1, s2, n1, n2)
theorem cdR_succ (n : Nat) (lead : List UInt8) (ws : Wds) (cs : List Cond) : cdR (n + 1) lead ws cs = if hdB ws lead then (if cdV ws.tail then cdR n [97, 110, 100] (cdW ws.tail) (cdC ws.tail cs) else (false, cdW ws.tail, cdC ws.tail cs)) else (true, ws, cs) := rfl
theorem tlW_t {ws : Wds} {w : List UInt8} (h : hdB ws w = true) : tlW ws w = ws.tail := by simp [tlW, h]
theorem tlW_f {ws : Wds} {w : List UInt8} (h : hdB ws w = false) : tlW ws w = ws := by simp [tlW, h]
theorem cntR_f {ws : Wds} {w : List UInt8} (h : hdB ws w = false) : cntR ws w = (0, true, ws) := by simp [cntR, h]
theorem cntR_n {ws : Wds} {w : List UInt8} (h : hdB ws w = true) (h2 : ws.tail = []) : cntR ws w = (0, false, []) := by simp [cntR, h, h2]
theorem cntR_c {ws : Wds} {w x : List UInt8} {u : Wds} (h : hdB ws w = true) (h2 : ws.tail = x :: u) : cntR ws w = ((rdN x).1, (rdN x).2 == 0 && (rdN x).1 != 0, u) := by simp [cntR, h, h2]
theorem rdScp_suf {ok : Bool} {u : Wds} {E : Bool × Wds × Wds} (h : rdScp ok u = E) : (∀ x ∈ E.2.1, x ∈ u) ∧ E.2.1.length ≤ u.length := by
  subst h
  unfold rdScp
  split
  · split
    · have h1 := scR_mem u.tail []
      have h2 := scR_len u.tail []
      refine ⟨fun x hx => List.mem_of_mem_tail (h1.1 x hx), ?_⟩
      have : u.tail.length ≤ u.length := by simp
      simp only
      omega
    · exact ⟨fun x hx => hx, Nat.le_refl _⟩
  · exact ⟨fun x hx => hx, Nat.le_refl _⟩
theorem readF_eq {ws w1 w2 s2 w3 w4 : Wds} {c1 : List Cond} {ok ok2 b1 b2 : Bool} {n1 n2 : Int} (h1 : cdR (ws.length + 1) [105, 102] ws [] = (ok, w1, c1)) (h2 : rdScp ok w1 = (ok2, w2, s2)) (h3 : cntR w2 [108, 101, 118, 101, 108] = (n1, b1, w3)) (h4 : cntR w3 [97, 103, 101] = (n2, b2, w4)) :
    readF ws = (ok2 && b1 && b2 && ((w4.length : Int) == 0), w4, c1, s2, n1, n2) := by
  simp only [readF, h1, h2, h3, h4]
theorem cdC_len (ws : Wds) (cs : List Cond) : (cdC ws cs).length + (cdW ws).length ≤ cs.length + ws.length := by
  rcases cd_cases ws with ⟨_, _, h, h'⟩ | ⟨f, op, v, t, rfl⟩
  · rw [h, h']; exact Nat.le_refl _
  · simp [cdW, cdC]; omega
theorem tail_len {ws : Wds} {w : List UInt8} (h : hdB ws w = true) : ws.tail.length + 1 = ws.length := by
  cases ws with
  | nil => cases h
  | cons => simp
end Go.Proofs

set_option linter.unusedSimpArgs false
set_option linter.unusedVariables false
set_option maxRecDepth 10000
namespace Go.Proofs
open Go Go.Id

theorem c_count (ws : Wds) (cs : List Cond) (sc : Wds) (lv ag : Int) (nm : List UInt8) (dn : Bool) (w : List UInt8) (hw : ws.length ≤ 1099511627776) (hv : ∀ x ∈ ws, x.length ≤ 1099511627776) : CallE Pr 117 [.ref 0 0, .str w] [(0, .box 97 [.slice 1 false ((ws).map fun x => [D.str x]) none, .str nm, .bool dn, .slice 3 (cs).isEmpty ((cs).map Cond.cs) (some 1), .slice 1 (sc).isEmpty ((sc).map fun x => [D.str x]) (some 2), .int .i64 (lv), .int .i64 (ag)]), (1, .tip 43 3 (cs).length), (2, .tip 9 1 (sc).length)] (.tup [.int .i64 (cntR ws w).1, .bool (cntR ws w).2.1]) [(0, .box 97 [.slice 1 false (((cntR ws w).2.2).map fun x => [D.str x]) none, .str nm, .bool dn, .slice 3 (cs).isEmpty ((cs).map Cond.cs) (some 1), .slice 1 (sc).isEmpty ((sc).map fun x => [D.str x]) (some 2), .int .i64 (lv), .int .i64 (ag)]), (1, .tip 43 3 (cs).length), (2, .tip 9 1 (sc).length)] := by
 refine CallE.of_wp Tryz.func117 rfl (by kernel_rfl) Tryz.ntmps117 (by simp) ?_
 simp only [frameOf, Nat.reduceAdd, Nat.zero_add, List.map_cons, List.map_nil]
 refine WP.sr [0, 1] (by kernel_rfl) fun K hK => ?_
 simp (decide := true) only [W, Pr_prog, takeMap, le1, ↓reduceIte, Int.reduceToNat]
 refine hK _ _ ?_
 clear hK K
 refine WP.seq ?_
 refine WP.sr [0, 11] (by kernel_rfl) fun K hK => ?_
 simp (decide := true) only [W, Pr_prog, takeMap, le1, ↓reduceIte, Int.reduceToNat]
 refine CallK.imp (c_next ws cs sc lv ag nm dn w hw) rfl rfl (by simp [lk, BClo, -List.map_tail]) (by simp [lk]) (by simp [lk]) ?_
 simp (decide := true) only [W, Pr_prog, takeMap, le1, ↓reduceIte, Int.reduceToNat]
 refine hK _ _ ?_
 clear hK K
 refine WP.cond (b := _) rfl (fun q1 => ?_) (fun q1 => ?_)
 ·
  simp only [Bool.not_eq_true', Bool.not_eq_false'] at q1
  have ht := tlW_f q1
  have hc := cntR_f q1
  refine WP.sr [4, 5] (by kernel_rfl) fun K hK => ?_
  simp (decide := true) only [W, Pr_prog, q1, ht, hc, takeMap, le1, ↓reduceIte, Int.reduceToNat]
  refine hK _ _ ?_
  clear hK K
  refine WP.ret ?_
  refine Ends.imp (d := .tup [_, _]) (.inr rfl) rfl (Le.of_eq (by first | (simp (decide := true) only [St.get, lk, W, q1, ht, hc, ↓reduceIte]; done) | (simp [St.get, lk, W, bne, q1, ht, hc]; done) | (simp_all [St.get, lk, W, LN, bne]; done) | (simp_all [St.get, lk, W, LN, bne]; intros; first | omega | (rw [Bool.eq_iff_iff]; simp; try omega)))) ?_ ?_ ?_
  · simp
  · simp [St.get, lk, W, BClo, q1, ht, hc, W, Cond.cs, or_imp, forall_and]
  · simp [lk]
 ·
  simp only [Bool.not_eq_true', Bool.not_eq_false'] at q1
  have ht := tlW_t q1
  have hd := q1
  refine WP.skip ?_
  show WP _ _ _ _ _ _
  refine WP.seq ?_
  rcases hd_cases ws.tail with hx | ⟨x, u, hx⟩
  ·
   have hc := cntR_n hd hx
   have z0 : (((0 : Nat) : Int) == 0) = true := rfl
   refine WP.sr [0, 17] (by kernel_rfl) fun K hK => ?_
   simp (decide := true) only [W, Pr_prog, t_fldD_97_0, t_szD_34, t_aggD_34, t_isStr_34, t_isSliceT_34, q1, ht, hx, hc, z0, takeMap, le1, ↓reduceIte, Int.reduceToNat]
   refine hK _ _ ?_
   clear hK K
   refine WP.cond (b := true) (by first | rfl | simp [W, q1, ht, hx, hc, z0]) (fun _ => ?_) nofun
   refine WP.sr [4, 5] (by kernel_rfl) fun K hK => ?_
   simp (decide := true) only [W, Pr_prog, q1, ht, hx, hc, z0, takeMap, le1, ↓reduceIte, Int.reduceToNat]
   refine hK _ _ ?_
   clear hK K
   refine WP.ret ?_
   refine Ends.imp (d := .tup [_, _]) (.inr rfl) rfl (Le.of_eq (by first | (simp (decide := true) only [St.get, lk, W, q1, ht, hx, hc, z0, ↓reduceIte]; done) | (simp [St.get, lk, W, bne, q1, ht, hx, hc, z0]; done) | (simp_all [St.get, lk, W, LN, bne]; done) | (simp_all [St.get, lk, W, LN, bne]; intros; first | omega | (rw [Bool.eq_iff_iff]; simp; try omega)))) ?_ ?_ ?_
   · simp
   · simp [St.get, lk, W, BClo, q1, ht, hx, hc, z0, W, Cond.cs, or_imp, forall_and]
   · simp [lk]
  ·
   have hc := cntR_c hd hx
   have z0 : (((u.length + 1 : Nat) : Int) == 0) = false := by rw [beq_eq_false_iff_ne]; omega
   have hxm : x ∈ ws := List.mem_of_mem_tail (by rw [hx]; simp)
   refine WP.sr [0, 17] (by kernel_rfl) fun K hK => ?_
   simp (decide := true) only [W, Pr_prog, t_fldD_97_0, t_szD_34, t_aggD_34, t_isStr_34, t_isSliceT_34, q1, ht, hx, hc, z0, takeMap, le1, ↓reduceIte, Int.reduceToNat]
   refine hK _ _ ?_
   clear hK K
   refine WP.cond (b := false) (by first | rfl | simp [W, q1, ht, hx, hc, z0]) nofun (fun _ => ?_)
   refine WP.skip ?_
   show WP _ _ _ _ _ _
   refine WP.sr [0, 6, 7] (by kernel_rfl) fun K hK => ?_
   simp (decide := true) only [W, Pr_prog, t_fldD_97_0, t_szD_34, t_aggD_34, t_elemD_34, t_szD_9, t_aggD_9, q1, ht, hx, hc, z0, takeMap, le1, ↓reduceIte, Int.reduceToNat]
   refine CallK.pure (c_number x (hv x hxm)) rfl rfl (by simp [-List.map_take]) ?_
   simp (decide := true) only [W, Pr_prog, q1, ht, hx, hc, z0, takeMap, le1, ↓reduceIte, Int.reduceToNat]
   refine hK _ _ ?_
   clear hK K
   refine WP.sr [6, 7] (by kernel_rfl) fun K hK => ?_
   simp (decide := true) only [W, Pr_prog, t_fldD_97_0, t_szD_34, t_aggD_34, t_isStr_34, t_elemD_34, q1, ht, hx, hc, z0, takeMap, le1, ↓reduceIte, Int.reduceToNat]
   refine hK _ _ ?_
   clear hK K
   refine WP.sr [4, 5] (by kernel_rfl) fun K hK => ?_
   refine runOps.take 3 fun J hJ => ?_
   simp (decide := true) only [W, Pr_prog, q1, ht, hx, hc, z0, takeMap, le1, ↓reduceIte, Int.reduceToNat]
   refine hJ _ _ ?_
   clear hJ J
   refine runOps.part 38 rfl (fun q2 => ?_) (fun q2 => ?_)
   ·
    simp (decide := true) only [W, Pr_prog, q1, ht, hx, hc, z0, q2, takeMap, le1, ↓reduceIte, Int.reduceToNat]
    refine hK _ _ ?_
    clear hK K
    refine WP.ret ?_
    refine Ends.imp (d := .tup [_, _]) (.inr rfl) rfl (Le.of_eq (by first | (simp (decide := true) only [St.get, lk, W, q1, ht, hx, hc, z0, q2, ↓reduceIte]; done) | (simp [St.get, lk, W, bne, q1, ht, hx, hc, z0, q2]; done) | (simp_all [St.get, lk, W, LN, bne]; done) | (simp_all [St.get, lk, W, LN, bne]; intros; first | omega | (rw [Bool.eq_iff_iff]; simp; try omega)))) ?_ ?_ ?_
    · simp
    · simp [St.get, lk, W, BClo, q1, ht, hx, hc, z0, q2, W, Cond.cs, or_imp, forall_and]
    · simp [lk]
   ·
    simp (decide := true) only [W, Pr_prog, q1, ht, hx, hc, z0, q2, takeMap, le1, ↓reduceIte, Int.reduceToNat]
    refine hK _ _ ?_
    clear hK K
    refine WP.ret ?_
    refine Ends.imp (d := .tup [_, _]) (.inr rfl) rfl (Le.of_eq (by first | (simp (decide := true) only [St.get, lk, W, q1, ht, hx, hc, z0, q2, ↓reduceIte]; done) | (simp [St.get, lk, W, bne, q1, ht, hx, hc, z0, q2]; done) | (simp_all [St.get, lk, W, LN, bne]; done) | (simp_all [St.get, lk, W, LN, bne]; intros; first | omega | (rw [Bool.eq_iff_iff]; simp; try omega)))) ?_ ?_ ?_
    · simp
    · simp [St.get, lk, W, BClo, q1, ht, hx, hc, z0, q2, W, Cond.cs, or_imp, forall_and]
    · simp [lk]
theorem c_read (ws : Wds) (nm : List UInt8) (dn : Bool) (hw : ws.length ≤ 1099511627770) (hv : ∀ x ∈ ws, x.length ≤ 1099511627776) : CallE Pr 84 [.ref 0 0, .int .i64 0] [(0, .box 97 [.slice 1 false ((ws).map fun x => [D.str x]) none, .str nm, .bool dn, .slice 3 (([] : List Cond)).isEmpty ((([] : List Cond)).map Cond.cs) (some 1), .slice 1 (([] : Wds)).isEmpty ((([] : Wds)).map fun x => [D.str x]) (some 2), .int .i64 (0), .int .i64 (0)]), (1, .tip 43 3 (([] : List Cond)).length), (2, .tip 9 1 (([] : Wds)).length)] (.bool (readF ws).1) [(0, .box 97 [.slice 1 false (((readF ws).2.1).map fun x => [D.str x]) none, .str nm, .bool dn, .slice 3 ((readF ws).2.2.1).isEmpty (((readF ws).2.2.1).map Cond.cs) (some 1), .slice 1 ((readF ws).2.2.2.1).isEmpty (((readF ws).2.2.2.1).map fun x => [D.str x]) (some 2), .int .i64 ((readF ws).2.2.2.2.1), .int .i64 ((readF ws).2.2.2.2.2)]), (1, .tip 43 3 ((readF ws).2.2.1).length), (2, .tip 9 1 ((readF ws).2.2.2.1).length)] := by
 have z00 : ((0 : Int) == 0) = true := rfl
 refine CallE.of_wp Tryz.func84 rfl (by kernel_rfl) Tryz.ntmps84 (by simp) ?_
 simp only [frameOf, Nat.reduceAdd, Nat.zero_add, List.map_cons, List.map_nil]
 refine WP.sr [0, 1] (by kernel_rfl) fun K hK => ?_
 simp (decide := true) only [W, Pr_prog, z00, z00, ↓reduceIte, Int.reduceToNat]
 refine hK _ _ ?_
 clear hK K
 refine WP.sr [0, 1, 5] (by kernel_rfl) fun K hK => ?_
 simp (decide := true) only [W, Pr_prog, z00, z00, ↓reduceIte, Int.reduceToNat]
 refine hK _ _ ?_
 clear hK K
 refine WP.seq ?_
 refine WP.sr [0, 5, 11] (by kernel_rfl) fun K hK => ?_
 simp (decide := true) only [W, Pr_prog, z00, z00, ↓reduceIte, Int.reduceToNat]
 refine hK _ _ ?_
 clear hK K
 refine WP.block ?_
 refine WP.seq ?_
 refine WP.block ?_
 refine WP.seq ?_
 refine WP.block ?_
 refine WP.seq ?_
 refine WP.block ?_
 refine WP.seq ?_
 refine WP.block ?_
 refine WP.seq ?_
 refine WP.block ?_
 refine WP.seq ?_
 refine WP.seq ?_
 refine WP.sr [0, 5, 11, 12] (by kernel_rfl) fun K hK => ?_
 simp (decide := true) only [W, Pr_prog, z00, z00, ↓reduceIte, Int.reduceToNat]
 refine hK _ _ ?_
 clear hK K
 refine WP.cond (b := true) (by first | rfl | simp [W, z00]) (fun _ => ?_) nofun
 refine WP.exit ?_
 show WP _ _ _ _ _ _
 refine WP.sr [0, 5, 6] (by kernel_rfl) fun K hK => ?_
 simp (decide := true) only [W, Pr_prog, z00, z00, ↓reduceIte, Int.reduceToNat]
 refine hK _ _ ?_
 clear hK K
 refine WP.block ?_
 refine WP.lp [0] (X := {x : (Nat) × (Wds) × (List Cond) × (Bool) × (List UInt8) // match x with | (n, u, cs, ok, lead) => u.length < n ∧ cs.length + u.length ≤ 1099511627770 ∧ (∀ x ∈ u, x ∈ ws) ∧ cdR (ws.length + 1) [105, 102] ws [] = (if ok then cdR n lead u cs else (false, u, cs))}) (fun x => match x with | ⟨(n, u, cs, ok, lead), _⟩ => [(5, .bool ok), (6, .str lead)]) (fun x => match x with | ⟨(n, u, cs, ok, lead), _⟩ => [(0, .box 97 [.slice 1 false ((u).map fun x => [D.str x]) none, .str nm, .bool dn, .slice 3 (cs).isEmpty ((cs).map Cond.cs) (some 1), .slice 1 (([] : Wds)).isEmpty ((([] : Wds)).map fun x => [D.str x]) (some 2), .int .i64 (0), .int .i64 (0)]), (1, .tip 43 3 (cs).length), (2, .tip 9 1 (([] : Wds)).length)]) (fun x => match x with | ⟨(n, u, cs, ok, lead), _⟩ => 2 * u.length + (if ok then 1 else 0)) (by simp (decide := true) only [W, ↓reduceIte, Int.reduceToNat]; rfl) ?_ ⟨(ws.length + 1, ws, [], true, [105, 102]), ⟨by omega, by simpa using hw, fun x hx => hx, rfl⟩⟩ ?_
 rotate_left
 · exact Weak.store (by simp [St.get, lk, W, Le.refl]) (by simp [lk, W]) (by simp [lk, W]) (by simp [BClo, lk]) (by simp [lk])
 rintro ⟨⟨n, u, cs, ok, lead⟩, hn, hl, hm, hI⟩
 dsimp only
 simp only [List.cons_append, List.nil_append]
 obtain ⟨m, rfl⟩ : ∃ m, n = m + 1 := ⟨n - 1, by omega⟩
 refine WP.seq ?_
 refine WP.sr [0, 5, 27] (by kernel_rfl) fun K hK => ?_
 refine runOps.take 2 fun J hJ => ?_
 simp (decide := true) only [W, Pr_prog, z00, z00, ↓reduceIte, Int.reduceToNat]
 refine hJ _ _ ?_
 clear hJ J
 refine runOps.part 23 rfl (fun q1 => ?_) (fun q1 => ?_)
 ·
  rw [if_pos q1] at hI
  simp (decide := true) only [W, Pr_prog, z00, q1, z00, ↓reduceIte, Int.reduceToNat]
  refine CallK.imp (c_next u cs [] 0 0 nm dn lead (by omega)) rfl rfl (by simp [lk, BClo, -List.map_tail]) (by simp [lk]) (by simp [lk]) ?_
  simp (decide := true) only [W, Pr_prog, z00, q1, z00, ↓reduceIte, Int.reduceToNat]
  refine hK _ _ ?_
  clear hK K
  refine WP.cond (b := _) rfl (fun q2 => ?_) (fun q2 => ?_)
  ·
   have hd := q2
   have ht := tlW_t hd
   refine WP.skip ?_
   show WP _ _ _ _ _ _
   refine WP.seq ?_
   refine WP.block ?_
   refine WP.region (by kernel_rfl) fun K hK => ?_
   simp (decide := true) only [W, Pr_prog, z00, q1, q2, ht, z00, ↓reduceIte, Int.reduceToNat]
   refine CallK.imp (c_condition u.tail cs [] 0 0 nm dn (fun x hx => hv x (hm x (List.mem_of_mem_tail hx))) (by omega)) rfl rfl (by simp [lk, BClo, -List.map_tail]) (by simp [lk]) (by simp [lk]) ?_
   simp (decide := true) only [W, Pr_prog, z00, q1, q2, ht, z00, ↓reduceIte, Int.reduceToNat]
   refine hK _ _ ?_
   clear hK K
   show WP _ _ _ _ _ _
   refine WP.region (by kernel_rfl) fun K hK => ?_
   simp (decide := true) only [W, Pr_prog, z00, q1, q2, ht, z00, ↓reduceIte, Int.reduceToNat]
   refine hK _ _ ?_
   clear hK K
   show ∃ y, _ ∧ Weak _ _ _
   have hct := cdC_len u.tail cs
   have htl := tail_len hd
   have hcw := cdW_len u.tail
   rw [cdR_succ m lead u cs, if_pos hd] at hI
   refine ⟨⟨(m, cdW u.tail, cdC u.tail cs, cdV u.tail, [97, 110, 100]), ?_⟩, ?_, ?_⟩
   · refine ⟨by dsimp only; omega, by dsimp only; omega, fun x hx => hm x (List.mem_of_mem_tail (cdW_mem _ x hx)), hI⟩
   · dsimp only; split <;> simp <;> omega
   · exact Weak.store (by simp [St.get, lk, W, Le.refl]) (by simp [lk, W]) (by simp [lk, W]) (by simp [BClo, lk]) (by simp [lk])
  ·
   have ht := tlW_f q2
   rw [cdR_succ m lead u cs, if_neg (by rw [q2]; decide)] at hI
   have hcR : cdR (ws.length + 1) [105, 102] ws [] = (ok, u, cs) := by rw [hI]; simp_all
   refine WP.exit ?_
   show WP _ _ _ _ _ _
   refine WP.meetN ⟨[(5, .bool (rdScp ok u).1), (0, .ref 0 0)], [(0, .box 97 [.slice 1 false (((rdScp ok u).2.1).map fun x => [D.str x]) none, .str nm, .bool dn, .slice 3 (cs).isEmpty ((cs).map Cond.cs) (some 1), .slice 1 ((rdScp ok u).2.2).isEmpty (((rdScp ok u).2.2).map fun x => [D.str x]) (some 2), .int .i64 (0), .int .i64 (0)]), (1, .tip 43 3 (cs).length), (2, .tip 9 1 ((rdScp ok u).2.2).length)]⟩ ?_ (fun st' hw' => ?_)
   ·
    refine WP.region (by kernel_rfl) fun K hK => ?_
    simp (decide := true) only [W, Pr_prog, z00, q1, q2, ht, z00, ↓reduceIte, Int.reduceToNat]
    refine CallK.imp (c_next u cs [] 0 0 nm dn [115, 99, 111, 112, 101, 115] (by omega)) rfl rfl (by simp [lk, BClo, -List.map_tail]) (by simp [lk]) (by simp [lk]) ?_
    refine runOps.take 2 fun J hJ => ?_
    simp (decide := true) only [W, Pr_prog, z00, q1, q2, ht, z00, ↓reduceIte, Int.reduceToNat]
    refine hJ _ _ ?_
    clear hJ J
    refine runOps.part 35 rfl (fun q3 => ?_) (fun q3 => ?_)
    ·
     simp only [Bool.not_eq_true', Bool.not_eq_false'] at q3
     have hd : hdB u [115, 99, 111, 112, 101, 115] = false := by simpa using q3
     have ht := tlW_f hd
     simp (decide := true) only [W, Pr_prog, z00, q1, q2, ht, q3, ht, hd, z00, ↓reduceIte, Int.reduceToNat]
     refine hK _ _ ?_
     clear hK K
     refine ⟨rfl, ?_⟩
     show Weak _ _ _
     exact Weak.store (by simp [St.get, lk, W, Le.refl, z00, q1, q2, ht, q3, ht, hd, rdScp]) (by simp [lk, W, z00, q1, q2, ht, q3, ht, hd, rdScp]) (by simp [lk, W]) (by simp [BClo, lk, -List.map_tail]) (by simp [lk])
    ·
     simp only [Bool.not_eq_true', Bool.not_eq_false'] at q3
     have hd : hdB u [115, 99, 111, 112, 101, 115] = true := by simpa using q3
     have ht := tlW_t hd
     have htl := tail_len hd
     simp (decide := true) only [W, Pr_prog, z00, q1, q2, ht, q3, ht, hd, z00, ↓reduceIte, Int.reduceToNat]
     refine CallK.imp (c_scopes u.tail cs [] 0 0 nm dn (by simp; omega)) rfl rfl (by simp [lk, BClo, -List.map_tail]) (by simp [lk]) (by simp [lk]) ?_
     simp (decide := true) only [W, Pr_prog, z00, q1, q2, ht, q3, ht, hd, z00, ↓reduceIte, Int.reduceToNat]
     refine hK _ _ ?_
     clear hK K
     refine ⟨rfl, ?_⟩
     show Weak _ _ _
     exact Weak.store (by simp [St.get, lk, W, Le.refl, z00, q1, q2, ht, q3, ht, hd, rdScp]) (by simp [lk, W, z00, q1, q2, ht, q3, ht, hd, rdScp]) (by simp [lk, W]) (by simp [BClo, lk, -List.map_tail]) (by simp [lk])
   ·
    show WP _ _ _ _ _ _
    refine WP.weak hw' ?_
    clear hw' st'
    clear hn hI
    generalize hE : rdScp ok u = E at *
    obtain ⟨ok2, w2, s2⟩ := E
    dsimp only
    have hw2 := rdScp_suf hE
    dsimp only at hw2
    refine WP.sr [0, 5, 7, 8] (by kernel_rfl) fun K hK => ?_
    simp (decide := true) only [W, Pr_prog, z00, q1, q2, ht, z00, ↓reduceIte, Int.reduceToNat]
    refine CallK.imp (c_count w2 cs s2 0 0 nm dn [108, 101, 118, 101, 108] (by omega) (fun x hx => hv x (hm x (hw2.1 x hx)))) rfl rfl (by simp [lk, BClo, -List.map_tail]) (by simp [lk]) (by simp [lk]) ?_
    simp (decide := true) only [W, Pr_prog, z00, q1, q2, ht, z00, ↓reduceIte, Int.reduceToNat]
    refine hK _ _ ?_
    clear hK K
    refine WP.meetN ⟨[(5, .bool (ok2 && (cntR w2 [108, 101, 118, 101, 108]).2.1)), (0, .ref 0 0)], [(0, .box 97 [.slice 1 false (((cntR w2 [108, 101, 118, 101, 108]).2.2).map fun x => [D.str x]) none, .str nm, .bool dn, .slice 3 (cs).isEmpty ((cs).map Cond.cs) (some 1), .slice 1 (s2).isEmpty ((s2).map fun x => [D.str x]) (some 2), .int .i64 ((cntR w2 [108, 101, 118, 101, 108]).1), .int .i64 (0)]), (1, .tip 43 3 (cs).length), (2, .tip 9 1 (s2).length)]⟩ ?_ (fun st' hw' => ?_)
    ·
     refine WP.region (by kernel_rfl) fun K hK => ?_
     refine runOps.take 4 fun J hJ => ?_
     simp (decide := true) only [W, Pr_prog, z00, q1, q2, ht, z00, ↓reduceIte, Int.reduceToNat]
     refine hJ _ _ ?_
     clear hJ J
     refine runOps.part 48 rfl (fun q4 => ?_) (fun q4 => ?_)
     ·
      simp (decide := true) only [W, Pr_prog, t_fldD_97_1, t_fldD_36_4, t_szD_3, z00, q1, q2, ht, q4, z00, ↓reduceIte, Int.reduceToNat]
      refine hK _ _ ?_
      clear hK K
      refine ⟨rfl, ?_⟩
      show Weak _ _ _
      exact Weak.store (by simp [St.get, lk, W, Le.refl, z00, q1, q2, ht, q4, W]) (by simp [lk, W, z00, q1, q2, ht, q4, W]) (by simp [lk, W]) (by simp [BClo, lk, -List.map_tail]) (by simp [lk])
     ·
      simp (decide := true) only [W, Pr_prog, t_fldD_97_1, t_fldD_36_4, t_szD_3, z00, q1, q2, ht, q4, z00, ↓reduceIte, Int.reduceToNat]
      refine hK _ _ ?_
      clear hK K
      refine ⟨rfl, ?_⟩
      show Weak _ _ _
      exact Weak.store (by simp [St.get, lk, W, Le.refl, z00, q1, q2, ht, q4, W]) (by simp [lk, W, z00, q1, q2, ht, q4, W]) (by simp [lk, W]) (by simp [BClo, lk, -List.map_tail]) (by simp [lk])
    ·
     show WP _ _ _ _ _ _
     refine WP.weak hw' ?_
     clear hw' st'
     have hw3 := cntR_suf w2 [108, 101, 118, 101, 108]
     generalize hL : cntR w2 [108, 101, 118, 101, 108] = E at *
     obtain ⟨n1, b1, w3⟩ := E
     dsimp only at *
     refine WP.sr [0, 5, 9, 10] (by kernel_rfl) fun K hK => ?_
     simp (decide := true) only [W, Pr_prog, z00, q1, q2, ht, z00, ↓reduceIte, Int.reduceToNat]
     refine CallK.imp (c_count w3 cs s2 n1 0 nm dn [97, 103, 101] (by omega) (fun x hx => hv x (hm x (hw2.1 x (hw3.1 x hx))))) rfl rfl (by simp [lk, BClo, -List.map_tail]) (by simp [lk]) (by simp [lk]) ?_
     simp (decide := true) only [W, Pr_prog, z00, q1, q2, ht, z00, ↓reduceIte, Int.reduceToNat]
     refine hK _ _ ?_
     clear hK K
     refine WP.meetN ⟨[(5, .bool (ok2 && b1 && (cntR w3 [97, 103, 101]).2.1)), (0, .ref 0 0)], [(0, .box 97 [.slice 1 false (((cntR w3 [97, 103, 101]).2.2).map fun x => [D.str x]) none, .str nm, .bool dn, .slice 3 (cs).isEmpty ((cs).map Cond.cs) (some 1), .slice 1 (s2).isEmpty ((s2).map fun x => [D.str x]) (some 2), .int .i64 (n1), .int .i64 ((cntR w3 [97, 103, 101]).1)]), (1, .tip 43 3 (cs).length), (2, .tip 9 1 (s2).length)]⟩ ?_ (fun st' hw' => ?_)
     ·
      refine WP.region (by kernel_rfl) fun K hK => ?_
      refine runOps.take 4 fun J hJ => ?_
      simp (decide := true) only [W, Pr_prog, z00, q1, q2, ht, z00, ↓reduceIte, Int.reduceToNat]
      refine hJ _ _ ?_
      clear hJ J
      refine runOps.part 62 rfl (fun q5 => ?_) (fun q5 => ?_)
      ·
       simp (decide := true) only [W, Pr_prog, t_fldD_97_1, t_fldD_36_5, t_szD_3, z00, q1, q2, ht, q5, z00, ↓reduceIte, Int.reduceToNat]
       refine hK _ _ ?_
       clear hK K
       refine ⟨rfl, ?_⟩
       show Weak _ _ _
       exact Weak.store (by simp [St.get, lk, W, Le.refl, z00, q1, q2, ht, q5, W]) (by simp [lk, W, z00, q1, q2, ht, q5, W]) (by simp [lk, W]) (by simp [BClo, lk, -List.map_tail]) (by simp [lk])
      ·
       simp (decide := true) only [W, Pr_prog, t_fldD_97_1, t_fldD_36_5, t_szD_3, z00, q1, q2, ht, q5, z00, ↓reduceIte, Int.reduceToNat]
       refine hK _ _ ?_
       clear hK K
       refine ⟨rfl, ?_⟩
       show Weak _ _ _
       exact Weak.store (by simp [St.get, lk, W, Le.refl, z00, q1, q2, ht, q5, W]) (by simp [lk, W, z00, q1, q2, ht, q5, W]) (by simp [lk, W]) (by simp [BClo, lk, -List.map_tail]) (by simp [lk])
     ·
      show WP _ _ _ _ _ _
      refine WP.weak hw' ?_
      clear hw' st'
      have hw4 := cntR_suf w3 [97, 103, 101]
      generalize hA : cntR w3 [97, 103, 101] = E at *
      obtain ⟨n2, b2, w4⟩ := E
      dsimp only at *
      have hRF := readF_eq hcR hE hL hA
      refine WP.sr [5] (by kernel_rfl) fun K hK => ?_
      refine runOps.take 2 fun J hJ => ?_
      simp (decide := true) only [W, Pr_prog, z00, q1, q2, ht, hRF, z00, ↓reduceIte, Int.reduceToNat]
      refine hJ _ _ ?_
      clear hJ J
      refine runOps.part 69 rfl (fun q6 => ?_) (fun q6 => ?_)
      ·
       simp (decide := true) only [W, Pr_prog, t_fldD_97_0, t_szD_34, t_aggD_34, t_isStr_34, t_isSliceT_34, z00, q1, q2, ht, hRF, q6, z00, ↓reduceIte, Int.reduceToNat]
       refine hK _ _ ?_
       clear hK K
       refine WP.exit ?_
       show WP _ _ _ _ _ _
       refine WP.sr [4] (by kernel_rfl) fun K hK => ?_
       simp (decide := true) only [W, Pr_prog, z00, q1, q2, ht, hRF, q6, z00, ↓reduceIte, Int.reduceToNat]
       refine hK _ _ ?_
       clear hK K
       refine WP.ret ?_
       refine Ends.imp (.inr rfl) rfl (Le.of_eq (by first | (simp (decide := true) only [St.get, lk, W, z00, q1, q2, ht, hRF, q6, ↓reduceIte]; done) | (simp [St.get, lk, W, bne, z00, q1, q2, ht, hRF, q6]; done) | (simp_all [St.get, lk, W, LN, bne]; done) | (simp_all [St.get, lk, W, LN, bne]; intros; first | omega | (rw [Bool.eq_iff_iff]; simp; try omega)))) ?_ ?_ ?_
       · simp
       · simp [St.get, lk, W, BClo, z00, q1, q2, ht, hRF, q6, W, Cond.cs, or_imp, forall_and]
       · simp [lk]
      ·
       simp (decide := true) only [W, Pr_prog, t_fldD_97_0, t_szD_34, t_aggD_34, t_isStr_34, t_isSliceT_34, z00, q1, q2, ht, hRF, q6, z00, ↓reduceIte, Int.reduceToNat]
       refine hK _ _ ?_
       clear hK K
       refine WP.exit ?_
       show WP _ _ _ _ _ _
       refine WP.sr [4] (by kernel_rfl) fun K hK => ?_
       simp (decide := true) only [W, Pr_prog, z00, q1, q2, ht, hRF, q6, z00, ↓reduceIte, Int.reduceToNat]
       refine hK _ _ ?_
       clear hK K
       refine WP.ret ?_
       refine Ends.imp (.inr rfl) rfl (Le.of_eq (by first | (simp (decide := true) only [St.get, lk, W, z00, q1, q2, ht, hRF, q6, ↓reduceIte]; done) | (simp [St.get, lk, W, bne, z00, q1, q2, ht, hRF, q6]; done) | (simp_all [St.get, lk, W, LN, bne]; done) | (simp_all [St.get, lk, W, LN, bne]; intros; first | omega | (rw [Bool.eq_iff_iff]; simp; try omega)))) ?_ ?_ ?_
       · simp
       · simp [St.get, lk, W, BClo, z00, q1, q2, ht, hRF, q6, W, Cond.cs, or_imp, forall_and]
       · simp [lk]
 ·
  rw [if_neg (by rw [q1]; decide)] at hI
  have hcR : cdR (ws.length + 1) [105, 102] ws [] = (ok, u, cs) := by rw [hI, q1]
  simp (decide := true) only [W, Pr_prog, z00, q1, z00, ↓reduceIte, Int.reduceToNat]
  refine hK _ _ ?_
  clear hK K
  refine WP.cond (b := false) (by first | rfl | simp [W, z00, q1]) nofun (fun _ => ?_)
  refine WP.exit ?_
  show WP _ _ _ _ _ _
  refine WP.meetN ⟨[(5, .bool (rdScp ok u).1), (0, .ref 0 0)], [(0, .box 97 [.slice 1 false (((rdScp ok u).2.1).map fun x => [D.str x]) none, .str nm, .bool dn, .slice 3 (cs).isEmpty ((cs).map Cond.cs) (some 1), .slice 1 ((rdScp ok u).2.2).isEmpty (((rdScp ok u).2.2).map fun x => [D.str x]) (some 2), .int .i64 (0), .int .i64 (0)]), (1, .tip 43 3 (cs).length), (2, .tip 9 1 ((rdScp ok u).2.2).length)]⟩ ?_ (fun st' hw' => ?_)
  ·
   refine WP.region (by kernel_rfl) fun K hK => ?_
   simp (decide := true) only [W, Pr_prog, z00, q1, z00, ↓reduceIte, Int.reduceToNat]
   refine hK _ _ ?_
   clear hK K
   refine ⟨rfl, ?_⟩
   show Weak _ _ _
   exact Weak.store (by simp [St.get, lk, W, Le.refl, z00, q1, rdScp]) (by simp [lk, W, z00, q1, rdScp]) (by simp [lk, W]) (by simp [BClo, lk, -List.map_tail]) (by simp [lk])
  ·
   show WP _ _ _ _ _ _
   refine WP.weak hw' ?_
   clear hw' st'
   clear hn hI
   generalize hE : rdScp ok u = E at *
   obtain ⟨ok2, w2, s2⟩ := E
   dsimp only
   have hw2 := rdScp_suf hE
   dsimp only at hw2
   refine WP.sr [0, 5, 7, 8] (by kernel_rfl) fun K hK => ?_
   simp (decide := true) only [W, Pr_prog, z00, q1, z00, ↓reduceIte, Int.reduceToNat]
   refine CallK.imp (c_count w2 cs s2 0 0 nm dn [108, 101, 118, 101, 108] (by omega) (fun x hx => hv x (hm x (hw2.1 x hx)))) rfl rfl (by simp [lk, BClo, -List.map_tail]) (by simp [lk]) (by simp [lk]) ?_
   simp (decide := true) only [W, Pr_prog, z00, q1, z00, ↓reduceIte, Int.reduceToNat]
   refine hK _ _ ?_
   clear hK K
   refine WP.meetN ⟨[(5, .bool (ok2 && (cntR w2 [108, 101, 118, 101, 108]).2.1)), (0, .ref 0 0)], [(0, .box 97 [.slice 1 false (((cntR w2 [108, 101, 118, 101, 108]).2.2).map fun x => [D.str x]) none, .str nm, .bool dn, .slice 3 (cs).isEmpty ((cs).map Cond.cs) (some 1), .slice 1 (s2).isEmpty ((s2).map fun x => [D.str x]) (some 2), .int .i64 ((cntR w2 [108, 101, 118, 101, 108]).1), .int .i64 (0)]), (1, .tip 43 3 (cs).length), (2, .tip 9 1 (s2).length)]⟩ ?_ (fun st' hw' => ?_)
   ·
    refine WP.region (by kernel_rfl) fun K hK => ?_
    refine runOps.take 4 fun J hJ => ?_
    simp (decide := true) only [W, Pr_prog, z00, q1, z00, ↓reduceIte, Int.reduceToNat]
    refine hJ _ _ ?_
    clear hJ J
    refine runOps.part 48 rfl (fun q7 => ?_) (fun q7 => ?_)
    ·
     simp (decide := true) only [W, Pr_prog, t_fldD_97_1, t_fldD_36_4, t_szD_3, z00, q1, q7, z00, ↓reduceIte, Int.reduceToNat]
     refine hK _ _ ?_
     clear hK K
     refine ⟨rfl, ?_⟩
     show Weak _ _ _
     exact Weak.store (by simp [St.get, lk, W, Le.refl, z00, q1, q7, W]) (by simp [lk, W, z00, q1, q7, W]) (by simp [lk, W]) (by simp [BClo, lk, -List.map_tail]) (by simp [lk])
    ·
     simp (decide := true) only [W, Pr_prog, t_fldD_97_1, t_fldD_36_4, t_szD_3, z00, q1, q7, z00, ↓reduceIte, Int.reduceToNat]
     refine hK _ _ ?_
     clear hK K
     refine ⟨rfl, ?_⟩
     show Weak _ _ _
     exact Weak.store (by simp [St.get, lk, W, Le.refl, z00, q1, q7, W]) (by simp [lk, W, z00, q1, q7, W]) (by simp [lk, W]) (by simp [BClo, lk, -List.map_tail]) (by simp [lk])
   ·
    show WP _ _ _ _ _ _
    refine WP.weak hw' ?_
    clear hw' st'
    have hw3 := cntR_suf w2 [108, 101, 118, 101, 108]
    generalize hL : cntR w2 [108, 101, 118, 101, 108] = E at *
    obtain ⟨n1, b1, w3⟩ := E
    dsimp only at *
    refine WP.sr [0, 5, 9, 10] (by kernel_rfl) fun K hK => ?_
    simp (decide := true) only [W, Pr_prog, z00, q1, z00, ↓reduceIte, Int.reduceToNat]
    refine CallK.imp (c_count w3 cs s2 n1 0 nm dn [97, 103, 101] (by omega) (fun x hx => hv x (hm x (hw2.1 x (hw3.1 x hx))))) rfl rfl (by simp [lk, BClo, -List.map_tail]) (by simp [lk]) (by simp [lk]) ?_
    simp (decide := true) only [W, Pr_prog, z00, q1, z00, ↓reduceIte, Int.reduceToNat]
    refine hK _ _ ?_
    clear hK K
    refine WP.meetN ⟨[(5, .bool (ok2 && b1 && (cntR w3 [97, 103, 101]).2.1)), (0, .ref 0 0)], [(0, .box 97 [.slice 1 false (((cntR w3 [97, 103, 101]).2.2).map fun x => [D.str x]) none, .str nm, .bool dn, .slice 3 (cs).isEmpty ((cs).map Cond.cs) (some 1), .slice 1 (s2).isEmpty ((s2).map fun x => [D.str x]) (some 2), .int .i64 (n1), .int .i64 ((cntR w3 [97, 103, 101]).1)]), (1, .tip 43 3 (cs).length), (2, .tip 9 1 (s2).length)]⟩ ?_ (fun st' hw' => ?_)
    ·
     refine WP.region (by kernel_rfl) fun K hK => ?_
     refine runOps.take 4 fun J hJ => ?_
     simp (decide := true) only [W, Pr_prog, z00, q1, z00, ↓reduceIte, Int.reduceToNat]
     refine hJ _ _ ?_
     clear hJ J
     refine runOps.part 62 rfl (fun q8 => ?_) (fun q8 => ?_)
     ·
      simp (decide := true) only [W, Pr_prog, t_fldD_97_1, t_fldD_36_5, t_szD_3, z00, q1, q8, z00, ↓reduceIte, Int.reduceToNat]
      refine hK _ _ ?_
      clear hK K
      refine ⟨rfl, ?_⟩
      show Weak _ _ _
      exact Weak.store (by simp [St.get, lk, W, Le.refl, z00, q1, q8, W]) (by simp [lk, W, z00, q1, q8, W]) (by simp [lk, W]) (by simp [BClo, lk, -List.map_tail]) (by simp [lk])
     ·
      simp (decide := true) only [W, Pr_prog, t_fldD_97_1, t_fldD_36_5, t_szD_3, z00, q1, q8, z00, ↓reduceIte, Int.reduceToNat]
      refine hK _ _ ?_
      clear hK K
      refine ⟨rfl, ?_⟩
      show Weak _ _ _
      exact Weak.store (by simp [St.get, lk, W, Le.refl, z00, q1, q8, W]) (by simp [lk, W, z00, q1, q8, W]) (by simp [lk, W]) (by simp [BClo, lk, -List.map_tail]) (by simp [lk])
    ·
     show WP _ _ _ _ _ _
     refine WP.weak hw' ?_
     clear hw' st'
     have hw4 := cntR_suf w3 [97, 103, 101]
     generalize hA : cntR w3 [97, 103, 101] = E at *
     obtain ⟨n2, b2, w4⟩ := E
     dsimp only at *
     have hRF := readF_eq hcR hE hL hA
     refine WP.sr [5] (by kernel_rfl) fun K hK => ?_
     refine runOps.take 2 fun J hJ => ?_
     simp (decide := true) only [W, Pr_prog, z00, q1, hRF, z00, ↓reduceIte, Int.reduceToNat]
     refine hJ _ _ ?_
     clear hJ J
     refine runOps.part 69 rfl (fun q9 => ?_) (fun q9 => ?_)
     ·
      simp (decide := true) only [W, Pr_prog, t_fldD_97_0, t_szD_34, t_aggD_34, t_isStr_34, t_isSliceT_34, z00, q1, hRF, q9, z00, ↓reduceIte, Int.reduceToNat]
      refine hK _ _ ?_
      clear hK K
      refine WP.exit ?_
      show WP _ _ _ _ _ _
      refine WP.sr [4] (by kernel_rfl) fun K hK => ?_
      simp (decide := true) only [W, Pr_prog, z00, q1, hRF, q9, z00, ↓reduceIte, Int.reduceToNat]
      refine hK _ _ ?_
      clear hK K
      refine WP.ret ?_
      refine Ends.imp (.inr rfl) rfl (Le.of_eq (by first | (simp (decide := true) only [St.get, lk, W, z00, q1, hRF, q9, ↓reduceIte]; done) | (simp [St.get, lk, W, bne, z00, q1, hRF, q9]; done) | (simp_all [St.get, lk, W, LN, bne]; done) | (simp_all [St.get, lk, W, LN, bne]; intros; first | omega | (rw [Bool.eq_iff_iff]; simp; try omega)))) ?_ ?_ ?_
      · simp
      · simp [St.get, lk, W, BClo, z00, q1, hRF, q9, W, Cond.cs, or_imp, forall_and]
      · simp [lk]
     ·
      simp (decide := true) only [W, Pr_prog, t_fldD_97_0, t_szD_34, t_aggD_34, t_isStr_34, t_isSliceT_34, z00, q1, hRF, q9, z00, ↓reduceIte, Int.reduceToNat]
      refine hK _ _ ?_
      clear hK K
      refine WP.exit ?_
      show WP _ _ _ _ _ _
      refine WP.sr [4] (by kernel_rfl) fun K hK => ?_
      simp (decide := true) only [W, Pr_prog, z00, q1, hRF, q9, z00, ↓reduceIte, Int.reduceToNat]
      refine hK _ _ ?_
      clear hK K
      refine WP.ret ?_
      refine Ends.imp (.inr rfl) rfl (Le.of_eq (by first | (simp (decide := true) only [St.get, lk, W, z00, q1, hRF, q9, ↓reduceIte]; done) | (simp [St.get, lk, W, bne, z00, q1, hRF, q9]; done) | (simp_all [St.get, lk, W, LN, bne]; done) | (simp_all [St.get, lk, W, LN, bne]; intros; first | omega | (rw [Bool.eq_iff_iff]; simp; try omega)))) ?_ ?_ ?_
      · simp
      · simp [St.get, lk, W, BClo, z00, q1, hRF, q9, W, Cond.cs, or_imp, forall_and]
      · simp [lk]
end Go.Proofs

set_option linter.unusedSimpArgs false
set_option linter.unusedVariables false
namespace Go.Proofs
open Go Go.Id
/-- The pieces between the bytes c; 'acc': the piece so far. -/
def cutA (c : UInt8) (acc : List UInt8) : List UInt8 → Wds
  | [] => [acc]
  | x :: t => if ((x.toNat : Int) == (c.toNat : Int)) = true then acc :: cutA c [] t else cutA c (acc ++ [x]) t
theorem u8_beq (x c : UInt8) : ((x.toNat : Int) == (c.toNat : Int)) = (x == c) := by
  rw [Bool.eq_iff_iff]
  simp only [beq_iff_eq]
  exact ⟨fun e => UInt8.toNat_inj.1 (by omega), fun e => by rw [e]⟩
theorem cut_index (c : UInt8) : ∀ (s : List UInt8), (Lib.index s [c] = -1 → ∀ acc, cutA c acc s = [acc ++ s]) ∧ (∀ i : Nat, Lib.index s [c] = i → ∀ acc, cutA c acc s = (acc ++ s.take i) :: cutA c [] (s.drop (i + 1)))
  | [] => by
    refine ⟨fun _ acc => by simp [cutA], fun i h => ?_⟩
    simp [Lib.index] at h
  | x :: t => by
    obtain ⟨h1, h2⟩ := cut_index c t
    have hg := Lib.index_ge t [c]
    have e : Lib.index (x :: t) [c] = if (c == x) = true then 0 else if Lib.index t [c] == -1 then -1 else Lib.index t [c] + 1 := by
      rw [Lib.index]; simp [List.isPrefixOf]
    by_cases hx : x = c
    · subst hx
      rw [e]
      refine ⟨fun h => by simp at h, fun i h acc => ?_⟩
      simp at h
      obtain rfl : i = 0 := by omega
      simp [cutA]
    · have hcx : (c == x) = false := by simpa using fun q => hx q.symm
      have hxc : ((x.toNat : Int) == (c.toNat : Int)) = false := by rw [u8_beq]; simpa using hx
      rw [e, hcx]
      simp only [Bool.false_eq_true, if_false]
      by_cases hm : Lib.index t [c] = -1
      · simp only [hm, beq_self_eq_true, if_true]
        refine ⟨fun _ acc => ?_, fun i h => by omega⟩
        rw [cutA, hxc]; simp only [Bool.false_eq_true, if_false]
        rw [h1 hm]; simp
      · have hm' : (Lib.index t [c] == -1) = false := by simpa using hm
        rw [hm']
        simp only [Bool.false_eq_true, if_false]
        refine ⟨fun h => by omega, fun i h acc => ?_⟩
        obtain ⟨j, rfl⟩ : ∃ j, i = j + 1 := ⟨i - 1, by omega⟩
        rw [cutA, hxc]; simp only [Bool.false_eq_true, if_false]
        rw [h2 j (by omega)]; simp
theorem splitK_cut (c : UInt8) : ∀ (k : Nat) (s : List UInt8), Lib.count s [c] = k → Lib.splitK [c] 0 k s = cutA c [] s
  | 0, s, h => by
    rcases Lib.index_spec s [c] with ⟨h1, _⟩ | ⟨i, h1, _⟩
    · rw [(cut_index c s).1 h1]; rfl
    · have := Lib.count_hit (s := s) (sub := [c]) (by simp) h1
      omega
  | k + 1, s, h => by
    rcases Lib.index_spec s [c] with ⟨h1, _⟩ | ⟨i, h1, _⟩
    · have := Lib.count_miss h1; omega
    · have h2 := Lib.count_hit (s := s) (sub := [c]) (by simp) h1
      rw [Lib.splitK]
      have hne : (Lib.index s [c] == -1) = false := by rw [h1]; rw [beq_eq_false_iff_ne]; omega
      rw [hne]
      simp only [Bool.false_eq_true, if_false]
      have hi : (Lib.index s [c]).toNat = i := by omega
      rw [hi, (cut_index c s).2 i h1, List.nil_append]
      simp only [List.length_cons, List.length_nil, Nat.zero_add] at h2 ⊢
      rw [splitK_cut c k _ (by omega)]
      rfl
theorem splitL_cut (s : List UInt8) (c : UInt8) : splitL s [c] = cutA c [] s := by
  unfold splitL
  rw [Lib.splitB_data]
  exact splitK_cut c _ s rfl
theorem cutA_len (c : UInt8) : ∀ (s acc : List UInt8), (cutA c acc s).length ≤ s.length + 1 ∧ 1 ≤ (cutA c acc s).length
  | [], acc => by simp [cutA]
  | x :: t, acc => by
    have h1 := cutA_len c t []
    have h2 := cutA_len c t (acc ++ [x])
    unfold cutA
    split
    · simp only [List.length_cons]; omega
    · simp only [List.length_cons]; omega
theorem cutA_mem (c : UInt8) : ∀ (s acc : List UInt8), ∀ x ∈ cutA c acc s, x.length ≤ acc.length + s.length
  | [], acc, x, h => by simp [cutA] at h; subst h; simp
  | y :: t, acc, x, h => by
    unfold cutA at h
    split at h
    · rcases List.mem_cons.1 h with rfl | h
      · simp
      · have := cutA_mem c t [] x h
        simp at this ⊢; omega
    · have := cutA_mem c t (acc ++ [y]) x h
      simp at this ⊢; omega
def wdAt (ws : Wds) (i : Nat) : List UInt8 := (ws[i]?).getD []
theorem wdAt_lt {ws : Wds} {i : Nat} (h : i < ws.length) : wdAt ws i = ws[i] := by simp [wdAt, h]
theorem wdAt_ge {ws : Wds} {i : Nat} (h : ws.length ≤ i) : wdAt ws i = [] := by simp [wdAt, h]
def tailR (ws : Wds) (i : Nat) (key : List UInt8) : Int × Nat × Bool :=
  if (wdAt ws i == key) = true then ((rdN (wdAt ws (i + 1))).1, i + 2, (rdN (wdAt ws (i + 1))).2 == 0 && (rdN (wdAt ws (i + 1))).1 != 0) else (0, i, true)
/-- The rule of the words of a line. -/
def rdLine (ws : Wds) : Option Rule :=
  if ws.length < 3 ∨ ¬ (wdAt ws 0 = [114, 117, 108, 101]) ∨ (¬ (wdAt ws 2 = [112, 101, 114, 109, 105, 116]) ∧ ¬ (wdAt ws 2 = [100, 101, 110, 121])) ∨ [] ∈ ws then none
  else match readF (ws.drop 3) with
    | (true, _, cs, sc, lv, ag) => some ⟨wdAt ws 1, wdAt ws 2 == [100, 101, 110, 121], cs, cs.isEmpty, sc, sc.isEmpty, lv, ag⟩
    | (false, _) => none
def lineD (o : Option Rule) : D :=
  match o with
  | some p => .tup [.agg p.cs, .bool true]
  | none => .tup [.agg [.junk, .junk, .junk, .junk, .junk, .junk], .bool false]
@[simp] theorem clo_rcs {S : Nat → Prop} (p : Rule) : (∀ d ∈ p.cs, Clo S d) ↔ True := by
  simp only [iff_true]
  intro d hd
  simp only [Rule.cs, List.mem_cons, List.mem_nil_iff, or_false] at hd
  rcases hd with rfl | rfl | rfl | rfl | rfl | rfl <;> simp
@[simp] theorem clo_lineD {S : Nat → Prop} (o : Option Rule) : Clo S (lineD o) := by
  cases o <;> simp [lineD]
theorem Le.junks {a b c d e f : D} {ok : Bool} (h : ok = false) : Le (.tup [.agg [a, b, c, d, e, f], .bool ok]) (.tup [.agg [.junk, .junk, .junk, .junk, .junk, .junk], .bool false]) := by
  subst h
  intro M γ w v hr
  cases hr with
  | @tup _ vs hl hr =>
    refine .tup (by simpa using hl) fun i d v hd hv => ?_
    match i with
    | 0 =>
      simp at hd; subst hd
      have h0 := hr 0 _ v rfl hv
      cases h0 with
      | agg a1 a2 a3 =>
        refine .agg (by simpa using a1) a2 fun i d v hd hv => ?_
        match i with
        | 0 | 1 | 2 | 3 | 4 | 5 => simp at hd; subst hd; exact .junk v
        | i + 6 => simp at hd
    | 1 => simp at hd; subst hd; exact hr 1 _ v rfl hv
    | i + 2 => simp at hd
end Go.Proofs

set_option linter.unusedSimpArgs false
set_option linter.unusedVariables false
set_option maxRecDepth 10000
namespace Go.Proofs
open Go Go.Id

theorem cut_split (s : List UInt8) (k : Nat) {p q : Prop} {r : Prop} (h : (k ≤ s.length ∧ p) ∨ (k = s.length + 1 ∧ q ∧ r)) : (k < s.length ∧ p) ∨ (k = s.length ∧ p) ∨ (k = s.length + 1 ∧ q ∧ r) := by
 rcases h with ⟨h, hp⟩ | h
 ·
  rcases Nat.lt_or_ge k s.length with h' | h'
  · exact .inl ⟨h', hp⟩
  · exact .inr (.inl ⟨by omega, hp⟩)
 · exact .inr (.inr h)

theorem c_r_cut (s : List UInt8) (c : UInt8) (hs : s.length ≤ 1099511627776) : CallP Pr 46 [.str s, .int .u8 c.toNat] (.slice 1 false ((cutA c [] s).map fun x => [.str x]) none) := by
 refine CallP.of_wp Tryz.func46 rfl (by kernel_rfl) Tryz.ntmps46 (by simp) ?_
 simp only [frameOf, Nat.reduceAdd, Nat.zero_add]
 refine WP.sr [0, 1] (by kernel_rfl) fun K hK => ?_
 simp (decide := true) only [W, Pr_prog, map1, ↓reduceIte, Int.reduceToNat]
 refine hK _ _ ?_
 clear hK K
 refine WP.sr [0, 1, 5] (by kernel_rfl) fun K hK => ?_
 simp (decide := true) only [W, Pr_prog, map1, ↓reduceIte, Int.reduceToNat]
 refine hK _ _ ?_
 clear hK K
 refine WP.sr [0, 1, 5, 6] (by kernel_rfl) fun K hK => ?_
 simp (decide := true) only [W, Pr_prog, map1, ↓reduceIte, Int.reduceToNat]
 refine hK _ _ ?_
 clear hK K
 refine WP.seq ?_
 refine WP.sr [0, 1, 5, 6, 7] (by kernel_rfl) fun K hK => ?_
 simp (decide := true) only [W, Pr_prog, map1, ↓reduceIte, Int.reduceToNat]
 refine hK _ _ ?_
 clear hK K
 refine WP.block ?_
 refine WP.lp [0, 1] (X := {x : (Nat) × (Nat) × (Wds) // match x with | (k, f, out) => f ≤ k ∧ out.length ≤ k ∧ ((k ≤ s.length ∧ cutA c [] s = out ++ cutA c ((s.take k).drop f) (s.drop k)) ∨ (k = s.length + 1 ∧ cutA c [] s = out ∧ out ≠ []))}) (fun x => match x with | ⟨(k, f, out), _⟩ => [(5, .slice 1 out.isEmpty (out.map fun x => [D.str x]) (some 0)), (6, .int .i64 f), (7, .int .i64 k)]) (fun x => match x with | ⟨(k, f, out), _⟩ => [(0, .tip 9 1 out.length)]) (fun x => match x with | ⟨(k, f, out), _⟩ => s.length + 1 - k) (by simp (decide := true) only [W, ↓reduceIte, Int.reduceToNat]; rfl) ?_ ⟨(0, 0, []), ⟨Nat.le_refl _, Nat.le_refl _, .inl ⟨Nat.zero_le _, by simp⟩⟩⟩ ?_
 rotate_left
 · refine Weak.trans (Weak.ghost 0 9 1 (F' := [(7, .int .i64 0), (6, .int .i64 0), (5, .slice 1 true [] (some 0)), (0, .str s), (1, .int .u8 c.toNat)]) (σ' := []) (by simp [lk, W]) (by simp [W, keep, ins, UpF, UpD]) (by simp [UpS])) ?_; exact Weak.store (by simp [St.get, lk, W, Le.refl]) (by simp [lk, W]) (by simp [lk]) (by simp [BClo]) (by simp)
 rintro ⟨⟨k, f, out⟩, hf, ho, hI⟩
 dsimp only
 simp only [List.cons_append, List.nil_append]
 rcases cut_split s k hI with ⟨hlt, hI⟩ | ⟨rfl, hI⟩ | ⟨rfl, hI, hne⟩
 ·
  have hg := getE hlt
  have hq : decide ((k : Int) ≤ (s.length : Int)) = true := decide_eq_true (by omega)
  have hq2 : ((k : Int) == (s.length : Int)) = false := by rw [beq_eq_false_iff_ne]; omega
  have hfk : f ≤ k := hf
  have hks : k ≤ s.length := by omega
  rw [dropE hlt, cutA] at hI
  refine WP.seq ?_
  refine WP.sr [0, 1, 5, 6, 7, 11] (by kernel_rfl) fun K hK => ?_
  simp (decide := true) only [W, Pr_prog, t_isStr_9, t_isSliceT_9, hg, hq, hq2, hfk, hks, map1, ↓reduceIte, Int.reduceToNat]
  refine hK _ _ ?_
  clear hK K
  refine WP.cond (b := true) (by first | rfl | simp [W, hg, hq, hq2, hfk, hks]) (fun _ => ?_) nofun
  refine WP.skip ?_
  show WP _ _ _ _ _ _
  refine WP.seq ?_
  refine WP.block ?_
  refine WP.sr [0, 1, 5, 6, 7, 24] (by kernel_rfl) fun K hK => ?_
  simp (decide := true) only [W, Pr_prog, t_isStr_9, t_isSliceT_9, hg, hq, hq2, hfk, hks, map1, ↓reduceIte, Int.reduceToNat]
  refine hK _ _ ?_
  clear hK K
  refine WP.cond (b := _) rfl (fun q1 => ?_) (fun q1 => ?_)
  ·
   have hsc := q1
   refine WP.sr [0, 1, 5, 7] (by kernel_rfl) fun K hK => ?_
   simp (decide := true) only [W, Pr_prog, t_isStr_9, t_elemD_34, t_okElem_9, hg, hq, hq2, hfk, hks, q1, map1, ↓reduceIte, Int.reduceToNat]
   refine ⟨⟨by simp only [List.length_append, List.length_map, List.length_cons, List.length_nil]; omega, by simp only [List.length_append, List.length_map, List.length_cons, List.length_nil]; omega⟩, ?_⟩
   refine hK _ _ ?_
   clear hK K
   refine WP.region (by kernel_rfl) fun K hK => ?_
   simp (decide := true) only [W, Pr_prog, hg, hq, hq2, hfk, hks, q1, map1, ↓reduceIte, Int.reduceToNat]
   refine hK _ _ ?_
   clear hK K
   show WP _ _ _ _ _ _
   refine WP.region (by kernel_rfl) fun K hK => ?_
   simp (decide := true) only [W, Pr_prog, hg, hq, hq2, hfk, hks, q1, map1, ↓reduceIte, Int.reduceToNat]
   refine hK _ _ ?_
   clear hK K
   show ∃ y, _ ∧ Weak _ _ _
   rw [if_pos hsc] at hI
   refine ⟨⟨(k + 1, k + 1, out ++ [(s.take k).drop f]), ?_⟩, ?_, ?_⟩
   · exact ⟨Nat.le_refl _, by simp; omega, .inl ⟨by omega, by rw [hI]; simp⟩⟩
   · dsimp only; omega
   · exact Weak.store (by simp [St.get, lk, W, Le.refl, hg, hq, hq2, hfk, hks, q1, isE1, wrapS hlt (show s.length ≤ 140737488355328 by omega)]) (by simp [lk, W, isE1]) (by simp [lk, W, or_imp, forall_and]) (by simp [BClo, lk]) (by simp [lk])
  ·
   have hsc := q1
   refine WP.skip ?_
   show WP _ _ _ _ _ _
   refine WP.region (by kernel_rfl) fun K hK => ?_
   simp (decide := true) only [W, Pr_prog, hg, hq, hq2, hfk, hks, q1, map1, ↓reduceIte, Int.reduceToNat]
   refine hK _ _ ?_
   clear hK K
   show ∃ y, _ ∧ Weak _ _ _
   rw [if_neg (by rw [hsc]; decide)] at hI
   refine ⟨⟨(k + 1, f, out), ?_⟩, ?_, ?_⟩
   · refine ⟨by dsimp only; omega, by dsimp only; omega, .inl ⟨by dsimp only; omega, ?_⟩⟩; dsimp only; rw [hI, takeS hlt, List.drop_append_of_le_length (by simp; omega)]
   · dsimp only; omega
   · exact Weak.store (by simp [St.get, lk, W, Le.refl, hg, hq, hq2, hfk, hks, q1, isE1, wrapS hlt (show s.length ≤ 140737488355328 by omega)]) (by simp [lk, W, isE1]) (by simp [lk, W]) (by simp [BClo, lk]) (by simp [lk])
 ·
  have hq : decide ((s.length : Int) ≤ (s.length : Int)) = true := decide_eq_true (by omega)
  have hq2 : ((s.length : Int) == (s.length : Int)) = true := beq_self_eq_true _
  have hfk : f ≤ s.length := hf
  have hks : s.length ≤ s.length := Nat.le_refl _
  rw [dropN (Nat.le_refl _), cutA] at hI
  refine WP.seq ?_
  refine WP.sr [0, 1, 5, 6, 7, 11] (by kernel_rfl) fun K hK => ?_
  simp (decide := true) only [W, Pr_prog, t_isStr_9, t_isSliceT_9, hq, hq2, hfk, hks, map1, ↓reduceIte, Int.reduceToNat]
  refine hK _ _ ?_
  clear hK K
  refine WP.cond (b := true) (by first | rfl | simp [W, hq, hq2, hfk, hks]) (fun _ => ?_) nofun
  refine WP.skip ?_
  show WP _ _ _ _ _ _
  refine WP.seq ?_
  refine WP.block ?_
  refine WP.sr [0, 1, 5, 6, 7, 24] (by kernel_rfl) fun K hK => ?_
  simp (decide := true) only [W, Pr_prog, t_isStr_9, t_isSliceT_9, hq, hq2, hfk, hks, map1, ↓reduceIte, Int.reduceToNat]
  refine hK _ _ ?_
  clear hK K
  refine WP.cond (b := true) (by first | rfl | simp [W, hq, hq2, hfk, hks]) (fun _ => ?_) nofun
  refine WP.sr [0, 1, 5, 7] (by kernel_rfl) fun K hK => ?_
  simp (decide := true) only [W, Pr_prog, t_isStr_9, t_elemD_34, t_okElem_9, hq, hq2, hfk, hks, map1, ↓reduceIte, Int.reduceToNat]
  refine ⟨⟨by simp only [List.length_append, List.length_map, List.length_cons, List.length_nil]; omega, by simp only [List.length_append, List.length_map, List.length_cons, List.length_nil]; omega⟩, ?_⟩
  refine hK _ _ ?_
  clear hK K
  refine WP.region (by kernel_rfl) fun K hK => ?_
  simp (decide := true) only [W, Pr_prog, hq, hq2, hfk, hks, map1, ↓reduceIte, Int.reduceToNat]
  refine hK _ _ ?_
  clear hK K
  show WP _ _ _ _ _ _
  refine WP.region (by kernel_rfl) fun K hK => ?_
  simp (decide := true) only [W, Pr_prog, hq, hq2, hfk, hks, map1, ↓reduceIte, Int.reduceToNat]
  refine hK _ _ ?_
  clear hK K
  show ∃ y, _ ∧ Weak _ _ _
  refine ⟨⟨(s.length + 1, s.length + 1, out ++ [(s.take s.length).drop f]), ?_⟩, ?_, ?_⟩
  · exact ⟨Nat.le_refl _, by simp; omega, .inr ⟨rfl, hI, by simp⟩⟩
  · dsimp only; omega
  · exact Weak.store (by simp [St.get, lk, W, Le.refl, hq, hq2, hfk, hks, isE1, wrapN 1 (show s.length < s.length + 1 by omega) (show s.length + 1 ≤ 140737488355328 by omega) (by omega), wrap_i64 (show (-9223372036854775808 : Int) ≤ (s.length : Int) + 1 by omega) (show (s.length : Int) + 1 ≤ 9223372036854775807 by omega)]) (by simp [lk, W, isE1]) (by simp [lk, W, or_imp, forall_and]) (by simp [BClo, lk]) (by simp [lk])
 ·
  have hq : decide (((s.length + 1 : Nat) : Int) ≤ (s.length : Int)) = false := decide_eq_false (by omega)
  have hoe : out.isEmpty = false := by cases out <;> simp at hne ⊢
  rw [hI]
  refine WP.seq ?_
  refine WP.sr [0, 1, 5, 6, 7, 11] (by kernel_rfl) fun K hK => ?_
  simp (decide := true) only [W, Pr_prog, t_isStr_9, t_isSliceT_9, hq, hoe, map1, ↓reduceIte, Int.reduceToNat]
  refine hK _ _ ?_
  clear hK K
  refine WP.cond (b := false) (by first | rfl | simp [W, hq, hoe]) nofun (fun _ => ?_)
  refine WP.exit ?_
  show WP _ _ _ _ _ _
  refine WP.sr [4] (by kernel_rfl) fun K hK => ?_
  simp (decide := true) only [W, Pr_prog, hq, hoe, map1, ↓reduceIte, Int.reduceToNat]
  refine hK _ _ ?_
  clear hK K
  refine WP.ret ?_
  exact Ends.pure (.inr rfl) rfl (Le.trans (Le.fg _) (Le.of_eq (by simp [fg, St.get, lk, W, hq, hoe]))) (by simp)
theorem c_r_wd (ws : Wds) (nl : Bool) (i : Nat) (hnl : nl = true → ws = []) : CallP Pr 85 [.slice 1 nl (ws.map fun x => [.str x]) none, .int .i64 i] (.str (wdAt ws i)) := by
 refine CallP.of_wp Tryz.func85 rfl (by kernel_rfl) Tryz.ntmps85 (by simp) ?_
 simp only [frameOf, Nat.reduceAdd, Nat.zero_add]
 refine WP.sr [0, 1] (by kernel_rfl) fun K hK => ?_
 simp (decide := true) only [W, Pr_prog, ↓reduceIte, Int.reduceToNat]
 refine hK _ _ ?_
 clear hK K
 refine WP.seq ?_
 refine WP.sr [0, 1, 8] (by kernel_rfl) fun K hK => ?_
 simp (decide := true) only [W, Pr_prog, t_isStr_34, t_isSliceT_34, ↓reduceIte, Int.reduceToNat]
 refine hK _ _ ?_
 clear hK K
 refine WP.cond (b := _) rfl (fun q1 => ?_) (fun q1 => ?_)
 ·
  have hlt := lt_of_q q1
  have hg : (ws.map fun x => [D.str x])[i]? = some [.str ws[i]] := getM hlt
  have hnf := nl_false hnl hlt
  have hw := wdAt_lt hlt
  refine WP.sr [4] (by kernel_rfl) fun K hK => ?_
  simp (decide := true) only [W, Pr_prog, t_elemD_34, t_szD_9, t_aggD_9, q1, hg, hnf, hw, ↓reduceIte, Int.reduceToNat]
  refine hK _ _ ?_
  clear hK K
  refine WP.ret ?_
  exact Ends.pure (.inr rfl) rfl (Le.of_eq (by first | (simp (decide := true) only [St.get, lk, W, q1, hg, hnf, hw, ↓reduceIte]; done) | (simp [St.get, lk, W, bne, q1, hg, hnf, hw]; done) | (simp_all [St.get, lk, W, LN, bne]; done) | (simp_all [St.get, lk, W, LN, bne]; intros; first | omega | (rw [Bool.eq_iff_iff]; simp; try omega)))) (by simp)
 ·
  have hge := ge_of_q q1
  have hw := wdAt_ge hge
  refine WP.skip ?_
  show WP _ _ _ _ _ _
  refine WP.sr [4] (by kernel_rfl) fun K hK => ?_
  simp (decide := true) only [W, Pr_prog, q1, hw, ↓reduceIte, Int.reduceToNat]
  refine hK _ _ ?_
  clear hK K
  refine WP.ret ?_
  exact Ends.pure (.inr rfl) rfl (Le.of_eq (by first | (simp (decide := true) only [St.get, lk, W, q1, hw, ↓reduceIte]; done) | (simp [St.get, lk, W, bne, q1, hw]; done) | (simp_all [St.get, lk, W, LN, bne]; done) | (simp_all [St.get, lk, W, LN, bne]; intros; first | omega | (rw [Bool.eq_iff_iff]; simp; try omega)))) (by simp)
theorem c_r_tail (ws : Wds) (nl : Bool) (i : Nat) (key : List UInt8) (hnl : nl = true → ws = []) (hi : i ≤ 1099511627776) (hv : (wdAt ws (i + 1)).length ≤ 1099511627776) : CallP Pr 87 [.slice 1 nl (ws.map fun x => [.str x]) none, .int .i64 i, .str key] (.tup [.int .i64 (tailR ws i key).1, .int .i64 (tailR ws i key).2.1, .bool (tailR ws i key).2.2]) := by
 have hw1 : IntKind.wrap .i64 ((i : Int) + 1) = ((i + 1 : Nat) : Int) := by rw [wrap_i64 (by omega) (by omega)]; rfl
 have hw2 : IntKind.wrap .i64 ((i : Int) + 2) = ((i + 2 : Nat) : Int) := by rw [wrap_i64 (by omega) (by omega)]; rfl
 refine CallP.of_wp Tryz.func87 rfl (by kernel_rfl) Tryz.ntmps87 (by simp) ?_
 simp only [frameOf, Nat.reduceAdd, Nat.zero_add]
 refine WP.sr [0, 1, 2] (by kernel_rfl) fun K hK => ?_
 simp (decide := true) only [W, Pr_prog, hw1, hw2, rdD, ↓reduceIte, Int.reduceToNat]
 refine hK _ _ ?_
 clear hK K
 refine WP.seq ?_
 refine WP.sr [0, 1, 15] (by kernel_rfl) fun K hK => ?_
 simp (decide := true) only [W, Pr_prog, hw1, hw2, rdD, ↓reduceIte, Int.reduceToNat]
 refine CallK.pure (c_r_wd ws nl i hnl) rfl rfl (by simp [-List.map_take]) ?_
 simp (decide := true) only [W, Pr_prog, hw1, hw2, rdD, ↓reduceIte, Int.reduceToNat]
 refine hK _ _ ?_
 clear hK K
 refine WP.cond (b := _) rfl (fun q1 => ?_) (fun q1 => ?_)
 ·
  have hne : (wdAt ws i == key) = false := by simpa [bne] using q1
  refine WP.sr [6, 7, 8] (by kernel_rfl) fun K hK => ?_
  simp (decide := true) only [W, Pr_prog, hw1, hw2, q1, hne, rdD, ↓reduceIte, Int.reduceToNat]
  refine hK _ _ ?_
  clear hK K
  refine WP.ret ?_
  exact Ends.pure (d := .tup [_, _, _]) (.inr rfl) rfl (Le.of_eq (by first | (simp (decide := true) only [St.get, lk, W, tailR, hw1, hw2, q1, hne, ↓reduceIte]; done) | (simp [St.get, lk, W, bne, tailR, hw1, hw2, q1, hne]; done) | (simp_all [St.get, lk, W, LN, bne, tailR]; done) | (simp_all [St.get, lk, W, LN, bne, tailR]; intros; first | omega | (rw [Bool.eq_iff_iff]; simp; try omega)))) (by simp)
 ·
  have hne : (wdAt ws i == key) = true := by simpa [bne] using q1
  refine WP.skip ?_
  show WP _ _ _ _ _ _
  refine WP.sr [1, 9, 10] (by kernel_rfl) fun K hK => ?_
  simp (decide := true) only [W, Pr_prog, hw1, hw2, q1, hne, rdD, ↓reduceIte, Int.reduceToNat]
  refine CallK.pure (c_r_wd ws nl (i + 1) hnl) rfl rfl (by simp [-List.map_take]) ?_
  simp (decide := true) only [W, Pr_prog, hw1, hw2, q1, hne, rdD, ↓reduceIte, Int.reduceToNat]
  refine CallK.pure (c_r_readint (wdAt ws (i + 1)) hv) rfl rfl (by simp [-List.map_take]) ?_
  simp (decide := true) only [W, Pr_prog, hw1, hw2, q1, hne, rdD, ↓reduceIte, Int.reduceToNat]
  refine hK _ _ ?_
  clear hK K
  refine WP.sr [6, 7, 8] (by kernel_rfl) fun K hK => ?_
  refine runOps.take 6 fun J hJ => ?_
  simp (decide := true) only [W, Pr_prog, hw1, hw2, q1, hne, rdD, ↓reduceIte, Int.reduceToNat]
  refine hJ _ _ ?_
  clear hJ J
  refine runOps.part 30 rfl (fun q2 => ?_) (fun q2 => ?_)
  ·
   simp (decide := true) only [W, Pr_prog, hw1, hw2, q1, hne, q2, rdD, ↓reduceIte, Int.reduceToNat]
   refine hK _ _ ?_
   clear hK K
   refine WP.ret ?_
   exact Ends.pure (d := .tup [_, _, _]) (.inr rfl) rfl (Le.of_eq (by first | (simp (decide := true) only [St.get, lk, W, tailR, hw1, hw2, q1, hne, q2, ↓reduceIte]; done) | (simp [St.get, lk, W, bne, tailR, hw1, hw2, q1, hne, q2]; done) | (simp_all [St.get, lk, W, LN, bne, tailR]; done) | (simp_all [St.get, lk, W, LN, bne, tailR]; intros; first | omega | (rw [Bool.eq_iff_iff]; simp; try omega)))) (by simp)
  ·
   simp (decide := true) only [W, Pr_prog, hw1, hw2, q1, hne, q2, rdD, ↓reduceIte, Int.reduceToNat]
   refine hK _ _ ?_
   clear hK K
   refine WP.ret ?_
   exact Ends.pure (d := .tup [_, _, _]) (.inr rfl) rfl (Le.of_eq (by first | (simp (decide := true) only [St.get, lk, W, tailR, hw1, hw2, q1, hne, q2, ↓reduceIte]; done) | (simp [St.get, lk, W, bne, tailR, hw1, hw2, q1, hne, q2]; done) | (simp_all [St.get, lk, W, LN, bne, tailR]; done) | (simp_all [St.get, lk, W, LN, bne, tailR]; intros; first | omega | (rw [Bool.eq_iff_iff]; simp; try omega)))) (by simp)
end Go.Proofs

set_option linter.unusedSimpArgs false
set_option linter.unusedVariables false
namespace Go.Proofs
open Go Go.Id
theorem ren_strs (f : Nat → Nat) (l : Wds) : renLL f (l.map fun x => [D.str x]) = l.map fun x => [D.str x] := by
  rw [renLL_map]; simp [renD]
theorem ren_conds (f : Nat → Nat) (l : List Cond) : renLL f (l.map Cond.cs) = l.map Cond.cs := by
  rw [renLL_map]; simp [renD, Cond.cs]
theorem c_read_at (r a b : Nat) (hd : [r, a, b].Nodup) (ws : Wds) (nm : List UInt8) (dn : Bool) (hw : ws.length ≤ 1099511627770) (hv : ∀ x ∈ ws, x.length ≤ 1099511627776) :
    CallE Pr 84 [.ref r 0, .int .i64 0] [(r, .box 97 [.slice 1 false (ws.map fun x => [D.str x]) none, .str nm, .bool dn, .slice 3 true [] (some a), .slice 1 true [] (some b), .int .i64 0, .int .i64 0]), (a, .tip 43 3 0), (b, .tip 9 1 0)] (.bool (readF ws).1)
      [(r, .box 97 [.slice 1 false (((readF ws).2.1).map fun x => [D.str x]) none, .str nm, .bool dn, .slice 3 ((readF ws).2.2.1).isEmpty (((readF ws).2.2.1).map Cond.cs) (some a), .slice 1 ((readF ws).2.2.2.1).isEmpty (((readF ws).2.2.2.1).map fun x => [D.str x]) (some b), .int .i64 ((readF ws).2.2.2.2.1), .int .i64 ((readF ws).2.2.2.2.2)]), (a, .tip 43 3 ((readF ws).2.2.1).length), (b, .tip 9 1 ((readF ws).2.2.2.1).length)] := by
  obtain ⟨f, g, h1, h2⟩ := ren_ex [r, a, b] hd
  have := CallE.rename h1 (c_read ws nm dn hw hv)
  have f0 : f 0 = r := h2 0 r rfl
  have f1 : f 1 = a := h2 1 a rfl
  have f2 : f 2 = b := h2 2 b rfl
  have e0 : renLL f [] = [] := by simp [renLL]
  simpa [renS, renB, renD, renL, e0, ren_strs, ren_conds, f0, f1, f2] using this
theorem z36 (h : 36 < Tryz.prog.types.size) : (Tryz.prog.types[36]'h).size = 6 := by kernel_rfl
theorem Le.tips {a b c d e f : D} {ok : D} : Le (.tup [.agg [a, b, c, d, e, f], ok]) (.tup [.agg [fg0 a, fg0 b, fg0 c, fg0 d, fg0 e, fg0 f], ok]) := by
  intro M γ w v hr
  cases hr with
  | @tup _ vs hl hr =>
    refine .tup (by simpa using hl) fun i d v hd hv => ?_
    match i with
    | 0 =>
      simp at hd; subst hd
      have h0 := rep_fg (hr 0 _ v rfl hv)
      exact h0
    | 1 => simp at hd; subst hd; exact hr 1 _ v rfl hv
    | i + 2 => simp at hd
theorem nil_mem {ws : Wds} {i : Nat} (h : i < ws.length) (q : (ws[i] == []) = true) : [] ∈ ws := by
  have e : ws[i] = [] := by simpa using q
  rw [← e]; exact List.getElem_mem h
theorem not_nil {x : List UInt8} (q : (x == []) = false) : [] ≠ x := by
  rintro rfl; simp at q
theorem rdLine_some {ws : Wds} (h : 3 ≤ ws.length) (h0 : wdAt ws 0 = [114, 117, 108, 101]) (h2 : wdAt ws 2 = [112, 101, 114, 109, 105, 116] ∨ wdAt ws 2 = [100, 101, 110, 121]) (hne : [] ∉ ws) :
    Le (.tup [.agg [.str (wdAt ws 1), .bool (wdAt ws 2 == [100, 101, 110, 121]), .slice 3 ((readF (ws.drop 3)).2.2.1).isEmpty (((readF (ws.drop 3)).2.2.1).map Cond.cs) none, .slice 1 ((readF (ws.drop 3)).2.2.2.1).isEmpty (((readF (ws.drop 3)).2.2.2.1).map fun x => [D.str x]) none, .int .i64 (readF (ws.drop 3)).2.2.2.2.1, .int .i64 (readF (ws.drop 3)).2.2.2.2.2], .bool (readF (ws.drop 3)).1]) (lineD (rdLine ws)) := by
  have hc : ¬ (ws.length < 3 ∨ ¬ (wdAt ws 0 = [114, 117, 108, 101]) ∨ (¬ (wdAt ws 2 = [112, 101, 114, 109, 105, 116]) ∧ ¬ (wdAt ws 2 = [100, 101, 110, 121])) ∨ [] ∈ ws) := by
    rintro (q | q | ⟨q, q'⟩ | q)
    · omega
    · exact q h0
    · rcases h2 with h2 | h2
      · exact q h2
      · exact q' h2
    · exact hne q
  unfold rdLine
  rw [if_neg hc]
  rcases readF (ws.drop 3) with ⟨ok, w, cs, sc, lv, ag⟩
  cases ok with
  | true => exact Le.refl _
  | false => exact Le.junks rfl
theorem rdLine_none {ws : Wds} (h : ws.length < 3 ∨ ¬ (wdAt ws 0 = [114, 117, 108, 101]) ∨ (¬ (wdAt ws 2 = [112, 101, 114, 109, 105, 116]) ∧ ¬ (wdAt ws 2 = [100, 101, 110, 121])) ∨ [] ∈ ws) : rdLine ws = none := by
  unfold rdLine
  rw [if_pos h]
end Go.Proofs

set_option linter.unusedSimpArgs false
set_option linter.unusedVariables false
set_option maxRecDepth 10000
namespace Go.Proofs
open Go Go.Id

theorem c_rdline (s : List UInt8) (hs : s.length ≤ 4096) : CallP Pr 45 [.str s] (lineD (rdLine (cutA 32 [] s))) := by
 obtain ⟨hl, hl1⟩ := cutA_len 32 s []
 have hv := fun x hx => cutA_mem 32 s [] x hx
 obtain ⟨ws, hws⟩ : ∃ ws, cutA 32 [] s = ws := ⟨_, rfl⟩
 rw [hws] at hl hl1 hv ⊢
 have hv3 : ∀ x ∈ ws.drop 3, x.length ≤ 1099511627776 := fun x hx => by have := hv x (List.mem_of_mem_drop hx); simp at this; omega
 have hl3 : (ws.drop 3).length ≤ 1099511627770 := by simp; omega
 refine CallP.of_wp Tryz.func45 rfl (by kernel_rfl) Tryz.ntmps45 (by simp) ?_
 simp only [frameOf, Nat.reduceAdd, Nat.zero_add]
 refine WP.sr [0, 2] (by kernel_rfl) fun K hK => ?_
 simp (decide := true) only [W, Pr_prog, t_zeroD_36, hws, splitL_cut, takeMap, ← List.map_drop, ↓reduceIte, Int.reduceToNat]
 refine hK _ _ ?_
 clear hK K
 refine WP.sr [2, 4] (by kernel_rfl) fun K hK => ?_
 simp (decide := true) only [W, Pr_prog, hws, splitL_cut, takeMap, ← List.map_drop, ↓reduceIte, Int.reduceToNat]
 refine CallK.pure (lib_split s [32] (by omega) (by simp)) rfl rfl (by simp [-List.map_take]) ?_
 simp (decide := true) only [W, Pr_prog, hws, splitL_cut, takeMap, ← List.map_drop, ↓reduceIte, Int.reduceToNat]
 refine hK _ _ ?_
 clear hK K
 refine WP.seq ?_
 rcases Nat.lt_or_ge ws.length 3 with hsh | hge
 ·
  have hlq : decide ((ws.length : Int) < 3) = true := decide_eq_true (by omega)
  have hN := rdLine_none (.inl hsh)
  refine WP.sr [2, 4, 31] (by kernel_rfl) fun K hK => ?_
  simp (decide := true) only [W, Pr_prog, t_isStr_34, t_isSliceT_34, t_elemD_34, t_szD_9, t_aggD_9, hws, hlq, splitL_cut, takeMap, ← List.map_drop, ↓reduceIte, Int.reduceToNat]
  refine hK _ _ ?_
  clear hK K
  refine WP.cond (b := true) (by first | rfl | simp [W, hws, hlq]) (fun _ => ?_) nofun
  refine WP.sr [2, 3] (by kernel_rfl) fun K hK => ?_
  simp (decide := true) only [W, Pr_prog, t_zeroD_36, t_structOk_36, t_szD_36, hws, hlq, splitL_cut, takeMap, ← List.map_drop, ↓reduceIte, Int.reduceToNat]
  refine hK _ _ ?_
  clear hK K
  refine WP.ret ?_
  exact Ends.pure (d := .tup [_, _]) (.inr rfl) rfl ((by simp (decide := true) only [St.get, lk, W, Pr_prog, t_szD_36, t_aggD_36, z36, List.take_succ_cons, List.take_zero, hws, hlq, ↓reduceIte, Int.reduceToNat]; first | exact Le.trans Le.tips (rdLine_some (by omega) h0 h2 hnm) | (rw [hN]; exact Le.junks rfl))) (by simp)
 ·
  have h3 : 3 ≤ ws.length := hge
  have hlq : decide ((ws.length : Int) < 3) = false := decide_eq_false (by omega)
  have hm0 : (ws.map fun x => [D.str x])[0]? = some [.str (wdAt ws 0)] := by rw [wdAt_lt (show 0 < ws.length by omega)]; exact getM _
  have hm1 : (ws.map fun x => [D.str x])[1]? = some [.str (wdAt ws 1)] := by rw [wdAt_lt (show 1 < ws.length by omega)]; exact getM _
  have hm2 : (ws.map fun x => [D.str x])[2]? = some [.str (wdAt ws 2)] := by rw [wdAt_lt (show 2 < ws.length by omega)]; exact getM _
  refine WP.sr [2, 4, 31] (by kernel_rfl) fun K hK => ?_
  refine runOps.take 10 fun J hJ => ?_
  simp (decide := true) only [W, Pr_prog, t_isStr_34, t_isSliceT_34, t_elemD_34, t_szD_9, t_aggD_9, hws, h3, hlq, hm0, hm1, hm2, splitL_cut, takeMap, ← List.map_drop, ↓reduceIte, Int.reduceToNat]
  refine hJ _ _ ?_
  clear hJ J
  refine runOps.part 20 rfl (fun q1 => ?_) (fun q1 => ?_)
  ·
   have hN := rdLine_none (ws := ws) (.inr (.inl (by simpa using q1)))
   simp (decide := true) only [W, Pr_prog, t_elemD_34, t_szD_9, t_aggD_9, hws, h3, hlq, hm0, hm1, hm2, q1, splitL_cut, takeMap, ← List.map_drop, ↓reduceIte, Int.reduceToNat]
   refine hK _ _ ?_
   clear hK K
   refine WP.cond (b := true) (by first | rfl | simp [W, hws, h3, hlq, hm0, hm1, hm2, q1]) (fun _ => ?_) nofun
   refine WP.sr [2, 3] (by kernel_rfl) fun K hK => ?_
   simp (decide := true) only [W, Pr_prog, t_zeroD_36, t_structOk_36, t_szD_36, hws, h3, hlq, hm0, hm1, hm2, q1, splitL_cut, takeMap, ← List.map_drop, ↓reduceIte, Int.reduceToNat]
   refine hK _ _ ?_
   clear hK K
   refine WP.ret ?_
   exact Ends.pure (d := .tup [_, _]) (.inr rfl) rfl ((by simp (decide := true) only [St.get, lk, W, Pr_prog, t_szD_36, t_aggD_36, z36, List.take_succ_cons, List.take_zero, hws, h3, hlq, hm0, hm1, hm2, q1, ↓reduceIte, Int.reduceToNat]; first | exact Le.trans Le.tips (rdLine_some (by omega) h0 h2 hnm) | (rw [hN]; exact Le.junks rfl))) (by simp)
  ·
   have h0 : wdAt ws 0 = [114, 117, 108, 101] := by simpa using q1
   refine runOps.take 5 fun J hJ => ?_
   simp (decide := true) only [W, Pr_prog, t_elemD_34, t_szD_9, t_aggD_9, hws, h3, hlq, hm0, hm1, hm2, q1, splitL_cut, takeMap, ← List.map_drop, ↓reduceIte, Int.reduceToNat]
   refine hJ _ _ ?_
   clear hJ J
   refine runOps.part 25 rfl (fun q2 => ?_) (fun q2 => ?_)
   ·
    have h2 : ¬ (wdAt ws 2 = [112, 101, 114, 109, 105, 116]) := by simpa using q2
    simp (decide := true) only [W, Pr_prog, t_elemD_34, t_szD_9, t_aggD_9, hws, h3, hlq, hm0, hm1, hm2, q1, q2, splitL_cut, takeMap, ← List.map_drop, ↓reduceIte, Int.reduceToNat]
    refine hK _ _ ?_
    clear hK K
    refine WP.cond (b := _) rfl (fun q3 => ?_) (fun q3 => ?_)
    ·
     have hN := rdLine_none (ws := ws) (.inr (.inr (.inl ⟨h2, by simpa using q3⟩)))
     refine WP.sr [2, 3] (by kernel_rfl) fun K hK => ?_
     simp (decide := true) only [W, Pr_prog, t_zeroD_36, t_structOk_36, t_szD_36, hws, h3, hlq, hm0, hm1, hm2, q1, q2, q3, splitL_cut, takeMap, ← List.map_drop, ↓reduceIte, Int.reduceToNat]
     refine hK _ _ ?_
     clear hK K
     refine WP.ret ?_
     exact Ends.pure (d := .tup [_, _]) (.inr rfl) rfl ((by simp (decide := true) only [St.get, lk, W, Pr_prog, t_szD_36, t_aggD_36, z36, List.take_succ_cons, List.take_zero, hws, h3, hlq, hm0, hm1, hm2, q1, q2, q3, ↓reduceIte, Int.reduceToNat]; first | exact Le.trans Le.tips (rdLine_some (by omega) h0 h2 hnm) | (rw [hN]; exact Le.junks rfl))) (by simp)
    ·
     have h2 : wdAt ws 2 = [112, 101, 114, 109, 105, 116] ∨ wdAt ws 2 = [100, 101, 110, 121] := .inr (by simpa using q3)
     refine WP.skip ?_
     show WP _ _ _ _ _ _
     refine WP.seq ?_
     refine WP.sr [2, 4, 33, 34, 35] (by kernel_rfl) fun K hK => ?_
     simp (decide := true) only [W, Pr_prog, t_isStr_34, t_isSliceT_34, hws, h3, hlq, hm0, hm1, hm2, q1, q2, q3, splitL_cut, takeMap, ← List.map_drop, ↓reduceIte, Int.reduceToNat]
     refine hK _ _ ?_
     clear hK K
     refine WP.block ?_
     refine WP.lp [2, 4, 33, 34] (X := {i : Nat // i ≤ ws.length ∧ [] ∉ ws.take i}) (fun x => match x with | ⟨(i), _⟩ => [(35, .int .i64 i)]) (fun x => match x with | ⟨(i), _⟩ => [(0, .box 36 [.str [], .bool false, .slice 0 true [] none, .slice 0 true [] none, .int .i64 0, .int .i64 0])]) (fun x => match x with | ⟨(i), _⟩ => ws.length - i) (by simp (decide := true) only [W, ↓reduceIte, Int.reduceToNat]; rfl) ?_ ⟨(0), ⟨Nat.zero_le _, by simp⟩⟩ ?_
     rotate_left
     · exact Weak.store (by simp [St.get, lk, W, Le.refl, hws, h3, hlq, hm0, hm1, hm2, q1, q2, q3]) (by simp [lk, W]) (by simp [lk]) (by simp [BClo]) (by simp)
     rintro ⟨i, hi, hne⟩
     dsimp only
     simp only [List.cons_append, List.nil_append]
     refine WP.sr [2, 4, 33, 34, 35, 36] (by kernel_rfl) fun K hK => ?_
     simp (decide := true) only [W, Pr_prog, hws, h3, hlq, hm0, hm1, hm2, q1, q2, q3, splitL_cut, takeMap, ← List.map_drop, ↓reduceIte, Int.reduceToNat]
     refine hK _ _ ?_
     clear hK K
     refine WP.seq ?_
     refine WP.cond (b := _) rfl (fun q4 => ?_) (fun q4 => ?_)
     ·
      have hlt := lt_of_q q4
      have hg := getM (f := fun x => [D.str x]) hlt
      refine WP.skip ?_
      show WP _ _ _ _ _ _
      refine WP.seq ?_
      refine WP.block ?_
      refine WP.sr [2, 4, 6, 33, 34, 35] (by kernel_rfl) fun K hK => ?_
      simp (decide := true) only [W, Pr_prog, t_elemD_34, t_szD_9, t_aggD_9, hws, h3, hlq, hm0, hm1, hm2, q1, q2, q3, q4, hg, splitL_cut, takeMap, ← List.map_drop, ↓reduceIte, Int.reduceToNat]
      refine hK _ _ ?_
      clear hK K
      refine WP.sr [2, 4, 33, 34, 35, 40] (by kernel_rfl) fun K hK => ?_
      simp (decide := true) only [W, Pr_prog, hws, h3, hlq, hm0, hm1, hm2, q1, q2, q3, q4, hg, splitL_cut, takeMap, ← List.map_drop, ↓reduceIte, Int.reduceToNat]
      refine hK _ _ ?_
      clear hK K
      refine WP.cond (b := _) rfl (fun q5 => ?_) (fun q5 => ?_)
      ·
       have hN := rdLine_none (ws := ws) (.inr (.inr (.inr (nil_mem hlt q5))))
       refine WP.sr [2, 3] (by kernel_rfl) fun K hK => ?_
       simp (decide := true) only [W, Pr_prog, t_zeroD_36, t_structOk_36, t_szD_36, hws, h3, hlq, hm0, hm1, hm2, q1, q2, q3, q4, hg, q5, splitL_cut, takeMap, ← List.map_drop, ↓reduceIte, Int.reduceToNat]
       refine hK _ _ ?_
       clear hK K
       refine WP.ret ?_
       exact Ends.pure (d := .tup [_, _]) (.inr rfl) rfl ((by simp (decide := true) only [St.get, lk, W, Pr_prog, t_szD_36, t_aggD_36, z36, List.take_succ_cons, List.take_zero, hws, h3, hlq, hm0, hm1, hm2, q1, q2, q3, q4, hg, q5, ↓reduceIte, Int.reduceToNat]; first | exact Le.trans Le.tips (rdLine_some (by omega) h0 h2 hnm) | (rw [hN]; exact Le.junks rfl))) (by simp)
      ·
       have hni := not_nil q5
       refine WP.skip ?_
       show WP _ _ _ _ _ _
       refine WP.region (by kernel_rfl) fun K hK => ?_
       simp (decide := true) only [W, Pr_prog, hws, h3, hlq, hm0, hm1, hm2, q1, q2, q3, q4, hg, q5, splitL_cut, takeMap, ← List.map_drop, ↓reduceIte, Int.reduceToNat]
       refine hK _ _ ?_
       clear hK K
       show ∃ y, _ ∧ Weak _ _ _
       refine ⟨⟨i + 1, ?_⟩, ?_, ?_⟩
       · refine ⟨by omega, ?_⟩; rw [takeS hlt]; rw [List.mem_append, List.mem_singleton]; exact fun e => e.elim hne hni
       · dsimp only; omega
       · exact Weak.store (by simp [St.get, lk, W, Le.refl, hws, h3, hlq, hm0, hm1, hm2, q1, q2, q3, q4, hg, q5, wrapS hlt (show ws.length ≤ 140737488355328 by omega)]) (by simp [lk, W]) (by simp [lk]) (by simp [BClo]) (by simp)
     ·
      have hge := ge_of_q q4
      have hnm : [] ∉ ws := by rw [List.take_of_length_le hge] at hne; exact hne
      refine WP.exit ?_
      show WP _ _ _ _ _ _
      refine WP.sd [2, 7] (by kernel_rfl) (by kernel_rfl) fun K hK => ?_
      simp (decide := true) only [W, Pr_prog, t_isStr_34, t_elemD_34, t_szD_9, t_aggD_9, t_zeroD_36, t_structOk_36, t_fldD_36_0, t_fldD_36_1, t_zeroD_97, t_structOk_97, t_fldD_97_0, t_fldD_97_1, hws, h3, hlq, hm0, hm1, hm2, q1, q2, q3, q4, splitL_cut, takeMap, ← List.map_drop, ↓reduceIte, Int.reduceToNat]
      refine hK _ _ (by kernel_rfl) ?_
      clear hK K
      refine WP.weak (Weak.ghost 2 43 3 (σ' := [(1, .box 97 [.slice 1 false ((ws.drop 3).map fun x => [D.str x]) none, .str (wdAt ws 1), .bool (wdAt ws 2 == [100, 101, 110, 121]), .slice 3 true [] (some 2), .slice 0 true [] none, .int .i64 0, .int .i64 0]), (0, .box 36 [.str [], .bool false, .slice 0 true [] none, .slice 0 true [] none, .int .i64 0, .int .i64 0])]) (by simp [lk, W]) (UpF.refl _ _ _) (by simp [UpS, UpB, UpL, UpD])) ?_
      refine WP.weak (Weak.ghost 3 9 1 (σ' := [(2, .tip 43 3 0), (1, .box 97 [.slice 1 false ((ws.drop 3).map fun x => [D.str x]) none, .str (wdAt ws 1), .bool (wdAt ws 2 == [100, 101, 110, 121]), .slice 3 true [] (some 2), .slice 1 true [] (some 3), .int .i64 0, .int .i64 0]), (0, .box 36 [.str [], .bool false, .slice 0 true [] none, .slice 0 true [] none, .int .i64 0, .int .i64 0])]) (by simp [lk, W]) (UpF.refl _ _ _) (by simp [UpS, UpB, UpL, UpD])) ?_
      refine WP.sr [2, 7, 8] (by kernel_rfl) fun K hK => ?_
      simp (decide := true) only [W, Pr_prog, hws, h3, hlq, hm0, hm1, hm2, q1, q2, q3, q4, splitL_cut, takeMap, ← List.map_drop, ↓reduceIte, Int.reduceToNat]
      refine CallK.imp (c_read_at 1 2 3 (by simp) (ws.drop 3) (wdAt ws 1) (wdAt ws 2 == [100, 101, 110, 121]) hl3 hv3) rfl rfl (by simp [lk, BClo, -List.map_tail, -List.map_drop]) (by simp [lk]) (by simp [lk]) ?_
      simp (decide := true) only [W, Pr_prog, hws, h3, hlq, hm0, hm1, hm2, q1, q2, q3, q4, splitL_cut, takeMap, ← List.map_drop, ↓reduceIte, Int.reduceToNat]
      refine hK _ _ ?_
      clear hK K
      refine WP.sr [2, 3] (by kernel_rfl) fun K hK => ?_
      simp (decide := true) only [W, Pr_prog, t_fldD_97_1, t_szD_36, t_aggD_36, hws, h3, hlq, hm0, hm1, hm2, q1, q2, q3, q4, splitL_cut, takeMap, ← List.map_drop, ↓reduceIte, Int.reduceToNat]
      refine hK _ _ ?_
      clear hK K
      refine WP.ret ?_
      exact Ends.pure (d := .tup [_, _]) (.inr rfl) rfl ((by simp (decide := true) only [St.get, lk, W, Pr_prog, t_szD_36, t_aggD_36, z36, List.take_succ_cons, List.take_zero, hws, h3, hlq, hm0, hm1, hm2, q1, q2, q3, q4, ↓reduceIte, Int.reduceToNat]; first | exact Le.trans Le.tips (rdLine_some (by omega) h0 h2 hnm) | (rw [hN]; exact Le.junks rfl))) (by simp)
   ·
    have h2 : wdAt ws 2 = [112, 101, 114, 109, 105, 116] ∨ wdAt ws 2 = [100, 101, 110, 121] := .inl (by simpa using q2)
    simp (decide := true) only [W, Pr_prog, t_elemD_34, t_szD_9, t_aggD_9, hws, h3, hlq, hm0, hm1, hm2, q1, q2, splitL_cut, takeMap, ← List.map_drop, ↓reduceIte, Int.reduceToNat]
    refine hK _ _ ?_
    clear hK K
    refine WP.cond (b := false) (by first | rfl | simp [W, hws, h3, hlq, hm0, hm1, hm2, q1, q2]) nofun (fun _ => ?_)
    refine WP.skip ?_
    show WP _ _ _ _ _ _
    refine WP.seq ?_
    refine WP.sr [2, 4, 33, 34, 35] (by kernel_rfl) fun K hK => ?_
    simp (decide := true) only [W, Pr_prog, t_isStr_34, t_isSliceT_34, hws, h3, hlq, hm0, hm1, hm2, q1, q2, splitL_cut, takeMap, ← List.map_drop, ↓reduceIte, Int.reduceToNat]
    refine hK _ _ ?_
    clear hK K
    refine WP.block ?_
    refine WP.lp [2, 4, 33, 34] (X := {i : Nat // i ≤ ws.length ∧ [] ∉ ws.take i}) (fun x => match x with | ⟨(i), _⟩ => [(35, .int .i64 i)]) (fun x => match x with | ⟨(i), _⟩ => [(0, .box 36 [.str [], .bool false, .slice 0 true [] none, .slice 0 true [] none, .int .i64 0, .int .i64 0])]) (fun x => match x with | ⟨(i), _⟩ => ws.length - i) (by simp (decide := true) only [W, ↓reduceIte, Int.reduceToNat]; rfl) ?_ ⟨(0), ⟨Nat.zero_le _, by simp⟩⟩ ?_
    rotate_left
    · exact Weak.store (by simp [St.get, lk, W, Le.refl, hws, h3, hlq, hm0, hm1, hm2, q1, q2]) (by simp [lk, W]) (by simp [lk]) (by simp [BClo]) (by simp)
    rintro ⟨i, hi, hne⟩
    dsimp only
    simp only [List.cons_append, List.nil_append]
    refine WP.sr [2, 4, 33, 34, 35, 36] (by kernel_rfl) fun K hK => ?_
    simp (decide := true) only [W, Pr_prog, hws, h3, hlq, hm0, hm1, hm2, q1, q2, splitL_cut, takeMap, ← List.map_drop, ↓reduceIte, Int.reduceToNat]
    refine hK _ _ ?_
    clear hK K
    refine WP.seq ?_
    refine WP.cond (b := _) rfl (fun q6 => ?_) (fun q6 => ?_)
    ·
     have hlt := lt_of_q q6
     have hg := getM (f := fun x => [D.str x]) hlt
     refine WP.skip ?_
     show WP _ _ _ _ _ _
     refine WP.seq ?_
     refine WP.block ?_
     refine WP.sr [2, 4, 6, 33, 34, 35] (by kernel_rfl) fun K hK => ?_
     simp (decide := true) only [W, Pr_prog, t_elemD_34, t_szD_9, t_aggD_9, hws, h3, hlq, hm0, hm1, hm2, q1, q2, q6, hg, splitL_cut, takeMap, ← List.map_drop, ↓reduceIte, Int.reduceToNat]
     refine hK _ _ ?_
     clear hK K
     refine WP.sr [2, 4, 33, 34, 35, 40] (by kernel_rfl) fun K hK => ?_
     simp (decide := true) only [W, Pr_prog, hws, h3, hlq, hm0, hm1, hm2, q1, q2, q6, hg, splitL_cut, takeMap, ← List.map_drop, ↓reduceIte, Int.reduceToNat]
     refine hK _ _ ?_
     clear hK K
     refine WP.cond (b := _) rfl (fun q7 => ?_) (fun q7 => ?_)
     ·
      have hN := rdLine_none (ws := ws) (.inr (.inr (.inr (nil_mem hlt q7))))
      refine WP.sr [2, 3] (by kernel_rfl) fun K hK => ?_
      simp (decide := true) only [W, Pr_prog, t_zeroD_36, t_structOk_36, t_szD_36, hws, h3, hlq, hm0, hm1, hm2, q1, q2, q6, hg, q7, splitL_cut, takeMap, ← List.map_drop, ↓reduceIte, Int.reduceToNat]
      refine hK _ _ ?_
      clear hK K
      refine WP.ret ?_
      exact Ends.pure (d := .tup [_, _]) (.inr rfl) rfl ((by simp (decide := true) only [St.get, lk, W, Pr_prog, t_szD_36, t_aggD_36, z36, List.take_succ_cons, List.take_zero, hws, h3, hlq, hm0, hm1, hm2, q1, q2, q6, hg, q7, ↓reduceIte, Int.reduceToNat]; first | exact Le.trans Le.tips (rdLine_some (by omega) h0 h2 hnm) | (rw [hN]; exact Le.junks rfl))) (by simp)
     ·
      have hni := not_nil q7
      refine WP.skip ?_
      show WP _ _ _ _ _ _
      refine WP.region (by kernel_rfl) fun K hK => ?_
      simp (decide := true) only [W, Pr_prog, hws, h3, hlq, hm0, hm1, hm2, q1, q2, q6, hg, q7, splitL_cut, takeMap, ← List.map_drop, ↓reduceIte, Int.reduceToNat]
      refine hK _ _ ?_
      clear hK K
      show ∃ y, _ ∧ Weak _ _ _
      refine ⟨⟨i + 1, ?_⟩, ?_, ?_⟩
      · refine ⟨by omega, ?_⟩; rw [takeS hlt]; rw [List.mem_append, List.mem_singleton]; exact fun e => e.elim hne hni
      · dsimp only; omega
      · exact Weak.store (by simp [St.get, lk, W, Le.refl, hws, h3, hlq, hm0, hm1, hm2, q1, q2, q6, hg, q7, wrapS hlt (show ws.length ≤ 140737488355328 by omega)]) (by simp [lk, W]) (by simp [lk]) (by simp [BClo]) (by simp)
    ·
     have hge := ge_of_q q6
     have hnm : [] ∉ ws := by rw [List.take_of_length_le hge] at hne; exact hne
     refine WP.exit ?_
     show WP _ _ _ _ _ _
     refine WP.sd [2, 7] (by kernel_rfl) (by kernel_rfl) fun K hK => ?_
     simp (decide := true) only [W, Pr_prog, t_isStr_34, t_elemD_34, t_szD_9, t_aggD_9, t_zeroD_36, t_structOk_36, t_fldD_36_0, t_fldD_36_1, t_zeroD_97, t_structOk_97, t_fldD_97_0, t_fldD_97_1, hws, h3, hlq, hm0, hm1, hm2, q1, q2, q6, splitL_cut, takeMap, ← List.map_drop, ↓reduceIte, Int.reduceToNat]
     refine hK _ _ (by kernel_rfl) ?_
     clear hK K
     refine WP.weak (Weak.ghost 2 43 3 (σ' := [(1, .box 97 [.slice 1 false ((ws.drop 3).map fun x => [D.str x]) none, .str (wdAt ws 1), .bool (wdAt ws 2 == [100, 101, 110, 121]), .slice 3 true [] (some 2), .slice 0 true [] none, .int .i64 0, .int .i64 0]), (0, .box 36 [.str [], .bool false, .slice 0 true [] none, .slice 0 true [] none, .int .i64 0, .int .i64 0])]) (by simp [lk, W]) (UpF.refl _ _ _) (by simp [UpS, UpB, UpL, UpD])) ?_
     refine WP.weak (Weak.ghost 3 9 1 (σ' := [(2, .tip 43 3 0), (1, .box 97 [.slice 1 false ((ws.drop 3).map fun x => [D.str x]) none, .str (wdAt ws 1), .bool (wdAt ws 2 == [100, 101, 110, 121]), .slice 3 true [] (some 2), .slice 1 true [] (some 3), .int .i64 0, .int .i64 0]), (0, .box 36 [.str [], .bool false, .slice 0 true [] none, .slice 0 true [] none, .int .i64 0, .int .i64 0])]) (by simp [lk, W]) (UpF.refl _ _ _) (by simp [UpS, UpB, UpL, UpD])) ?_
     refine WP.sr [2, 7, 8] (by kernel_rfl) fun K hK => ?_
     simp (decide := true) only [W, Pr_prog, hws, h3, hlq, hm0, hm1, hm2, q1, q2, q6, splitL_cut, takeMap, ← List.map_drop, ↓reduceIte, Int.reduceToNat]
     refine CallK.imp (c_read_at 1 2 3 (by simp) (ws.drop 3) (wdAt ws 1) (wdAt ws 2 == [100, 101, 110, 121]) hl3 hv3) rfl rfl (by simp [lk, BClo, -List.map_tail, -List.map_drop]) (by simp [lk]) (by simp [lk]) ?_
     simp (decide := true) only [W, Pr_prog, hws, h3, hlq, hm0, hm1, hm2, q1, q2, q6, splitL_cut, takeMap, ← List.map_drop, ↓reduceIte, Int.reduceToNat]
     refine hK _ _ ?_
     clear hK K
     refine WP.sr [2, 3] (by kernel_rfl) fun K hK => ?_
     simp (decide := true) only [W, Pr_prog, t_fldD_97_1, t_szD_36, t_aggD_36, hws, h3, hlq, hm0, hm1, hm2, q1, q2, q6, splitL_cut, takeMap, ← List.map_drop, ↓reduceIte, Int.reduceToNat]
     refine hK _ _ ?_
     clear hK K
     refine WP.ret ?_
     exact Ends.pure (d := .tup [_, _]) (.inr rfl) rfl ((by simp (decide := true) only [St.get, lk, W, Pr_prog, t_szD_36, t_aggD_36, z36, List.take_succ_cons, List.take_zero, hws, h3, hlq, hm0, hm1, hm2, q1, q2, q6, ↓reduceIte, Int.reduceToNat]; first | exact Le.trans Le.tips (rdLine_some (by omega) h0 h2 hnm) | (rw [hN]; exact Le.junks rfl))) (by simp)
end Go.Proofs

set_option linter.unusedSimpArgs false
set_option linter.unusedVariables false
namespace Go.Proofs
open Go Go.Id
theorem hdB_wd {ws : Wds} {i : Nat} {w : List UInt8} (hw : w ≠ []) : hdB (ws.drop i) w = (wdAt ws i == w) := by
  unfold hdB wdAt
  rw [List.head?_drop]
  cases ws[i]? with
  | none =>
    cases w with
    | nil => exact absurd rfl hw
    | cons a l => rfl
  | some x => simp
theorem wdAt_ne {ws : Wds} {i : Nat} {w : List UInt8} (hw : w ≠ []) (h : wdAt ws i = w) : i < ws.length := by
  rcases Nat.lt_or_ge i ws.length with h' | h'
  · exact h'
  · rw [wdAt_ge h'] at h; exact absurd h.symm hw
theorem cdR_ok {ws : Wds} {i n : Nat} {lead u : List UInt8} {cs : List Cond} (hl : lead ≠ []) (h : wdAt ws i = lead) (hi : i + 3 < ws.length) (hu : unB (wdAt ws (i + 3)) = some u) :
    cdR (n + 1) lead (ws.drop i) cs = cdR n [97, 110, 100] (ws.drop (i + 4)) (cs ++ [⟨wdAt ws (i + 1), wdAt ws (i + 2), u⟩]) := by
  rw [cdR_succ, hdB_wd hl, h]
  have e : (ws.drop i).tail = wdAt ws (i + 1) :: wdAt ws (i + 2) :: wdAt ws (i + 3) :: ws.drop (i + 4) := by
    rw [List.tail_drop, dropE (show i + 1 < ws.length by omega), dropE (show i + 1 + 1 < ws.length by omega), dropE (show i + 1 + 1 + 1 < ws.length by omega), wdAt_lt (show i + 1 < ws.length by omega), wdAt_lt (show i + 2 < ws.length by omega), wdAt_lt (show i + 3 < ws.length by omega)]
  simp [e, cdV, cdW, cdC, hu]
theorem cdR_bad {ws : Wds} {i n : Nat} {lead : List UInt8} {cs : List Cond} (hl : lead ≠ []) (h : wdAt ws i = lead) (hb : ws.length ≤ i + 3 ∨ unB (wdAt ws (i + 3)) = none) : (cdR (n + 1) lead (ws.drop i) cs).1 = false := by
  rw [cdR_succ, hdB_wd hl, h]
  have : cdV (ws.drop i).tail = false := by
    rcases cd_cases (ws.drop i).tail with ⟨_, h, _⟩ | ⟨f, op, v, t, e⟩
    · exact h
    · have hlen : (ws.drop i).tail.length = ws.length - i - 1 := by simp; omega
      have h2 : (ws.drop i).tail[2]? = some v := by rw [e]; rfl
      rw [e] at hlen; simp at hlen
      rcases hb with hb | hb
      · omega
      · rw [List.tail_drop, List.getElem?_drop] at h2
        have h3 : wdAt ws (i + 3) = v := by unfold wdAt; rw [show i + 3 = i + 1 + 2 from rfl, h2]; rfl
        rw [e]; simp [cdV, ← h3, hb]
  rw [this]; simp
theorem cdR_end {ws : Wds} {i n : Nat} {lead : List UInt8} {cs : List Cond} (hl : lead ≠ []) (h : ¬ wdAt ws i = lead) : cdR (n + 1) lead (ws.drop i) cs = (true, ws.drop i, cs) := by
  rw [cdR_succ, hdB_wd hl]; simp [h]
theorem readF_bad1 {ws : Wds} (h : (cdR (ws.length + 1) [105, 102] ws []).1 = false) : (readF ws).1 = false := by
  unfold readF
  revert h
  rcases cdR (ws.length + 1) [105, 102] ws [] with ⟨ok, w, c⟩
  intro h
  have h : ok = false := h
  subst h; simp [rdScp]
theorem rdLine_bad {ws : Wds} (h : (readF (ws.drop 3)).1 = false) : rdLine ws = none := by
  unfold rdLine
  split
  · rfl
  · revert h
    rcases readF (ws.drop 3) with ⟨ok, w, c⟩
    intro h
    have h : ok = false := h
    subst h; rfl
theorem rdScp_no {ws : Wds} {i : Nat} (h : ¬ wdAt ws i = [115, 99, 111, 112, 101, 115]) : rdScp true (ws.drop i) = (true, ws.drop i, []) := by
  unfold rdScp; rw [hdB_wd (by simp)]; simp [h]
theorem rdScp_yes {ws : Wds} {i : Nat} (h : wdAt ws i = [115, 99, 111, 112, 101, 115]) : rdScp true (ws.drop i) = (decide (((scR (ws.drop (i + 1)) []).2.length : Int) > 0), (scR (ws.drop (i + 1)) []).1, (scR (ws.drop (i + 1)) []).2) := by
  unfold rdScp; rw [hdB_wd (by simp), List.tail_drop]; simp [h]
theorem scR_step {ws sc : Wds} {i : Nat} (hi : i < ws.length) (h1 : ¬ ws[i] = [108, 101, 118, 101, 108]) (h2 : ¬ ws[i] = [97, 103, 101]) : scR (ws.drop i) sc = scR (ws.drop (i + 1)) (sc ++ [ws[i]]) := by
  rw [dropE hi, scR]; simp [h1, h2]
theorem scR_end {ws sc : Wds} {i : Nat} (h : ws.length ≤ i ∨ ∃ hi : i < ws.length, ws[i] = [108, 101, 118, 101, 108] ∨ ws[i] = [97, 103, 101]) : scR (ws.drop i) sc = (ws.drop i, sc) := by
  rcases h with h | ⟨hi, h⟩
  · rw [dropN h]; rfl
  · rw [dropE hi, scR]
    rcases h with h | h <;> simp [h]
theorem tail_ok {ws : Wds} {i : Nat} {key : List UInt8} (hk : key ≠ []) (hi : i ≤ ws.length) (h : (tailR ws i key).2.2 = true) : cntR (ws.drop i) key = ((tailR ws i key).1, true, ws.drop (tailR ws i key).2.1) ∧ (tailR ws i key).2.1 ≤ ws.length := by
  unfold tailR at h ⊢
  unfold cntR
  rw [hdB_wd hk]
  split
  · rename_i q
    rw [if_pos q] at h
    simp only at h ⊢
    rcases Nat.lt_or_ge (i + 1) ws.length with h1 | h1
    · rw [List.tail_drop, dropE h1]
      simp only
      rw [wdAt_lt h1] at h ⊢
      exact ⟨by rw [h], by omega⟩
    · rw [wdAt_ge h1] at h
      exact absurd h (by decide)
  · exact ⟨rfl, hi⟩
theorem tail_bad {ws : Wds} {i : Nat} {key : List UInt8} (hk : key ≠ []) (h : (tailR ws i key).2.2 = false) : (cntR (ws.drop i) key).2.1 = false := by
  unfold tailR at h
  unfold cntR
  rw [hdB_wd hk]
  split
  · rename_i q
    rw [if_pos q] at h
    simp only at h
    rcases Nat.lt_or_ge (i + 1) ws.length with h1 | h1
    · rw [List.tail_drop, dropE h1]
      simp only
      rwa [wdAt_lt h1] at h
    · rw [List.tail_drop, dropN h1]
  · rename_i q
    rw [if_neg q] at h
    cases h
theorem rd_fin {ws sc : Wds} {i0 i : Nat} {cs : List Cond} (h3 : 3 ≤ ws.length) (h0 : wdAt ws 0 = [114, 117, 108, 101]) (h2 : wdAt ws 2 = [112, 101, 114, 109, 105, 116] ∨ wdAt ws 2 = [100, 101, 110, 121]) (hne : [] ∉ ws) (hC : cdR ((ws.drop 3).length + 1) [105, 102] (ws.drop 3) [] = (true, ws.drop i0, cs)) (hS : rdScp true (ws.drop i0) = (true, ws.drop i, sc)) (hi : i ≤ ws.length) :
    Le (.tup [.agg [.str (wdAt ws 1), .bool (wdAt ws 2 == [100, 101, 110, 121]), .slice 3 cs.isEmpty (cs.map Cond.cs) none, .slice 1 sc.isEmpty (sc.map fun x => [.str x]) none, .int .i64 (tailR ws i [108, 101, 118, 101, 108]).1, .int .i64 (tailR ws (tailR ws i [108, 101, 118, 101, 108]).2.1 [97, 103, 101]).1],
      .bool ((tailR ws i [108, 101, 118, 101, 108]).2.2 && (tailR ws (tailR ws i [108, 101, 118, 101, 108]).2.1 [97, 103, 101]).2.2 && ((tailR ws (tailR ws i [108, 101, 118, 101, 108]).2.1 [97, 103, 101]).2.1 : Int) == (ws.length : Int))]) (lineD (rdLine ws)) := by
  cases hA : (tailR ws i [108, 101, 118, 101, 108]).2.2 with
  | false =>
    have hb := tail_bad (by simp) hA
    have e : rdLine ws = none := rdLine_bad (by
      rw [readF_eq hC hS (n1 := (cntR (ws.drop i) [108, 101, 118, 101, 108]).1) (b1 := false) (w3 := (cntR (ws.drop i) [108, 101, 118, 101, 108]).2.2) (by rw [← hb]) rfl]; simp)
    rw [e]; exact Le.junks (by simp)
  | true =>
    obtain ⟨hA1, hA2⟩ := tail_ok (by simp) hi hA
    cases hB : (tailR ws (tailR ws i [108, 101, 118, 101, 108]).2.1 [97, 103, 101]).2.2 with
    | false =>
      have hb := tail_bad (by simp) hB
      have e : rdLine ws = none := rdLine_bad (by
        rw [readF_eq hC hS hA1 (n2 := (cntR (ws.drop (tailR ws i [108, 101, 118, 101, 108]).2.1) [97, 103, 101]).1) (b2 := false) (w4 := (cntR (ws.drop (tailR ws i [108, 101, 118, 101, 108]).2.1) [97, 103, 101]).2.2) (by rw [← hb])]; simp)
      rw [e]; exact Le.junks (by simp)
    | true =>
      obtain ⟨hB1, hB2⟩ := tail_ok (by simp) hA2 hB
      have hr := readF_eq hC hS hA1 hB1
      have hs := rdLine_some h3 h0 h2 hne
      rw [hr] at hs
      have e : ((((ws.drop (tailR ws (tailR ws i [108, 101, 118, 101, 108]).2.1 [97, 103, 101]).2.1).length : Int) == 0)) = (((tailR ws (tailR ws i [108, 101, 118, 101, 108]).2.1 [97, 103, 101]).2.1 : Int) == (ws.length : Int)) := by
        rw [Bool.eq_iff_iff]; simp; omega
      dsimp only at hs
      rw [e] at hs
      simpa [hA, hB, -List.length_drop] using hs
end Go.Proofs
