import Derived.Test.YtahpinmifmdpgaaGreatDoorG05
import Derived.Test.YtahpinmifmdpgaaGreatDoorG09
import Derived.Test.YtahpinmifmdpgaaGreatDoorG03
set_option linter.unusedVariables false
set_option linter.unusedSimpArgs false
set_option linter.unnecessarySimpa false
set_option maxRecDepth 10000
namespace Go.Proofs
open Go Go.Id
set_option maxHeartbeats 4000000
theorem clo_reL {S : Nat → Prop} (l : List Reas) : (∀ e ∈ l.map Reas.cs, ∀ d ∈ e, Clo S d) ↔ True := by simp
theorem clo_ruL {S : Nat → Prop} (l : List Rule) : (∀ e ∈ l.map Rule.cs, ∀ d ∈ e, Clo S d) ↔ True := by simp
theorem keyE {a b : List Reas} {k : Nat} (ha : k < a.length) (hb : k < b.length) : ((a.drop k).map keyR == (b.drop k).map keyR) = ((a[k].rule == b[k].rule && (a[k].cond == b[k].cond && (a[k].scopes == b[k].scopes))) && ((a.drop (k + 1)).map keyR == (b.drop (k + 1)).map keyR)) := by
 rw [dropE ha, dropE hb]; rfl
theorem keyN {a b : List Reas} {k : Nat} (ha : a.length ≤ k) (hb : b.length ≤ k) : ((a.drop k).map keyR == (b.drop k).map keyR) = true := by
 rw [dropN ha, dropN hb]; rfl
theorem c_same31 (d e : Dec) (hd : d.ok) (he : e.ok) : CallP Pr 11 [.agg [.int .i64 d.eff, .slice 1 d.ns (d.scopes.map fun x => [.str x]) none, .int .i64 d.lvl, .int .i64 d.age, .slice 3 d.nr (d.reas.map Reas.cs) none], .agg [.int .i64 e.eff, .slice 1 e.ns (e.scopes.map fun x => [.str x]) none, .int .i64 e.lvl, .int .i64 e.age, .slice 3 e.nr (e.reas.map Reas.cs) none]] (.bool (sameD d e)) := by
 have hn := hd.2.2.2.1
 refine CallP.of_wp Tryz.func11 rfl (by kernel_rfl) Tryz.ntmps11 (by simp) ?_
 simp only [frameOf, Nat.reduceAdd, Nat.zero_add]
 refine WP.sr [2, 3] (by kernel_rfl) fun K hK => ?_
 simp (decide := true) only [TF, ↓reduceIte, Int.reduceToNat]
 refine hK _ _ ?_; clear hK K
 refine WP.seq ?_
 refine WP.sr [2, 3, 43] (by kernel_rfl) fun K hK => ?_
 refine runOps.take 6 fun J hJ => ?_
 simp (decide := true) only [TF, ↓reduceIte, Int.reduceToNat]
 refine hJ _ _ ?_; clear hJ J
 refine runOps.part 13 rfl (fun q1 => ?_) (fun q1 => ?_)
 ·
  simp (decide := true) only [TF, q1, ↓reduceIte, Int.reduceToNat]
  refine hK _ _ ?_; clear hK K
  refine WP.cond (b := true) (by rfl) (fun _ => ?_) nofun
  refine WP.sr [4] (by kernel_rfl) fun K hK => ?_
  simp (decide := true) only [TF, q1, ↓reduceIte, Int.reduceToNat]
  refine hK _ _ ?_; clear hK K
  refine WP.ret ?_
  exact Ends.pure (.inr rfl) rfl (Le.of_eq (by simp_all [St.get, lk, W, LN, bne, sameD])) (by simp)
 ·
  simp (decide := true) only [TF, q1, ↓reduceIte, Int.reduceToNat]
  refine CallK.pure (c_same2 d.scopes e.scopes d.ns e.ns (by have := hd.1; omega) hd.2.1 he.2.1) rfl rfl (by simp [-List.map_take]) ?_
  refine runOps.take 3 fun J hJ => ?_
  simp (decide := true) only [TF, q1, ↓reduceIte, Int.reduceToNat]
  refine hJ _ _ ?_; clear hJ J
  refine runOps.part 21 rfl (fun q2 => ?_) (fun q2 => ?_)
  ·
   simp (decide := true) only [TF, q1, q2, ↓reduceIte, Int.reduceToNat]
   refine hK _ _ ?_; clear hK K
   refine WP.cond (b := true) (by rfl) (fun _ => ?_) nofun
   refine WP.sr [4] (by kernel_rfl) fun K hK => ?_
   simp (decide := true) only [TF, q1, q2, ↓reduceIte, Int.reduceToNat]
   refine hK _ _ ?_; clear hK K
   refine WP.ret ?_
   exact Ends.pure (.inr rfl) rfl (Le.of_eq (by simp_all [St.get, lk, W, LN, bne, sameD])) (by simp)
  ·
   refine runOps.take 7 fun J hJ => ?_
   simp (decide := true) only [TF, q1, q2, ↓reduceIte, Int.reduceToNat]
   refine hJ _ _ ?_; clear hJ J
   refine runOps.part 28 rfl (fun q3 => ?_) (fun q3 => ?_)
   ·
    simp (decide := true) only [TF, q1, q2, q3, ↓reduceIte, Int.reduceToNat]
    refine hK _ _ ?_; clear hK K
    refine WP.cond (b := true) (by rfl) (fun _ => ?_) nofun
    refine WP.sr [4] (by kernel_rfl) fun K hK => ?_
    simp (decide := true) only [TF, q1, q2, q3, ↓reduceIte, Int.reduceToNat]
    refine hK _ _ ?_; clear hK K
    refine WP.ret ?_
    exact Ends.pure (.inr rfl) rfl (Le.of_eq (by simp_all [St.get, lk, W, LN, bne, sameD])) (by simp)
   ·
    refine runOps.take 7 fun J hJ => ?_
    simp (decide := true) only [TF, q1, q2, q3, ↓reduceIte, Int.reduceToNat]
    refine hJ _ _ ?_; clear hJ J
    refine runOps.part 35 rfl (fun q4 => ?_) (fun q4 => ?_)
    ·
     simp (decide := true) only [TF, q1, q2, q3, q4, ↓reduceIte, Int.reduceToNat]
     refine hK _ _ ?_; clear hK K
     refine WP.cond (b := true) (by rfl) (fun _ => ?_) nofun
     refine WP.sr [4] (by kernel_rfl) fun K hK => ?_
     simp (decide := true) only [TF, q1, q2, q3, q4, ↓reduceIte, Int.reduceToNat]
     refine hK _ _ ?_; clear hK K
     refine WP.ret ?_
     exact Ends.pure (.inr rfl) rfl (Le.of_eq (by simp_all [St.get, lk, W, LN, bne, sameD])) (by simp)
    ·
     simp (decide := true) only [TF, q1, q2, q3, q4, ↓reduceIte, Int.reduceToNat]
     refine hK _ _ ?_; clear hK K
     refine WP.cond (b := _) rfl (fun q5 => ?_) (fun q5 => ?_)
     ·
      have hX : (d.reas.map keyR == e.reas.map keyR) = false := eqLen (fun e1 => by rw [List.length_map, List.length_map] at e1; rw [e1] at q5; simp at q5)
      refine WP.sr [4] (by kernel_rfl) fun K hK => ?_
      simp (decide := true) only [TF, q1, q2, q3, q4, q5, hX, ↓reduceIte, Int.reduceToNat]
      refine hK _ _ ?_; clear hK K
      refine WP.ret ?_
      exact Ends.pure (.inr rfl) rfl (Le.of_eq (by simp (decide := true) only [St.get, lk, W, sameD, q1, q2, q3, q4, q5, hX, ↓reduceIte])) (by simp)
     ·
      have hE : d.reas.length = e.reas.length := by have hq := q5; simp at hq; omega
      refine WP.skip ?_
      show WP _ _ _ _ _ _
      refine WP.seq ?_
      refine WP.sr [2, 3, 5] (by kernel_rfl) fun K hK => ?_
      simp (decide := true) only [TF, q1, q2, q3, q4, q5, ↓reduceIte, Int.reduceToNat]
      refine hK _ _ ?_; clear hK K
      refine WP.block ?_
      refine WP.lp [2, 3] (X := {k : Nat // k ≤ d.reas.length ∧ (d.reas.map keyR == e.reas.map keyR) = ((d.reas.drop k).map keyR == (e.reas.drop k).map keyR)}) (fun x => match x with | ⟨(k), _⟩ => [(5, .int .i64 k)]) (fun x => match x with | ⟨(k), _⟩ => [(0, .box 32 [.int .i64 d.eff, .slice 1 d.ns (d.scopes.map fun x => [.str x]) none, .int .i64 d.lvl, .int .i64 d.age, .slice 3 d.nr (d.reas.map Reas.cs) none]), (1, .box 32 [.int .i64 e.eff, .slice 1 e.ns (e.scopes.map fun x => [.str x]) none, .int .i64 e.lvl, .int .i64 e.age, .slice 3 e.nr (e.reas.map Reas.cs) none])]) (fun x => match x with | ⟨(k), _⟩ => d.reas.length - k) (by simp (decide := true) only [W, ↓reduceIte, Int.reduceToNat]; rfl) ?_ ⟨(0), ⟨Nat.zero_le _, by simp⟩⟩ ?_
      rotate_left
      · exact Weak.store (by simp [St.get, lk, W, Le.refl, q1, q2, q3, q4, q5]) (by simp [lk, W, q1, q2, q3, q4, q5]) (by simp [lk, W]) (by simp [BClo, lk]) (by simp [lk])
      rintro ⟨k, hk, hI⟩
      dsimp only
      simp only [List.cons_append, List.nil_append]
      refine WP.seq ?_
      refine WP.sr [2, 3, 5, 48] (by kernel_rfl) fun K hK => ?_
      simp (decide := true) only [TF, q1, q2, q3, q4, q5, hk, ↓reduceIte, Int.reduceToNat]
      refine hK _ _ ?_; clear hK K
      refine WP.cond (b := _) rfl (fun q6 => ?_) (fun q6 => ?_)
      ·
       have hlt := lt_of_q q6
       have hlb : k < e.reas.length := by omega
       have hg : (d.reas.map Reas.cs)[k]? = some [.int .i64 d.reas[k].rule, .int .i64 d.reas[k].cond, .slice 1 d.reas[k].ns (d.reas[k].scopes.map fun x => [.str x]) none] := getM hlt
       have hgb : (e.reas.map Reas.cs)[k]? = some [.int .i64 e.reas[k].rule, .int .i64 e.reas[k].cond, .slice 1 e.reas[k].ns (e.reas[k].scopes.map fun x => [.str x]) none] := getM hlb
       have hnf := nl_false hd.2.2.2.2.1 hlt
       have hnfb := nl_false he.2.2.2.2.1 hlb
       rw [keyE hlt hlb] at hI
       have hdk := hd.2.2.2.2.2.1 _ (List.getElem_mem hlt)
       have hek := he.2.2.2.2.2.1 _ (List.getElem_mem hlb)
       refine WP.skip ?_
       show WP _ _ _ _ _ _
       refine WP.seq ?_
       refine WP.block ?_
       refine WP.sd [2, 3, 5, 6, 7] (by kernel_rfl) (by kernel_rfl) fun K hK => ?_
       simp (decide := true) only [TF, q1, q2, q3, q4, q5, hk, q6, hg, hgb, hnf, hnfb, ↓reduceIte, Int.reduceToNat]
       refine hK _ _ (by kernel_rfl) ?_
       clear hK K
       refine WP.sr [2, 3, 5, 80] (by kernel_rfl) fun K hK => ?_
       refine runOps.take 6 fun J hJ => ?_
       simp (decide := true) only [TF, q1, q2, q3, q4, q5, hk, q6, hg, hgb, hnf, hnfb, ↓reduceIte, Int.reduceToNat]
       refine hJ _ _ ?_; clear hJ J
       refine runOps.part 66 rfl (fun q7 => ?_) (fun q7 => ?_)
       ·
        simp (decide := true) only [TF, q1, q2, q3, q4, q5, hk, q6, hg, hgb, hnf, hnfb, q7, ↓reduceIte, Int.reduceToNat]
        refine hK _ _ ?_; clear hK K
        refine WP.cond (b := true) (by rfl) (fun _ => ?_) nofun
        refine WP.sr [4] (by kernel_rfl) fun K hK => ?_
        simp (decide := true) only [TF, q1, q2, q3, q4, q5, hk, q6, hg, hgb, hnf, hnfb, q7, ↓reduceIte, Int.reduceToNat]
        refine hK _ _ ?_; clear hK K
        refine WP.ret ?_
        exact Ends.pure (.inr rfl) rfl (Le.of_eq (by simp_all [St.get, lk, W, LN, bne, sameD])) (by simp)
       ·
        refine runOps.take 7 fun J hJ => ?_
        simp (decide := true) only [TF, q1, q2, q3, q4, q5, hk, q6, hg, hgb, hnf, hnfb, q7, ↓reduceIte, Int.reduceToNat]
        refine hJ _ _ ?_; clear hJ J
        refine runOps.part 73 rfl (fun q8 => ?_) (fun q8 => ?_)
        ·
         simp (decide := true) only [TF, q1, q2, q3, q4, q5, hk, q6, hg, hgb, hnf, hnfb, q7, q8, ↓reduceIte, Int.reduceToNat]
         refine hK _ _ ?_; clear hK K
         refine WP.cond (b := true) (by rfl) (fun _ => ?_) nofun
         refine WP.sr [4] (by kernel_rfl) fun K hK => ?_
         simp (decide := true) only [TF, q1, q2, q3, q4, q5, hk, q6, hg, hgb, hnf, hnfb, q7, q8, ↓reduceIte, Int.reduceToNat]
         refine hK _ _ ?_; clear hK K
         refine WP.ret ?_
         exact Ends.pure (.inr rfl) rfl (Le.of_eq (by simp_all [St.get, lk, W, LN, bne, sameD])) (by simp)
        ·
         simp (decide := true) only [TF, q1, q2, q3, q4, q5, hk, q6, hg, hgb, hnf, hnfb, q7, q8, ↓reduceIte, Int.reduceToNat]
         refine CallK.pure (c_same2 d.reas[k].scopes e.reas[k].scopes d.reas[k].ns e.reas[k].ns (by have := hdk.1; omega) hdk.2.1 hek.2.1) rfl rfl (by simp [-List.map_take]) ?_
         simp (decide := true) only [TF, q1, q2, q3, q4, q5, hk, q6, hg, hgb, hnf, hnfb, q7, q8, ↓reduceIte, Int.reduceToNat]
         refine hK _ _ ?_; clear hK K
         refine WP.cond (b := _) rfl (fun q9 => ?_) (fun q9 => ?_)
         ·
          refine WP.sr [4] (by kernel_rfl) fun K hK => ?_
          simp (decide := true) only [TF, q1, q2, q3, q4, q5, hk, q6, hg, hgb, hnf, hnfb, q7, q8, q9, ↓reduceIte, Int.reduceToNat]
          refine hK _ _ ?_; clear hK K
          refine WP.ret ?_
          exact Ends.pure (.inr rfl) rfl (Le.of_eq (by simp_all [St.get, lk, W, LN, bne, sameD])) (by simp)
         ·
          refine WP.skip ?_
          show WP _ _ _ _ _ _
          refine WP.region (by kernel_rfl) fun K hK => ?_
          simp (decide := true) only [TF, q1, q2, q3, q4, q5, hk, q6, hg, hgb, hnf, hnfb, q7, q8, q9, ↓reduceIte, Int.reduceToNat]
          refine hK _ _ ?_; clear hK K
          show ∃ y, _ ∧ Weak _ _ _
          refine ⟨⟨k + 1, ?_⟩, ?_, ?_⟩
          · exact ⟨by omega, by first | (simpa [q1, q2, q3, q4, q5, hk, q6, hg, hgb, hnf, hnfb, q7, q8, q9] using hI) | (simp_all; done)⟩
          · dsimp only; omega
          · exact Weak.store (by simp [St.get, lk, W, Le.refl, q1, q2, q3, q4, q5, hk, q6, hg, hgb, hnf, hnfb, q7, q8, q9, wrapS hlt (show d.reas.length ≤ 140737488355328 by omega)]) (by simp [lk, W, q1, q2, q3, q4, q5, hk, q6, hg, hgb, hnf, hnfb, q7, q8, q9, wrapS hlt (show d.reas.length ≤ 140737488355328 by omega)]) (by simp [lk, W]) (by simp [BClo, lk]) (by simp [lk])
      ·
       have hge := ge_of_q q6
       rw [keyN hge (by omega)] at hI
       refine WP.exit ?_
       show WP _ _ _ _ _ _
       refine WP.sr [4] (by kernel_rfl) fun K hK => ?_
       simp (decide := true) only [TF, q1, q2, q3, q4, q5, hk, q6, ↓reduceIte, Int.reduceToNat]
       refine hK _ _ ?_; clear hK K
       refine WP.ret ?_
       exact Ends.pure (.inr rfl) rfl (Le.of_eq (by simp_all [St.get, lk, W, LN, bne, sameD])) (by simp)
theorem c_explain (l : List Rule) (nl : Bool) (d : Dec) (hnl : nl = true → l = []) (hl : ∀ p ∈ l, p.ok) (hd : d.ok) : CallP Pr 15 [.slice 6 nl (l.map Rule.cs) none, .agg [.int .i64 d.eff, .slice 1 d.ns (d.scopes.map fun x => [.str x]) none, .int .i64 d.lvl, .int .i64 d.age, .slice 3 d.nr (d.reas.map Reas.cs) none]] (.slice 1 (explX l d).isEmpty ((explX l d).map (fun x => [D.str x])) none) := by
 have hn := hd.2.2.2.1
 refine CallP.of_wp Tryz.func15 rfl (by kernel_rfl) Tryz.ntmps15 (by simp) ?_
 simp only [frameOf, Nat.reduceAdd, Nat.zero_add]
 refine WP.sr [0, 3] (by kernel_rfl) fun K hK => ?_
 simp (decide := true) only [TF, ↓reduceIte, Int.reduceToNat]
 refine hK _ _ ?_; clear hK K
 refine WP.sr [0, 3, 5] (by kernel_rfl) fun K hK => ?_
 simp (decide := true) only [TF, ↓reduceIte, Int.reduceToNat]
 refine hK _ _ ?_; clear hK K
 refine WP.seq ?_
 refine WP.sr [0, 3, 5, 9, 10, 11] (by kernel_rfl) fun K hK => ?_
 simp (decide := true) only [TF, ↓reduceIte, Int.reduceToNat]
 refine hK _ _ ?_; clear hK K
 refine WP.block ?_
 refine WP.lp [0, 3, 9, 10] (X := {x : (Nat) × (List (List UInt8)) // match x with | (k, o) => k ≤ d.reas.length ∧ o.length ≤ k ∧ d.reas.map (lineX l) = o ++ (d.reas.drop k).map (lineX l)}) (fun x => match x with | ⟨(k, o), _⟩ => [(5, .slice 1 o.isEmpty (o.map (fun x => [D.str x])) (some 1)), (11, .int .i64 k)]) (fun x => match x with | ⟨(k, o), _⟩ => [(1, .tip 9 1 o.length), (0, .box 32 [.int .i64 d.eff, .slice 1 d.ns (d.scopes.map fun x => [.str x]) none, .int .i64 d.lvl, .int .i64 d.age, .slice 3 d.nr (d.reas.map Reas.cs) none])]) (fun x => match x with | ⟨(k, o), _⟩ => d.reas.length - k) (by simp (decide := true) only [W, ↓reduceIte, Int.reduceToNat]; rfl) ?_ ⟨(0, []), ⟨Nat.zero_le _, Nat.zero_le _, by simp⟩⟩ ?_
 rotate_left
 · refine Weak.trans (Weak.ghost 1 9 1 (F' := [(11, .int .i64 0), (10, .int .i64 d.reas.length), (9, .slice 3 d.nr (d.reas.map Reas.cs) none), (5, .slice 1 true [] (some 1)), (3, .ref 0 0), (0, .slice 6 nl (l.map Rule.cs) none)]) (σ' := [(0, .box 32 [.int .i64 d.eff, .slice 1 d.ns (d.scopes.map fun x => [.str x]) none, .int .i64 d.lvl, .int .i64 d.age, .slice 3 d.nr (d.reas.map Reas.cs) none])]) (by simp [lk, W]) (by simp [W, keep, ins, UpF, UpD]) (by simp [UpS, UpB, UpL, UpD])) ?_; exact Weak.store (by simp [St.get, lk, W, Le.refl, W]) (by simp [lk, W]) (by simp [lk]) (by simp [BClo, lk]) (by simp [lk])
 rintro ⟨⟨k, o⟩, hk, hr, hI⟩
 dsimp only
 simp only [List.cons_append, List.nil_append]
 refine WP.sr [0, 3, 5, 9, 10, 11, 12] (by kernel_rfl) fun K hK => ?_
 simp (decide := true) only [TF, hk, ↓reduceIte, Int.reduceToNat]
 refine hK _ _ ?_; clear hK K
 refine WP.seq ?_
 refine WP.cond (b := _) rfl (fun q1 => ?_) (fun q1 => ?_)
 ·
  have hlt := lt_of_q q1
  have hg : (d.reas.map Reas.cs)[k]? = some [.int .i64 d.reas[k].rule, .int .i64 d.reas[k].cond, .slice 1 d.reas[k].ns (d.reas[k].scopes.map fun x => [.str x]) none] := getM hlt
  have hnf := nl_false hd.2.2.2.2.1 hlt
  rw [dropE hlt] at hI
  simp only [List.map_cons] at hI
  have hxk := hd.2.2.2.2.2.1 _ (List.getElem_mem hlt)
  refine WP.skip ?_
  show WP _ _ _ _ _ _
  refine WP.seq ?_
  refine WP.block ?_
  refine WP.sr [0, 3, 5, 7, 9, 10, 11] (by kernel_rfl) fun K hK => ?_
  simp (decide := true) only [TF, hk, q1, hg, hnf, ↓reduceIte, Int.reduceToNat]
  refine hK _ _ ?_; clear hK K
  refine WP.region (by kernel_rfl) fun K hK => ?_
  simp (decide := true) only [TF, hk, q1, hg, hnf, ↓reduceIte, Int.reduceToNat]
  refine CallK.pure (c_line l nl d.reas[k] hnl hl hxk) rfl rfl (by simp [-List.map_take]) ?_
  simp (decide := true) only [TF, hk, q1, hg, hnf, ↓reduceIte, Int.reduceToNat]
  repeat (refine ⟨⟨by (try simp only [List.length_append, List.length_map, List.length_cons, List.length_nil]); omega, by (try simp only [List.length_append, List.length_map, List.length_cons, List.length_nil]); omega⟩, ?_⟩)
  refine hK _ _ ?_; clear hK K
  show WP _ _ _ _ _ _
  refine WP.region (by kernel_rfl) fun K hK => ?_
  simp (decide := true) only [TF, hk, q1, hg, hnf, ↓reduceIte, Int.reduceToNat]
  refine hK _ _ ?_; clear hK K
  show ∃ y, _ ∧ Weak _ _ _
  refine ⟨⟨(k + 1, o ++ [lineX l d.reas[k]]), ?_⟩, ?_, ?_⟩
  · exact ⟨by dsimp only; omega, by simp; omega, by simpa using hI⟩
  · dsimp only; omega
  · exact Weak.store (by simp [St.get, lk, W, Le.refl, isEA, -List.append_assoc, hk, q1, hg, hnf, wrapS hlt (show d.reas.length ≤ 140737488355328 by omega)]) (by simp [lk, W, -List.append_assoc, hk, q1, hg, hnf]) (by simp [lk, W, clo_ap, clo_sl, clo_s1, clo_reL, clo_ruL, -List.mem_append, -List.mem_map, -List.append_assoc]) (by simp [BClo, lk]) (by simp [lk])
 ·
  have hge := ge_of_q q1
  rw [dropN hge] at hI
  simp only [List.map_nil, List.append_nil] at hI
  refine WP.exit ?_
  show WP _ _ _ _ _ _
  refine WP.sr [4] (by kernel_rfl) fun K hK => ?_
  simp (decide := true) only [TF, hk, q1, ↓reduceIte, Int.reduceToNat]
  refine CallK.pure (c_effect d hd) rfl rfl (by simp [-List.map_take]) ?_
  simp (decide := true) only [TF, hk, q1, ↓reduceIte, Int.reduceToNat]
  repeat (refine ⟨⟨by (try simp only [List.length_append, List.length_map, List.length_cons, List.length_nil]); omega, by (try simp only [List.length_append, List.length_map, List.length_cons, List.length_nil]); omega⟩, ?_⟩)
  refine hK _ _ ?_; clear hK K
  refine WP.ret ?_
  exact Ends.pure (.inr rfl) rfl ((by rw [show explX l d = o ++ [effX d] from by rw [explX, hI]]; exact Le.trans (Le.fg _) (Le.of_eq (by simp [St.get, lk, W, fg])))) (by simp)
theorem c_missing (d : Dec) (r : Req) (hd : d.ok) (hr : r.ok) (hrs : ∀ s ∈ r.scopes, s.length ≤ 1099511627776) : CallP Pr 18 [.agg [.int .i64 d.eff, .slice 1 d.ns (d.scopes.map fun x => [.str x]) none, .int .i64 d.lvl, .int .i64 d.age, .slice 3 d.nr (d.reas.map Reas.cs) none], .agg [.str r.user, .str r.client, .str r.tenant, .slice 1 r.ng (r.groups.map fun x => [.str x]) none, .slice 1 r.ns (r.scopes.map fun x => [.str x]) none, .int .i64 r.risk, .bool r.trusted, .int .i64 r.level, .int .i64 r.auth, .int .i64 r.now]] (.slice 1 (srtR (r.scopes.filter (fun s => !(covB s d.scopes)))).isEmpty ((srtR (r.scopes.filter (fun s => !(covB s d.scopes)))).map (fun x => [D.str x])) none) := by
 refine CallP.of_wp Tryz.func18 rfl (by kernel_rfl) Tryz.ntmps18 (by simp) ?_
 simp only [frameOf, Nat.reduceAdd, Nat.zero_add]
 refine WP.sr [2, 3] (by kernel_rfl) fun K hK => ?_
 simp (decide := true) only [TF, ↓reduceIte, Int.reduceToNat]
 refine hK _ _ ?_; clear hK K
 refine WP.sr [4] (by kernel_rfl) fun K hK => ?_
 simp (decide := true) only [TF, ↓reduceIte, Int.reduceToNat]
 refine CallK.pure (c_minus r.scopes d.scopes r.ns d.ns hr.2.2.1 hr.2.2.2 hrs (by have := hd.1; omega) hd.2.1 hd.2.2.1) rfl rfl (by simp [-List.map_take]) ?_
 simp (decide := true) only [TF, ↓reduceIte, Int.reduceToNat]
 refine hK _ _ ?_; clear hK K
 refine WP.ret ?_
 exact Ends.pure (.inr rfl) rfl (Le.of_eq (by simp (decide := true) only [St.get, lk, W, ↓reduceIte])) (by simp)
def mkR (l : List Rule) (r : Req) (i : Nat) : Reas := ⟨i, FL l r i, [], true⟩
def row0 (l : List Rule) (r : Req) (i : Nat) : List D := [.int .i64 i, .int .i64 (FL l r i), .slice 0 true [] none]
def rows0 (l : List Rule) (r : Req) (n : Nat) : List (List D) := (List.range n).map (row0 l r)
def Reas.nrm (x : Reas) : Reas := { x with ns := x.scopes.isEmpty }
def reaT (b : Nat) (x : Reas) : List D := [.int .i64 x.rule, .int .i64 x.cond, .slice 1 x.scopes.isEmpty (x.scopes.map fun x => [.str x]) (some b)]
def rowsT : Nat → List Reas → List (List D)
 | _, [] => []
 | b, x :: l => reaT b x :: rowsT (b + 1) l
def fam : Nat → List Reas → List (Nat × Blk)
 | _, [] => []
 | b, x :: l => (b, .tip 9 1 x.scopes.length) :: fam (b + 1) l
def rowsN (rs : List Reas) : List (List D) := rs.map fun x => x.nrm.cs
structure PS where
 all : List (List UInt8)
 rs : List Reas
 lvl : Int
 age : Int
def addS (s : List UInt8) (x : Reas) : Reas := if x.scopes.contains s = true then x else { x with scopes := x.scopes ++ [s] }
def ageU (a b : Int) : Int := if (decide (b > 0) && (a == 0 || decide (b < a))) = true then b else a
def lvlU (a b : Int) : Int := if b > a then b else a
def pStep (l : List Rule) (r : Req) (q : PS) (s : List UInt8) : PS :=
 if decide (grP r s l 0 < 0) = true then q else
  match l[(grP r s l 0).toNat]? with
  | some p => ⟨q.all ++ [s], q.rs.modify (grP r s l 0).toNat (addS s), lvlU q.lvl p.lvl, ageU q.age p.age⟩
  | none => q
def ps0 (l : List Rule) (r : Req) : PS := ⟨[], (List.range l.length).map (mkR l r), 0, 0⟩
def psR (l : List Rule) (r : Req) : PS := r.scopes.foldl (pStep l r) (ps0 l r)
theorem grP_nat (r : Req) (s : List UInt8) : ∀ (l : List Rule) (k : Nat), grP r s l k = -1 ∨ ∃ i, i < l.length ∧ grP r s l k = ((k + i : Nat) : Int)
 | [], k => .inl rfl
 | p :: l, k => by
  unfold grP
  split
  ·exact .inr ⟨0, by simp, rfl⟩
  ·rcases grP_nat r s l (k + 1) with h | ⟨i, h1, h2⟩
   ·exact .inl h
   ·exact .inr ⟨i + 1, by simp; omega, by rw [h2]; congr 1; omega⟩
theorem grP_at {r : Req} {s : List UInt8} {l : List Rule} (h : decide (grP r s l 0 < 0) = false) : ∃ i, i < l.length ∧ grP r s l 0 = (i : Int) := by
 have h := of_decide_eq_false h
 rcases grP_nat r s l 0 with e | ⟨i, h1, h2⟩
 ·omega
 ·exact ⟨i, h1, by rw [h2, Nat.zero_add]⟩
theorem pStep_no {l : List Rule} {r : Req} {q : PS} {s : List UInt8} (h : decide (grP r s l 0 < 0) = true) : pStep l r q s = q := by unfold pStep; rw [if_pos h]
theorem pStep_at {l : List Rule} {r : Req} {q : PS} {s : List UInt8} {i : Nat} (hi : i < l.length) (h : grP r s l 0 = (i : Int)) : pStep l r q s = ⟨q.all ++ [s], q.rs.modify i (addS s), lvlU q.lvl l[i].lvl, ageU q.age l[i].age⟩ := by
 unfold pStep
 rw [h, if_neg (by simp), Int.toNat_natCast, getE hi]
theorem rowsT_len : ∀ (b : Nat) (rs : List Reas), (rowsT b rs).length = rs.length
 | _, [] => rfl
 | b, x :: l => by simp [rowsT, rowsT_len]
theorem rowsT_mem : ∀ (b : Nat) (rs : List Reas), ∀ x ∈ rowsT b rs, x.length = 3
 | _, [], x, h => by simp [rowsT] at h
 | b, y :: l, x, h => by
  rcases List.mem_cons.1 h with rfl | h
  ·rfl
  ·exact rowsT_mem _ _ x h
theorem rowsT_flen (b : Nat) (rs : List Reas) : (rowsT b rs).flatten.length = rs.length * 3 := by rw [flat_len _ (rowsT_mem b rs), rowsT_len]
theorem rowsT_drop : ∀ (rs : List Reas) (b i : Nat) (h : i < rs.length), (rowsT b rs).flatten.drop (i * 3 + 2) = .slice 1 rs[i].scopes.isEmpty (rs[i].scopes.map fun x => [.str x]) (some (b + i)) :: (rowsT b rs).flatten.drop (i * 3 + 3)
 | x :: l, b, 0, _ => rfl
 | x :: l, b, i + 1, h => by
  have ih := rowsT_drop l (b + 1) i (by simpa using h)
  rw [show (i + 1) * 3 + 2 = (i * 3 + 2) + 3 from by omega, show (i + 1) * 3 + 3 = (i * 3 + 3) + 3 from by omega, show b + (i + 1) = b + 1 + i from by omega]
  exact ih
 | [], b, i, h => by simp at h
theorem rowsT_set (f : Reas → Reas) (hf : ∀ x, (f x).rule = x.rule ∧ (f x).cond = x.cond) : ∀ (rs : List Reas) (b i : Nat) (h : i < rs.length),
  (rowsT b rs).flatten.take (i * 3 + 2) ++ [D.slice 1 (f rs[i]).scopes.isEmpty ((f rs[i]).scopes.map fun x => [.str x]) (some (b + i))] ++ (rowsT b rs).flatten.drop (i * 3 + 2 + 1) = (rowsT b (rs.modify i f)).flatten
 | x :: l, b, 0, _ => by
  simp only [List.modify_zero_cons, rowsT, List.flatten_cons, reaT, (hf x).1, (hf x).2]
  rfl
 | x :: l, b, i + 1, h => by
  have ih := rowsT_set f hf l (b + 1) i (by simpa using h)
  rw [show (i + 1) * 3 + 2 = (i * 3 + 2) + 3 from by omega, show (i * 3 + 2) + 3 + 1 = (i * 3 + 2 + 1) + 3 from by omega, show b + (i + 1) = b + 1 + i from by omega]
  simp only [List.modify_succ_cons, rowsT, List.flatten_cons, reaT]
  have e : ∀ (p q s : D) (m : Nat) (L : List D), List.take (m + 3) ([p, q, s] ++ L) = [p, q, s] ++ List.take m L := fun p q s m L => rfl
  have e' : ∀ (p q s : D) (m : Nat) (L : List D), List.drop (m + 3) ([p, q, s] ++ L) = List.drop m L := fun p q s m L => rfl
  rw [e, e', ← ih, List.getElem_cons_succ]
  simp only [List.append_assoc]
 | [], b, i, h => by simp at h
theorem fam_at : ∀ (rs : List Reas) (b i : Nat) (h : i < rs.length), lk (fam b rs) (b + i) = some (.tip 9 1 rs[i].scopes.length)
 | x :: l, b, 0, _ => by simp [fam, lk]
 | x :: l, b, i + 1, h => by
  have ih := fam_at l (b + 1) i (by simpa using h)
  rw [fam, lk, if_neg (by omega), show b + (i + 1) = b + 1 + i from by omega, ih]; rfl
 | [], b, i, h => by simp at h
theorem fam_upd (f : Reas → Reas) : ∀ (rs : List Reas) (b i : Nat) (h : i < rs.length) (j : Nat), lk (fam b (rs.modify i f)) j = if j = b + i then some (.tip 9 1 (f rs[i]).scopes.length) else lk (fam b rs) j
 | x :: l, b, 0, _, j => by
  simp only [List.modify_zero_cons, fam, lk, Nat.add_zero, List.getElem_cons_zero]
  split <;> rfl
 | x :: l, b, i + 1, h, j => by
  have ih := fam_upd f l (b + 1) i (by simpa using h) j
  simp only [List.modify_succ_cons, fam, lk, List.getElem_cons_succ]
  rw [ih, show b + 1 + i = b + (i + 1) from by omega]
  by_cases hj : j = b
  ·rw [if_pos hj, if_pos hj, if_neg (by omega)]
  ·rw [if_neg hj, if_neg hj]
 | [], b, i, h, _ => by simp at h
theorem fam_0 : ∀ (rs : List Reas) (b j : Nat), (∀ x ∈ rs, x.scopes = []) → lk (fam b rs) j = if b ≤ j ∧ j < b + rs.length then some (.tip 9 1 0) else none
 | [], b, j, _ => by rw [if_neg (by intro h; simp only [List.length_nil] at h; omega)]; rfl
 | x :: l, b, j, h => by
  rw [fam, lk, fam_0 l (b + 1) j (fun y hy => h y (by simp [hy])), h x (by simp)]
  simp only [List.length_cons, List.length_nil]
  by_cases hj : j = b
  ·rw [if_pos hj, if_pos (by omega)]
  ·rw [if_neg hj]
   by_cases hr : b + 1 ≤ j ∧ j < b + 1 + l.length
   ·rw [if_pos hr, if_pos (by omega)]
   ·rw [if_neg hr, if_neg (by omega)]
theorem rowsT_nrm : ∀ (rs : List Reas) (b : Nat), Les (rowsT b rs).flatten (rowsN rs).flatten
 | [], b => trivial
 | x :: l, b => ⟨Le.refl _, Le.refl _, Le.fg _, rowsT_nrm l (b + 1)⟩
theorem rowsN_clo {S : Nat → Prop} (rs : List Reas) : ∀ d ∈ (rowsN rs).flatten, Clo S d := by
 intro d hd
 simp only [rowsN, List.mem_flatten, List.mem_map] at hd
 obtain ⟨e, ⟨x, _, rfl⟩, hd⟩ := hd
 exact (clo_reas x.nrm).2 trivial d hd
theorem rowsN_len (rs : List Reas) : (rowsN rs).length = rs.length := List.length_map _
theorem rowsN_mem (rs : List Reas) : ∀ x ∈ rowsN rs, x.length = 3 := by
 simp only [rowsN, List.mem_map]
 rintro e ⟨x, _, rfl⟩; rfl
theorem rows0_len (l : List Rule) (r : Req) (n : Nat) : (rows0 l r n).length = n := by simp [rows0]
theorem rowsT_get : ∀ (rs : List Reas) (b i : Nat) (h : i < rs.length), (rowsT b rs)[i]? = some (reaT (b + i) rs[i])
 | x :: l, b, 0, _ => rfl
 | x :: l, b, i + 1, h => by
  have ih := rowsT_get l (b + 1) i (by simpa using h)
  rw [rowsT, List.getElem?_cons_succ, ih, show b + 1 + i = b + (i + 1) from by omega]; rfl
 | [], b, i, h => by simp at h
theorem rows0_up (l : List Rule) (r : Req) (n b : Nat) : ∀ (k : Nat) x x', (rows0 l r n)[k]? = some x → (rowsT b ((List.range n).map (mkR l r)))[k]? = some x' → UpL (b + k) 1 x x' := by
 intro k x x' h1 h2
 have hk : k < n := by have := (List.getElem?_eq_some_iff.1 h1).1; simpa [rows0] using this
 have hk' : k < ((List.range n).map (mkR l r)).length := by simpa using hk
 rw [rowsT_get _ b k hk'] at h2
 simp only [rows0, List.getElem?_map, List.getElem?_range hk, Option.map_some, Option.some.injEq] at h1
 simp only [Option.some.injEq] at h2
 subst h1; subst h2
 simp only [List.getElem_map, List.getElem_range]
 exact ⟨.inl rfl, .inl rfl, .inr ⟨0, rfl, rfl⟩, trivial⟩
theorem modify_len {α : Type} (l : List α) (i : Nat) (f : α → α) : (l.modify i f).length = l.length := by simp
theorem addS_rc (s : List UInt8) (x : Reas) : (addS s x).rule = x.rule ∧ (addS s x).cond = x.cond := by unfold addS; split <;> exact ⟨rfl, rfl⟩
structure PI (l : List Rule) (r : Req) (k : Nat) (q : PS) : Prop where
 len : q.rs.length = l.length
 alen : q.all.length ≤ k
 mem : ∀ x ∈ q.all, x ∈ r.scopes
 rlen : ∀ x ∈ q.rs, x.scopes.length ≤ k
 rsub : ∀ x ∈ q.rs, ∀ s ∈ x.scopes, s ∈ r.scopes
 run : psR l r = (r.scopes.drop k).foldl (pStep l r) q
theorem PI.start (l : List Rule) (r : Req) : PI l r 0 (ps0 l r) := ⟨by simp [ps0], by simp [ps0], by simp [ps0], by simp [ps0, mkR], by simp [ps0, mkR], rfl⟩
theorem PI.next {l : List Rule} {r : Req} {k : Nat} {q : PS} (h : PI l r k q) (hk : k < r.scopes.length) : PI l r (k + 1) (pStep l r q r.scopes[k]) := by
 have hr := h.run
 rw [dropE hk, List.foldl_cons] at hr
 cases hc : decide (grP r r.scopes[k] l 0 < 0) with
 | true =>
  rw [pStep_no hc] at hr ⊢
  exact ⟨h.len, by have := h.alen; omega, h.mem, fun x hx => by have := h.rlen x hx; omega, h.rsub, hr⟩
 | false =>
  obtain ⟨i, hi, hg⟩ := grP_at hc
  rw [pStep_at hi hg] at hr ⊢
  have hm : ∀ x ∈ q.rs.modify i (addS r.scopes[k]), x.scopes.length ≤ k + 1 ∧ ∀ s ∈ x.scopes, s ∈ r.scopes := by
   intro x hx
   obtain ⟨j, hj, rfl⟩ := List.mem_iff_getElem.1 hx
   have hj' : j < q.rs.length := by simpa using hj
   rw [List.getElem_modify]
   have h1 := h.rlen _ (List.getElem_mem hj')
   have h2 := h.rsub _ (List.getElem_mem hj')
   split
   ·unfold addS
    split
    ·exact ⟨by omega, h2⟩
    ·refine ⟨by simp; omega, fun s hs => ?_⟩
     rcases List.mem_append.1 hs with hs | hs
     ·exact h2 s hs
     ·rw [List.mem_singleton] at hs; rw [hs]; exact List.getElem_mem hk
   ·exact ⟨by omega, h2⟩
  refine ⟨by rw [modify_len]; exact h.len, by have := h.alen; simp; omega, fun x hx => ?_, fun x hx => (hm x hx).1, fun x hx => (hm x hx).2, hr⟩
  rcases List.mem_append.1 hx with hx | hx
  ·exact h.mem x hx
  ·rw [List.mem_singleton] at hx; rw [hx]; exact List.getElem_mem hk
theorem weak_rows {ent : List Nat} {st st' : St} {l : List Rule} {r : Req} (t b base : Nat) {F1 : List (Nat × D)} (h2 : lk st.σ b = some (.arr 36 (rows0 l r l.length).flatten)) (hn : ∀ k, k < l.length → lk st.σ (base + k) = none) (h0 : lk st.σ t = none) (ht : t < base) (hF : UpF t 1 st.F F1) (hF' : ∀ p ∈ st'.F, Le (St.get ⟨F1, []⟩ p.1) p.2)
  (hσ : ∀ i, lk st'.σ i = if i = t then some (.tip 9 1 0) else if i = b then some (.arr 36 (rowsT base (ps0 l r).rs).flatten) else if base ≤ i ∧ i < base + l.length then some (.tip 9 1 0) else lk st.σ i) : Weak ent st st' := by
 have htb : t ≠ b := fun e => by rw [e, h2] at h0; cases h0
 obtain ⟨st1, w1, f1, e1⟩ := Weak.ghosts (ent := ent) b 36 9 1 (rows0 l r l.length) (rowsT base (ps0 l r).rs) base [] st (by simpa using h2) (by rw [rows0_len]; exact hn) (by rw [rowsT_len, rows0_len]; simp [ps0]) (rows0_up l r l.length base)
 rw [rows0_len] at e1
 have w2 : Weak ent st1 ⟨F1, (t, .tip 9 1 0) :: st1.σ⟩ := Weak.ghost t 9 1 (by rw [e1, if_neg htb, if_neg (by omega)]; exact h0) (by rw [f1]; exact hF) (UpS.refl _ _ _)
 refine w1.trans (w2.trans (Weak.of_lk hF' fun i => ?_))
 rw [hσ, lk, e1]
 rfl
theorem addS_in {s : List UInt8} {x : Reas} (h : x.scopes.contains s = true) : addS s x = x := by unfold addS; rw [if_pos h]
theorem addS_out {s : List UInt8} {x : Reas} (h : x.scopes.contains s = false) : (addS s x).scopes = x.scopes ++ [s] := by unfold addS; rw [if_neg (by rw [h]; decide)]
theorem modify_in {s : List UInt8} {rs : List Reas} {i : Nat} (hi : i < rs.length) (h : rs[i].scopes.contains s = true) : rs.modify i (addS s) = rs := by
 apply List.ext_getElem (by simp)
 intro j h1 h2
 rw [List.getElem_modify]
 split
 ·rename_i e; subst e; exact addS_in h
 ·rfl
theorem rows_set {s : List UInt8} {rs : List Reas} {b i : Nat} (hi : i < rs.length) (h : rs[i].scopes.contains s = false) : (rowsT b rs).flatten.take (i * 3 + 2) ++ [D.slice 1 false (rs[i].scopes.map (fun x => [D.str x]) ++ [[D.str s]]) (some (b + i))] ++ (rowsT b rs).flatten.drop (i * 3 + 2 + 1) = (rowsT b (rs.modify i (addS s))).flatten := by
 have := rowsT_set (addS s) (addS_rc s) rs b i hi
 rw [addS_out h] at this
 simpa [isEA] using this
theorem fam_set {s : List UInt8} {rs : List Reas} {b i : Nat} (hi : i < rs.length) (h : rs[i].scopes.contains s = false) (j : Nat) : lk (fam b (rs.modify i (addS s))) j = if j = b + i then some (.tip 9 1 (rs[i].scopes.length + 1)) else lk (fam b rs) j := by
 have := fam_upd (addS s) rs b i hi j
 rw [addS_out h] at this
 simpa using this
set_option maxRecDepth 10000
theorem c_permit (l : List Rule) (nl : Bool) (r : Req) (hn : l.length ≤ 1099511627776) (hnl : nl = true → l = []) (hl : ∀ p ∈ l, p.ok) (hr : r.ok) (hrs : ∀ s ∈ r.scopes, s.length ≤ 1099511627776) : CallE Pr 30 [.ref 1 0, .slice 6 nl (l.map Rule.cs) none, .agg [.str r.user, .str r.client, .str r.tenant, .slice 1 r.ng (r.groups.map fun x => [.str x]) none, .slice 1 r.ns (r.scopes.map fun x => [.str x]) none, .int .i64 r.risk, .bool r.trusted, .int .i64 r.level, .int .i64 r.auth, .int .i64 r.now]] [(1, .box 32 [.int .i64 4, .slice 0 true [] none, .int .i64 0, .int .i64 0, .arr 2 3 l.length]), (2, .arr 36 (rows0 l r l.length).flatten)] (.bool (decide (((psR l r).all.length : Int) > 0))) [(1, .box 32 [.int .i64 4, .slice 1 (srtR (psR l r).all).isEmpty ((srtR (psR l r).all).map (fun x => [D.str x])) none, .int .i64 (psR l r).lvl, .int .i64 (psR l r).age, .arr 2 3 l.length]), (2, .arr 36 (rowsN (psR l r).rs).flatten)] := by
 refine CallE.of_wp Tryz.func30 rfl (by kernel_rfl) Tryz.ntmps30 (by simp) ?_
 simp only [frameOf, Nat.reduceAdd, Nat.zero_add, List.map_cons, List.map_nil]
 refine WP.sr [0, 1, 5] (by kernel_rfl) fun K hK => ?_
 simp (decide := true) only [TF, lk_dl, ↓reduceIte, Int.reduceToNat]
 refine hK _ _ ?_; clear hK K
 refine WP.sr [0, 1, 5, 7] (by kernel_rfl) fun K hK => ?_
 simp (decide := true) only [TF, lk_dl, ↓reduceIte, Int.reduceToNat]
 refine hK _ _ ?_; clear hK K
 refine WP.seq ?_
 refine WP.sr [0, 1, 5, 7, 14, 15, 16] (by kernel_rfl) fun K hK => ?_
 simp (decide := true) only [TF, lk_dl, ↓reduceIte, Int.reduceToNat]
 refine hK _ _ ?_; clear hK K
 refine WP.block ?_
 refine WP.lp [0, 1, 5, 14, 15] (X := {x : (Nat) × (PS) // match x with | (k, q) => k ≤ r.scopes.length ∧ PI l r k q}) (fun x => match x with | ⟨(k, q), _⟩ => [(7, .slice 1 (q.all).isEmpty ((q.all).map (fun x => [D.str x])) (some 0)), (16, .int .i64 k)]) (fun x => match x with | ⟨(k, q), _⟩ => (0, .tip 9 1 q.all.length) :: (1, .box 32 [.int .i64 4, .slice 0 true [] none, .int .i64 q.lvl, .int .i64 q.age, .arr 2 3 l.length]) :: (2, .arr 36 (rowsT 100 q.rs).flatten) :: (3, .box 25 [.str r.user, .str r.client, .str r.tenant, .slice 1 r.ng (r.groups.map fun x => [.str x]) none, .slice 1 r.ns (r.scopes.map fun x => [.str x]) none, .int .i64 r.risk, .bool r.trusted, .int .i64 r.level, .int .i64 r.auth, .int .i64 r.now]) :: fam 100 q.rs) (fun x => match x with | ⟨(k, q), _⟩ => r.scopes.length - k) (by simp (decide := true) only [W, ↓reduceIte, Int.reduceToNat]; rfl) ?_ ⟨(0, ps0 l r), ⟨Nat.zero_le _, PI.start l r⟩⟩ ?_
 rotate_left
 · refine weak_rows (l := l) (r := r) 0 2 100 (F1 := [(16, .int .i64 0), (15, .int .i64 r.scopes.length), (14, .slice 1 r.ns (r.scopes.map fun x => [.str x]) none), (7, .slice 1 true [] (some 0)), (5, .ref 3 0), (0, .ref 1 0), (1, .slice 6 nl (l.map Rule.cs) none)]) (by simp [lk]) (by intro k hk; simp only [lk]; rw [if_neg (by omega), if_neg (by omega), if_neg (by omega)]) (by simp [lk]) (by decide) (by simp [UpF, UpD, lk, W]) (by simp [St.get, lk, Le.refl, ps0]) (fun i => ?_); by_cases i0 : i = 0; simp [i0, lk, ps0]; by_cases i1 : i = 1; simp [i1, lk, ps0]; by_cases i2 : i = 2; simp [i2, lk]; by_cases i3 : i = 3; simp [i3, lk]; simp only [lk, i0, i1, i2, i3, ↓reduceIte]; rw [fam_0 _ _ _ (by simp [ps0, mkR])]; simp [ps0, i1, i2, i3]
 rintro ⟨⟨k, q⟩, hk, hP⟩
 dsimp only
 simp only [List.cons_append, List.nil_append]
 refine WP.sr [0, 1, 5, 7, 14, 15, 16, 17] (by kernel_rfl) fun K hK => ?_
 simp (decide := true) only [TF, lk_dl, ↓reduceIte, Int.reduceToNat]
 refine hK _ _ ?_; clear hK K
 refine WP.seq ?_
 refine WP.cond (b := _) rfl (fun q1 => ?_) (fun q1 => ?_)
 ·
  have hlt := lt_of_q q1
  have hg : (r.scopes.map (fun x => [D.str x]))[k]? = some [.str r.scopes[k]] := getM hlt
  have hnf := nl_false hr.2.2.2 hlt
  have hsk := hrs _ (List.getElem_mem hlt)
  refine WP.skip ?_
  show WP _ _ _ _ _ _
  refine WP.seq ?_
  refine WP.block ?_
  refine WP.sr [0, 1, 5, 7, 9, 14, 15, 16] (by kernel_rfl) fun K hK => ?_
  simp (decide := true) only [TF, q1, hg, hnf, lk_dl, ↓reduceIte, Int.reduceToNat]
  refine hK _ _ ?_; clear hK K
  refine WP.sr [0, 1, 5, 7, 9, 10, 14, 15, 16] (by kernel_rfl) fun K hK => ?_
  simp (decide := true) only [TF, q1, hg, hnf, lk_dl, ↓reduceIte, Int.reduceToNat]
  refine CallK.pure (c_granting l nl r hn hnl hl hr r.scopes[k] hsk) rfl (by simp only [hnf]; rfl) (by simp [-List.map_take]) ?_
  simp (decide := true) only [TF, q1, hg, hnf, lk_dl, ↓reduceIte, Int.reduceToNat]
  refine hK _ _ ?_; clear hK K
  refine WP.seq ?_
  refine WP.sr [0, 1, 5, 7, 9, 10, 14, 15, 16, 25] (by kernel_rfl) fun K hK => ?_
  simp (decide := true) only [TF, q1, hg, hnf, lk_dl, ↓reduceIte, Int.reduceToNat]
  refine hK _ _ ?_; clear hK K
  refine WP.cond (b := _) rfl (fun q2 => ?_) (fun q2 => ?_)
  ·
   have hq := pStep_no (l := l) (r := r) (q := q) q2
   refine WP.exit ?_
   show WP _ _ _ _ _ _
   refine WP.region (by kernel_rfl) fun K hK => ?_
   simp (decide := true) only [TF, q1, hg, hnf, q2, lk_dl, ↓reduceIte, Int.reduceToNat]
   refine hK _ _ ?_; clear hK K
   show ∃ y, _ ∧ Weak _ _ _
   refine ⟨⟨(k + 1, pStep l r q r.scopes[k]), ⟨hlt, hP.next hlt⟩⟩, ?_, ?_⟩
   · dsimp only; omega
   · dsimp only; rw [hq]; exact Weak.of_lk (by simp [St.get, lk, Le.refl, hg, hnf, wrapS hlt (show r.scopes.length ≤ 140737488355328 by have := hr.2.2.1; omega)]) (by intro j; simp only [hnf])
  ·
   obtain ⟨i, hil, hgi⟩ := grP_at q2
   have hq := pStep_at (q := q) hil hgi
   have hiq : i < q.rs.length := by rw [hP.len]; exact hil
   have hgl : (l.map Rule.cs)[i]? = some [.str l[i].name, .bool l[i].deny, .slice 3 l[i].nc (l[i].conds.map Cond.cs) none, .slice 1 l[i].ns (l[i].scopes.map fun x => [.str x]) none, .int .i64 l[i].lvl, .int .i64 l[i].age] := getM hil
   have hnfl := nl_false hnl hil
   have hD2 := rowsT_drop q.rs 100 i hiq
   have hfa := fam_at q.rs 100 i hiq
   have hL3 : (i * 3 + 2 + 1 ≤ (rowsT 100 q.rs).flatten.length) = True := by rw [rowsT_flen]; simp; omega
   have hil3 : (i < l.length) = True := by simp [hil]
   have n0 : (100 + i = 0) = False := eq_false (by omega)
   have n1 : (100 + i = 1) = False := eq_false (by omega)
   have n2 : (100 + i = 2) = False := eq_false (by omega)
   have n3 : (100 + i = 3) = False := eq_false (by omega)
   have m0 : (0 = 100 + i) = False := eq_false (by omega)
   have m1 : (1 = 100 + i) = False := eq_false (by omega)
   have m2 : (2 = 100 + i) = False := eq_false (by omega)
   have m3 : (3 = 100 + i) = False := eq_false (by omega)
   have hrl := hP.rlen _ (List.getElem_mem hiq)
   have hal := hP.alen
   have hsc := hr.2.2.1
   refine WP.skip ?_
   show WP _ _ _ _ _ _
   refine WP.sr [0, 1, 5, 7, 9, 10, 14, 15, 16] (by kernel_rfl) fun K hK => ?_
   simp (decide := true) only [TF, q1, hg, hnf, q2, hgi, hgl, hnfl, hD2, hfa, hL3, hil3, n0, n1, n2, n3, m0, m1, m2, m3, lk_dl, ↓reduceIte, Int.reduceToNat]
   repeat (refine ⟨⟨by (try simp only [List.length_append, List.length_map, List.length_take, List.length_drop, List.length_cons, List.length_nil]); omega, by (try simp only [List.length_append, List.length_map, List.length_take, List.length_drop, List.length_cons, List.length_nil]); omega⟩, ?_⟩)
   refine hK _ _ ?_; clear hK K
   refine WP.seq ?_
   refine WP.sr [0, 1, 5, 7, 9, 10, 11, 14, 15, 16] (by kernel_rfl) fun K hK => ?_
   simp (decide := true) only [TF, q1, hg, hnf, q2, hgi, hgl, hnfl, hD2, hfa, hL3, hil3, n0, n1, n2, n3, m0, m1, m2, m3, lk_dl, ↓reduceIte, Int.reduceToNat]
   refine hK _ _ ?_; clear hK K
   refine WP.sr [0, 1, 5, 7, 9, 10, 11, 14, 15, 16, 42] (by kernel_rfl) fun K hK => ?_
   simp (decide := true) only [TF, q1, hg, hnf, q2, hgi, hgl, hnfl, hD2, hfa, hL3, hil3, n0, n1, n2, n3, m0, m1, m2, m3, lk_dl, ↓reduceIte, Int.reduceToNat]
   refine CallK.pure (c_contains q.rs[i].scopes q.rs[i].scopes.isEmpty r.scopes[k] (by have := hr.2.2.1; omega) (fun h => by simpa using h)) rfl rfl (by simp [-List.map_take]) ?_
   simp (decide := true) only [TF, q1, hg, hnf, q2, hgi, hgl, hnfl, hD2, hfa, hL3, hil3, n0, n1, n2, n3, m0, m1, m2, m3, lk_dl, ↓reduceIte, Int.reduceToNat]
   refine hK _ _ ?_; clear hK K
   refine WP.cond (b := _) rfl (fun q3 => ?_) (fun q3 => ?_)
   ·
    simp only [Bool.not_eq_true', Bool.not_eq_false'] at q3
    refine WP.region (by kernel_rfl) fun K hK => ?_
    simp (decide := true) only [TF, q1, hg, hnf, q2, hgi, hgl, hnfl, hD2, hfa, hL3, hil3, n0, n1, n2, n3, m0, m1, m2, m3, q3, lk_dl, ↓reduceIte, Int.reduceToNat]
    repeat (refine ⟨⟨by (try simp only [List.length_append, List.length_map, List.length_take, List.length_drop, List.length_cons, List.length_nil]); omega, by (try simp only [List.length_append, List.length_map, List.length_take, List.length_drop, List.length_cons, List.length_nil]); omega⟩, ?_⟩)
    refine hK _ _ ?_; clear hK K
    show WP _ _ _ _ _ _
    refine WP.sd [0, 1, 5, 7, 10, 14, 15, 16] (by kernel_rfl) (by kernel_rfl) fun K hK => ?_
    simp (decide := true) only [TF, q1, hg, hnf, q2, hgi, hgl, hnfl, hD2, hfa, hL3, hil3, n0, n1, n2, n3, m0, m1, m2, m3, q3, lk_dl, ↓reduceIte, Int.reduceToNat]
    refine hK _ _ (by kernel_rfl) ?_
    clear hK K
    refine WP.sr [0, 1, 5, 7, 12, 14, 15, 16] (by kernel_rfl) fun K hK => ?_
    simp (decide := true) only [TF, q1, hg, hnf, q2, hgi, hgl, hnfl, hD2, hfa, hL3, hil3, n0, n1, n2, n3, m0, m1, m2, m3, q3, lk_dl, ↓reduceIte, Int.reduceToNat]
    refine hK _ _ ?_; clear hK K
    refine WP.sr [0, 1, 5, 7, 12, 14, 15, 16, 87] (by kernel_rfl) fun K hK => ?_
    refine runOps.take 3 fun J hJ => ?_
    simp (decide := true) only [TF, q1, hg, hnf, q2, hgi, hgl, hnfl, hD2, hfa, hL3, hil3, n0, n1, n2, n3, m0, m1, m2, m3, q3, lk_dl, ↓reduceIte, Int.reduceToNat]
    refine hJ _ _ ?_; clear hJ J
    refine runOps.part 73 rfl (fun q4 => ?_) (fun q4 => ?_)
    ·
     refine runOps.take 6 fun J hJ => ?_
     simp (decide := true) only [TF, q1, hg, hnf, q2, hgi, hgl, hnfl, hD2, hfa, hL3, hil3, n0, n1, n2, n3, m0, m1, m2, m3, q3, q4, lk_dl, ↓reduceIte, Int.reduceToNat]
     refine hJ _ _ ?_; clear hJ J
     refine runOps.part 79 rfl (fun q5 => ?_) (fun q5 => ?_)
     ·
      simp (decide := true) only [TF, q1, hg, hnf, q2, hgi, hgl, hnfl, hD2, hfa, hL3, hil3, n0, n1, n2, n3, m0, m1, m2, m3, q3, q4, q5, lk_dl, ↓reduceIte, Int.reduceToNat]
      refine hK _ _ ?_; clear hK K
      refine WP.cond (b := true) (by rfl) (fun _ => ?_) nofun
      refine WP.region (by kernel_rfl) fun K hK => ?_
      simp (decide := true) only [TF, q1, hg, hnf, q2, hgi, hgl, hnfl, hD2, hfa, hL3, hil3, n0, n1, n2, n3, m0, m1, m2, m3, q3, q4, q5, lk_dl, ↓reduceIte, Int.reduceToNat]
      refine hK _ _ ?_; clear hK K
      show WP _ _ _ _ _ _
      refine WP.region (by kernel_rfl) fun K hK => ?_
      simp (decide := true) only [TF, q1, hg, hnf, q2, hgi, hgl, hnfl, hD2, hfa, hL3, hil3, n0, n1, n2, n3, m0, m1, m2, m3, q3, q4, q5, lk_dl, ↓reduceIte, Int.reduceToNat]
      refine hK _ _ ?_; clear hK K
      show ∃ y, _ ∧ Weak _ _ _
      refine ⟨⟨(k + 1, pStep l r q r.scopes[k]), ⟨hlt, hP.next hlt⟩⟩, ?_, ?_⟩
      · dsimp only; omega
      ·
       dsimp only; rw [hq]; dsimp only
       refine Weak.of_lk (by simp [St.get, lk, Le.refl, isEA, hnf, hnfl, wrapS hlt (show r.scopes.length ≤ 140737488355328 by have := hr.2.2.1; omega)]) (fun j => ?_)
       have hag : ageU q.age l[i].age = l[i].age := by simp only [ageU, q1, q2, q3, q4, q5, Bool.true_and, Bool.and_true, Bool.false_and, Bool.and_false, Bool.true_or, Bool.or_true, Bool.false_or, Bool.or_false, ↓reduceIte, Bool.false_eq_true]
       rw [hag]
       by_cases j0 : j = 0
       · subst j0; simp [lk, lk_dl, m0]
       by_cases j1 : j = 1
       · subst j1; simp [lk, lk_dl, m1, lvlU, hgi, hgl]
       by_cases j2 : j = 2
       · subst j2; simp (decide := true) only [lk, lk_dl, ↓reduceIte, m2, List.isEmpty_cons, Bool.and_false]; rw [rows_set (b := 100) hiq q3]
       by_cases j3 : j = 3
       · subst j3; simp [lk, lk_dl, m3, hnf]
       simp only [lk, lk_dl, j0, j1, j2, j3, ↓reduceIte]
       rw [fam_set hiq q3]
       by_cases ji : j = 100 + i
       · rw [if_pos ji]; simp [ji, lk_dl]
       · simp [ji, lk_dl, j0, j1, j2, j3]
     ·
      simp (decide := true) only [TF, q1, hg, hnf, q2, hgi, hgl, hnfl, hD2, hfa, hL3, hil3, n0, n1, n2, n3, m0, m1, m2, m3, q3, q4, q5, lk_dl, ↓reduceIte, Int.reduceToNat]
      refine hK _ _ ?_; clear hK K
      refine WP.cond (b := _) rfl (fun q6 => ?_) (fun q6 => ?_)
      ·
       refine WP.region (by kernel_rfl) fun K hK => ?_
       simp (decide := true) only [TF, q1, hg, hnf, q2, hgi, hgl, hnfl, hD2, hfa, hL3, hil3, n0, n1, n2, n3, m0, m1, m2, m3, q3, q4, q5, q6, lk_dl, ↓reduceIte, Int.reduceToNat]
       refine hK _ _ ?_; clear hK K
       show WP _ _ _ _ _ _
       refine WP.region (by kernel_rfl) fun K hK => ?_
       simp (decide := true) only [TF, q1, hg, hnf, q2, hgi, hgl, hnfl, hD2, hfa, hL3, hil3, n0, n1, n2, n3, m0, m1, m2, m3, q3, q4, q5, q6, lk_dl, ↓reduceIte, Int.reduceToNat]
       refine hK _ _ ?_; clear hK K
       show ∃ y, _ ∧ Weak _ _ _
       refine ⟨⟨(k + 1, pStep l r q r.scopes[k]), ⟨hlt, hP.next hlt⟩⟩, ?_, ?_⟩
       · dsimp only; omega
       ·
        dsimp only; rw [hq]; dsimp only
        refine Weak.of_lk (by simp [St.get, lk, Le.refl, isEA, hnf, hnfl, wrapS hlt (show r.scopes.length ≤ 140737488355328 by have := hr.2.2.1; omega)]) (fun j => ?_)
        have hag : ageU q.age l[i].age = l[i].age := by simp only [ageU, q1, q2, q3, q4, q5, q6, Bool.true_and, Bool.and_true, Bool.false_and, Bool.and_false, Bool.true_or, Bool.or_true, Bool.false_or, Bool.or_false, ↓reduceIte, Bool.false_eq_true]
        rw [hag]
        by_cases j0 : j = 0
        · subst j0; simp [lk, lk_dl, m0]
        by_cases j1 : j = 1
        · subst j1; simp [lk, lk_dl, m1, lvlU, hgi, hgl]
        by_cases j2 : j = 2
        · subst j2; simp (decide := true) only [lk, lk_dl, ↓reduceIte, m2, List.isEmpty_cons, Bool.and_false]; rw [rows_set (b := 100) hiq q3]
        by_cases j3 : j = 3
        · subst j3; simp [lk, lk_dl, m3, hnf]
        simp only [lk, lk_dl, j0, j1, j2, j3, ↓reduceIte]
        rw [fam_set hiq q3]
        by_cases ji : j = 100 + i
        · rw [if_pos ji]; simp [ji, lk_dl]
        · simp [ji, lk_dl, j0, j1, j2, j3]
      ·
       refine WP.skip ?_
       show WP _ _ _ _ _ _
       refine WP.region (by kernel_rfl) fun K hK => ?_
       simp (decide := true) only [TF, q1, hg, hnf, q2, hgi, hgl, hnfl, hD2, hfa, hL3, hil3, n0, n1, n2, n3, m0, m1, m2, m3, q3, q4, q5, q6, lk_dl, ↓reduceIte, Int.reduceToNat]
       refine hK _ _ ?_; clear hK K
       show ∃ y, _ ∧ Weak _ _ _
       refine ⟨⟨(k + 1, pStep l r q r.scopes[k]), ⟨hlt, hP.next hlt⟩⟩, ?_, ?_⟩
       · dsimp only; omega
       ·
        dsimp only; rw [hq]; dsimp only
        refine Weak.of_lk (by simp [St.get, lk, Le.refl, isEA, hnf, hnfl, wrapS hlt (show r.scopes.length ≤ 140737488355328 by have := hr.2.2.1; omega)]) (fun j => ?_)
        have hag : ageU q.age l[i].age = q.age := by simp only [ageU, q1, q2, q3, q4, q5, q6, Bool.true_and, Bool.and_true, Bool.false_and, Bool.and_false, Bool.true_or, Bool.or_true, Bool.false_or, Bool.or_false, ↓reduceIte, Bool.false_eq_true]
        rw [hag]
        by_cases j0 : j = 0
        · subst j0; simp [lk, lk_dl, m0]
        by_cases j1 : j = 1
        · subst j1; simp [lk, lk_dl, m1, lvlU, hgi, hgl]
        by_cases j2 : j = 2
        · subst j2; simp (decide := true) only [lk, lk_dl, ↓reduceIte, m2, List.isEmpty_cons, Bool.and_false]; rw [rows_set (b := 100) hiq q3]
        by_cases j3 : j = 3
        · subst j3; simp [lk, lk_dl, m3, hnf]
        simp only [lk, lk_dl, j0, j1, j2, j3, ↓reduceIte]
        rw [fam_set hiq q3]
        by_cases ji : j = 100 + i
        · rw [if_pos ji]; simp [ji, lk_dl]
        · simp [ji, lk_dl, j0, j1, j2, j3]
    ·
     simp (decide := true) only [TF, q1, hg, hnf, q2, hgi, hgl, hnfl, hD2, hfa, hL3, hil3, n0, n1, n2, n3, m0, m1, m2, m3, q3, q4, lk_dl, ↓reduceIte, Int.reduceToNat]
     refine hK _ _ ?_; clear hK K
     refine WP.cond (b := false) (by rfl) nofun (fun _ => ?_)
     refine WP.skip ?_
     show WP _ _ _ _ _ _
     refine WP.region (by kernel_rfl) fun K hK => ?_
     simp (decide := true) only [TF, q1, hg, hnf, q2, hgi, hgl, hnfl, hD2, hfa, hL3, hil3, n0, n1, n2, n3, m0, m1, m2, m3, q3, q4, lk_dl, ↓reduceIte, Int.reduceToNat]
     refine hK _ _ ?_; clear hK K
     show ∃ y, _ ∧ Weak _ _ _
     refine ⟨⟨(k + 1, pStep l r q r.scopes[k]), ⟨hlt, hP.next hlt⟩⟩, ?_, ?_⟩
     · dsimp only; omega
     ·
      dsimp only; rw [hq]; dsimp only
      refine Weak.of_lk (by simp [St.get, lk, Le.refl, isEA, hnf, hnfl, wrapS hlt (show r.scopes.length ≤ 140737488355328 by have := hr.2.2.1; omega)]) (fun j => ?_)
      have hag : ageU q.age l[i].age = q.age := by simp only [ageU, q1, q2, q3, q4, Bool.true_and, Bool.and_true, Bool.false_and, Bool.and_false, Bool.true_or, Bool.or_true, Bool.false_or, Bool.or_false, ↓reduceIte, Bool.false_eq_true]
      rw [hag]
      by_cases j0 : j = 0
      · subst j0; simp [lk, lk_dl, m0]
      by_cases j1 : j = 1
      · subst j1; simp [lk, lk_dl, m1, lvlU, hgi, hgl]
      by_cases j2 : j = 2
      · subst j2; simp (decide := true) only [lk, lk_dl, ↓reduceIte, m2, List.isEmpty_cons, Bool.and_false]; rw [rows_set (b := 100) hiq q3]
      by_cases j3 : j = 3
      · subst j3; simp [lk, lk_dl, m3, hnf]
      simp only [lk, lk_dl, j0, j1, j2, j3, ↓reduceIte]
      rw [fam_set hiq q3]
      by_cases ji : j = 100 + i
      · rw [if_pos ji]; simp [ji, lk_dl]
      · simp [ji, lk_dl, j0, j1, j2, j3]
   ·
    simp only [Bool.not_eq_true', Bool.not_eq_false'] at q3
    refine WP.skip ?_
    show WP _ _ _ _ _ _
    refine WP.sd [0, 1, 5, 7, 10, 14, 15, 16] (by kernel_rfl) (by kernel_rfl) fun K hK => ?_
    simp (decide := true) only [TF, q1, hg, hnf, q2, hgi, hgl, hnfl, hD2, hfa, hL3, hil3, n0, n1, n2, n3, m0, m1, m2, m3, q3, lk_dl, ↓reduceIte, Int.reduceToNat]
    refine hK _ _ (by kernel_rfl) ?_
    clear hK K
    refine WP.sr [0, 1, 5, 7, 12, 14, 15, 16] (by kernel_rfl) fun K hK => ?_
    simp (decide := true) only [TF, q1, hg, hnf, q2, hgi, hgl, hnfl, hD2, hfa, hL3, hil3, n0, n1, n2, n3, m0, m1, m2, m3, q3, lk_dl, ↓reduceIte, Int.reduceToNat]
    refine hK _ _ ?_; clear hK K
    refine WP.sr [0, 1, 5, 7, 12, 14, 15, 16, 87] (by kernel_rfl) fun K hK => ?_
    refine runOps.take 3 fun J hJ => ?_
    simp (decide := true) only [TF, q1, hg, hnf, q2, hgi, hgl, hnfl, hD2, hfa, hL3, hil3, n0, n1, n2, n3, m0, m1, m2, m3, q3, lk_dl, ↓reduceIte, Int.reduceToNat]
    refine hJ _ _ ?_; clear hJ J
    refine runOps.part 73 rfl (fun q7 => ?_) (fun q7 => ?_)
    ·
     refine runOps.take 6 fun J hJ => ?_
     simp (decide := true) only [TF, q1, hg, hnf, q2, hgi, hgl, hnfl, hD2, hfa, hL3, hil3, n0, n1, n2, n3, m0, m1, m2, m3, q3, q7, lk_dl, ↓reduceIte, Int.reduceToNat]
     refine hJ _ _ ?_; clear hJ J
     refine runOps.part 79 rfl (fun q8 => ?_) (fun q8 => ?_)
     ·
      simp (decide := true) only [TF, q1, hg, hnf, q2, hgi, hgl, hnfl, hD2, hfa, hL3, hil3, n0, n1, n2, n3, m0, m1, m2, m3, q3, q7, q8, lk_dl, ↓reduceIte, Int.reduceToNat]
      refine hK _ _ ?_; clear hK K
      refine WP.cond (b := true) (by rfl) (fun _ => ?_) nofun
      refine WP.region (by kernel_rfl) fun K hK => ?_
      simp (decide := true) only [TF, q1, hg, hnf, q2, hgi, hgl, hnfl, hD2, hfa, hL3, hil3, n0, n1, n2, n3, m0, m1, m2, m3, q3, q7, q8, lk_dl, ↓reduceIte, Int.reduceToNat]
      refine hK _ _ ?_; clear hK K
      show WP _ _ _ _ _ _
      refine WP.region (by kernel_rfl) fun K hK => ?_
      simp (decide := true) only [TF, q1, hg, hnf, q2, hgi, hgl, hnfl, hD2, hfa, hL3, hil3, n0, n1, n2, n3, m0, m1, m2, m3, q3, q7, q8, lk_dl, ↓reduceIte, Int.reduceToNat]
      refine hK _ _ ?_; clear hK K
      show ∃ y, _ ∧ Weak _ _ _
      refine ⟨⟨(k + 1, pStep l r q r.scopes[k]), ⟨hlt, hP.next hlt⟩⟩, ?_, ?_⟩
      · dsimp only; omega
      ·
       dsimp only; rw [hq]; dsimp only
       rw [modify_in hiq q3]
       refine Weak.of_lk (by simp [St.get, lk, Le.refl, isEA, hnf, hnfl, wrapS hlt (show r.scopes.length ≤ 140737488355328 by have := hr.2.2.1; omega)]) (fun j => ?_)
       have hag : ageU q.age l[i].age = l[i].age := by simp only [ageU, q1, q2, q3, q7, q8, Bool.true_and, Bool.and_true, Bool.false_and, Bool.and_false, Bool.true_or, Bool.or_true, Bool.false_or, Bool.or_false, ↓reduceIte, Bool.false_eq_true]
       rw [hag]
       by_cases j0 : j = 0
       · subst j0; simp [lk, lk_dl, m0]
       by_cases j1 : j = 1
       · subst j1; simp [lk, lk_dl, m1, lvlU, hgi, hgl]
       by_cases j2 : j = 2
       · subst j2; simp (decide := true) only [lk, lk_dl, ↓reduceIte, m2, List.isEmpty_cons, Bool.and_false]
       by_cases j3 : j = 3
       · subst j3; simp [lk, lk_dl, m3, hnf]
       simp [lk, lk_dl, j0, j1, j2, j3]
     ·
      simp (decide := true) only [TF, q1, hg, hnf, q2, hgi, hgl, hnfl, hD2, hfa, hL3, hil3, n0, n1, n2, n3, m0, m1, m2, m3, q3, q7, q8, lk_dl, ↓reduceIte, Int.reduceToNat]
      refine hK _ _ ?_; clear hK K
      refine WP.cond (b := _) rfl (fun q9 => ?_) (fun q9 => ?_)
      ·
       refine WP.region (by kernel_rfl) fun K hK => ?_
       simp (decide := true) only [TF, q1, hg, hnf, q2, hgi, hgl, hnfl, hD2, hfa, hL3, hil3, n0, n1, n2, n3, m0, m1, m2, m3, q3, q7, q8, q9, lk_dl, ↓reduceIte, Int.reduceToNat]
       refine hK _ _ ?_; clear hK K
       show WP _ _ _ _ _ _
       refine WP.region (by kernel_rfl) fun K hK => ?_
       simp (decide := true) only [TF, q1, hg, hnf, q2, hgi, hgl, hnfl, hD2, hfa, hL3, hil3, n0, n1, n2, n3, m0, m1, m2, m3, q3, q7, q8, q9, lk_dl, ↓reduceIte, Int.reduceToNat]
       refine hK _ _ ?_; clear hK K
       show ∃ y, _ ∧ Weak _ _ _
       refine ⟨⟨(k + 1, pStep l r q r.scopes[k]), ⟨hlt, hP.next hlt⟩⟩, ?_, ?_⟩
       · dsimp only; omega
       ·
        dsimp only; rw [hq]; dsimp only
        rw [modify_in hiq q3]
        refine Weak.of_lk (by simp [St.get, lk, Le.refl, isEA, hnf, hnfl, wrapS hlt (show r.scopes.length ≤ 140737488355328 by have := hr.2.2.1; omega)]) (fun j => ?_)
        have hag : ageU q.age l[i].age = l[i].age := by simp only [ageU, q1, q2, q3, q7, q8, q9, Bool.true_and, Bool.and_true, Bool.false_and, Bool.and_false, Bool.true_or, Bool.or_true, Bool.false_or, Bool.or_false, ↓reduceIte, Bool.false_eq_true]
        rw [hag]
        by_cases j0 : j = 0
        · subst j0; simp [lk, lk_dl, m0]
        by_cases j1 : j = 1
        · subst j1; simp [lk, lk_dl, m1, lvlU, hgi, hgl]
        by_cases j2 : j = 2
        · subst j2; simp (decide := true) only [lk, lk_dl, ↓reduceIte, m2, List.isEmpty_cons, Bool.and_false]
        by_cases j3 : j = 3
        · subst j3; simp [lk, lk_dl, m3, hnf]
        simp [lk, lk_dl, j0, j1, j2, j3]
      ·
       refine WP.skip ?_
       show WP _ _ _ _ _ _
       refine WP.region (by kernel_rfl) fun K hK => ?_
       simp (decide := true) only [TF, q1, hg, hnf, q2, hgi, hgl, hnfl, hD2, hfa, hL3, hil3, n0, n1, n2, n3, m0, m1, m2, m3, q3, q7, q8, q9, lk_dl, ↓reduceIte, Int.reduceToNat]
       refine hK _ _ ?_; clear hK K
       show ∃ y, _ ∧ Weak _ _ _
       refine ⟨⟨(k + 1, pStep l r q r.scopes[k]), ⟨hlt, hP.next hlt⟩⟩, ?_, ?_⟩
       · dsimp only; omega
       ·
        dsimp only; rw [hq]; dsimp only
        rw [modify_in hiq q3]
        refine Weak.of_lk (by simp [St.get, lk, Le.refl, isEA, hnf, hnfl, wrapS hlt (show r.scopes.length ≤ 140737488355328 by have := hr.2.2.1; omega)]) (fun j => ?_)
        have hag : ageU q.age l[i].age = q.age := by simp only [ageU, q1, q2, q3, q7, q8, q9, Bool.true_and, Bool.and_true, Bool.false_and, Bool.and_false, Bool.true_or, Bool.or_true, Bool.false_or, Bool.or_false, ↓reduceIte, Bool.false_eq_true]
        rw [hag]
        by_cases j0 : j = 0
        · subst j0; simp [lk, lk_dl, m0]
        by_cases j1 : j = 1
        · subst j1; simp [lk, lk_dl, m1, lvlU, hgi, hgl]
        by_cases j2 : j = 2
        · subst j2; simp (decide := true) only [lk, lk_dl, ↓reduceIte, m2, List.isEmpty_cons, Bool.and_false]
        by_cases j3 : j = 3
        · subst j3; simp [lk, lk_dl, m3, hnf]
        simp [lk, lk_dl, j0, j1, j2, j3]
    ·
     simp (decide := true) only [TF, q1, hg, hnf, q2, hgi, hgl, hnfl, hD2, hfa, hL3, hil3, n0, n1, n2, n3, m0, m1, m2, m3, q3, q7, lk_dl, ↓reduceIte, Int.reduceToNat]
     refine hK _ _ ?_; clear hK K
     refine WP.cond (b := false) (by rfl) nofun (fun _ => ?_)
     refine WP.skip ?_
     show WP _ _ _ _ _ _
     refine WP.region (by kernel_rfl) fun K hK => ?_
     simp (decide := true) only [TF, q1, hg, hnf, q2, hgi, hgl, hnfl, hD2, hfa, hL3, hil3, n0, n1, n2, n3, m0, m1, m2, m3, q3, q7, lk_dl, ↓reduceIte, Int.reduceToNat]
     refine hK _ _ ?_; clear hK K
     show ∃ y, _ ∧ Weak _ _ _
     refine ⟨⟨(k + 1, pStep l r q r.scopes[k]), ⟨hlt, hP.next hlt⟩⟩, ?_, ?_⟩
     · dsimp only; omega
     ·
      dsimp only; rw [hq]; dsimp only
      rw [modify_in hiq q3]
      refine Weak.of_lk (by simp [St.get, lk, Le.refl, isEA, hnf, hnfl, wrapS hlt (show r.scopes.length ≤ 140737488355328 by have := hr.2.2.1; omega)]) (fun j => ?_)
      have hag : ageU q.age l[i].age = q.age := by simp only [ageU, q1, q2, q3, q7, Bool.true_and, Bool.and_true, Bool.false_and, Bool.and_false, Bool.true_or, Bool.or_true, Bool.false_or, Bool.or_false, ↓reduceIte, Bool.false_eq_true]
      rw [hag]
      by_cases j0 : j = 0
      · subst j0; simp [lk, lk_dl, m0]
      by_cases j1 : j = 1
      · subst j1; simp [lk, lk_dl, m1, lvlU, hgi, hgl]
      by_cases j2 : j = 2
      · subst j2; simp (decide := true) only [lk, lk_dl, ↓reduceIte, m2, List.isEmpty_cons, Bool.and_false]
      by_cases j3 : j = 3
      · subst j3; simp [lk, lk_dl, m3, hnf]
      simp [lk, lk_dl, j0, j1, j2, j3]
 ·
  have hge := ge_of_q q1
  have hR : psR l r = q := by have := hP.run; rw [dropN hge] at this; exact this
  subst hR
  have hal := hP.alen
  have hsc := hr.2.2.1
  refine WP.exit ?_
  show WP _ _ _ _ _ _
  refine WP.sr [7] (by kernel_rfl) fun K hK => ?_
  simp (decide := true) only [TF, q1, lk_dl, ↓reduceIte, Int.reduceToNat]
  refine CallK.pure (c_sorted (psR l r).all (psR l r).all.isEmpty (by omega) (fun h => by simpa using h) (fun x hx => hrs x (hP.mem x hx))) rfl rfl (by simp [-List.map_take]) ?_
  simp (decide := true) only [TF, q1, lk_dl, ↓reduceIte, Int.reduceToNat]
  refine hK _ _ ?_; clear hK K
  refine WP.sr [6] (by kernel_rfl) fun K hK => ?_
  simp (decide := true) only [TF, q1, lk_dl, ↓reduceIte, Int.reduceToNat]
  refine hK _ _ ?_; clear hK K
  refine WP.weak (Weak.arrN 2 36 (rowsT 100 (psR l r).rs).flatten (rowsN (psR l r).rs).flatten (by simp [lk, lk_dl]) (rowsT_nrm _ _)) ?_
  refine WP.ret ?_
  refine Ends.imp (.inr rfl) rfl (Le.of_eq (by simp_all [St.get, lk, W, LN, bne])) ?_ ?_ ?_
  · simp
  · simp [St.get, lk, W, lk_dl, q1]; exact ⟨by simp [BClo], fun d hd => rowsN_clo _ d hd⟩
  · simp [lk]
theorem Le.agg {l m : List D} (h : Les l m) : Le (.agg l) (.agg m) := fun M γ w v hr => by
 obtain ⟨hl, hle⟩ := h.at
 cases hr with
 | agg hs h1 hr =>
  refine .agg (by omega) h1 (fun i d v hd hv => ?_)
  have hi : i < l.length := by rw [hl]; exact (List.getElem?_eq_some_iff.1 hd).1
  exact hle i _ _ (List.getElem?_eq_getElem hi) hd _ _ _ _ (hr i _ v (List.getElem?_eq_getElem hi) hv)
theorem Les.refl : ∀ l : List D, Les l l
 | [] => trivial
 | _ :: l => ⟨Le.refl _, Les.refl l⟩
theorem Le.slice {sz : Nat} {nil : Bool} {tip : Option Nat} {es es' : List (List D)} (hl : es'.length = es.length) (hz : ∀ e ∈ es', e.length = sz) (h : ∀ (i : Nat) e e', es[i]? = some e → es'[i]? = some e' → Les e e') : Le (.slice sz nil es tip) (.slice sz nil es' none) := fun M γ w v hr => by
 cases hr with
 | nilslice ht =>
  obtain rfl : es' = [] := List.eq_nil_of_length_eq_zero (by simpa using hl)
  exact .nilslice (TipOk.none _ _ _)
 | slice vs hsz hvs hspot hc hr hcap ht =>
  rw [← hl]
  refine .slice vs hz (by rw [hvs, hl]) (fun hne => hspot (fun e => hne (List.eq_nil_of_length_eq_zero (by rw [hl, e]; rfl)))) hc (fun i j e' d' u h1 h2 h3 => ?_) (by rw [hl]; exact hcap) (TipOk.none _ _ _)
  have hi : i < es.length := by rw [← hl]; exact (List.getElem?_eq_some_iff.1 h1).1
  obtain ⟨q1, q2⟩ := (h i _ e' (List.getElem?_eq_getElem hi) h1).at
  have hj : j < es[i].length := by rw [q1]; exact (List.getElem?_eq_some_iff.1 h2).1
  exact q2 j _ d' (List.getElem?_eq_getElem hj) h2 _ _ _ _ (hr i j _ _ u (List.getElem?_eq_getElem hi) (List.getElem?_eq_getElem hj) h3)
abbrev dcsD (d : Dec) : List D := [.int .i64 d.eff, .slice 1 d.ns (d.scopes.map fun x => [.str x]) none, .int .i64 d.lvl, .int .i64 d.age, .slice 3 d.nr (d.reas.map Reas.cs) none]
theorem rows0_nrm (l : List Rule) (r : Req) (n : Nat) : Les (rows0 l r n).flatten (rowsN ((List.range n).map (mkR l r))).flatten := by
 have key : ∀ ks : List Nat, Les (ks.map (row0 l r)).flatten (rowsN (ks.map (mkR l r))).flatten := by
  intro ks
  induction ks with
  | nil => trivial
  | cons k ks ih => exact ⟨Le.refl _, Le.refl _, Le.nil _ _ _, ih⟩
 exact key _
theorem rows0_succ (l : List Rule) (r : Req) (k : Nat) : rows0 l r (k + 1) = rows0 l r k ++ [row0 l r k] := by simp [rows0, List.range_succ]
theorem rows0_fr (t : Nat) (l : List Rule) (r : Req) (n : Nat) : ∀ e ∈ rows0 l r n, ∀ d ∈ e, Fr t d := by
 simp only [rows0, List.mem_map]
 rintro e ⟨i, _, rfl⟩ d hd
 simp only [row0, List.mem_cons, List.not_mem_nil, or_false] at hd
 rcases hd with rfl | rfl | rfl
 ·exact .int _ _
 ·exact .int _ _
 ·exact .nilslice _
theorem rows0_clo {S : Nat → Prop} (l : List Rule) (r : Req) (n : Nat) : ∀ e ∈ rows0 l r n, ∀ d ∈ e, Clo S d := by
 simp only [rows0, List.mem_map]
 rintro e ⟨i, _, rfl⟩ d hd
 simp only [row0, List.mem_cons, List.not_mem_nil, or_false] at hd
 rcases hd with rfl | rfl | rfl
 ·exact .int _ _
 ·exact .int _ _
 ·exact .slice (by simp) (by simp)
theorem rows0_cloF {S : Nat → Prop} (l : List Rule) (r : Req) (n : Nat) : ∀ d ∈ (rows0 l r n).flatten, Clo S d := by
 intro d hd
 obtain ⟨e, he, hd⟩ := List.mem_flatten.1 hd
 exact rows0_clo l r n e he d hd
theorem rows0_sh (t : Nat) (l : List Rule) (r : Req) (n : Nat) : ∀ e ∈ rows0 l r n, ∀ d ∈ e, NS d ∧ Sh t d := by
 simp only [rows0, List.mem_map]
 rintro e ⟨i, _, rfl⟩ d hd
 simp only [row0, List.mem_cons, List.not_mem_nil, or_false] at hd
 rcases hd with rfl | rfl | rfl
 ·exact ⟨trivial, .int _ _⟩
 ·exact ⟨trivial, .int _ _⟩
 ·exact ⟨trivial, .slice (by simp) (by simp) (by simp)⟩
theorem rows0_emp {l : List Rule} {r : Req} {n : Nat} (h : 0 < n) : (rows0 l r n).isEmpty = false := by
 have := rows0_len l r n
 cases hr : rows0 l r n with
 | nil => rw [hr] at this; simp at this; omega
 | cons => rfl
def denyB (l : List Rule) (r : Req) : Bool := l.any fun p => okM p r && p.deny
def okS (r : Req) (p : Rule) : Bool := okM p r && !p.deny && r.scopes.any (fun s => covsB p s)
def stepD (r : Req) (d : Dec) : List Rule → Dec
 | [] => d
 | p :: l => if okS r p = true then { d with eff := 3, lvl := p.lvl, age := p.age } else stepD r d l
def noD : Dec := ⟨4, [], true, 0, 0, [], true⟩
def reasD (l : List Rule) (r : Req) : List Reas := (List.range l.length).map (mkR l r)
def runD (l : List Rule) (r : Req) : Dec :=
 if (checkE l != 0) = true then noD
 else if denyB l r = true then ⟨2, [], true, 0, 0, reasD l r, l.isEmpty⟩
 else if decide (((psR l r).all.length : Int) > 0) = true then ⟨1, srtR (psR l r).all, (srtR (psR l r).all).isEmpty, (psR l r).lvl, (psR l r).age, (psR l r).rs.map Reas.nrm, l.isEmpty⟩
 else stepD r ⟨4, [], true, 0, 0, reasD l r, l.isEmpty⟩ l
theorem rowsN_cs (rs : List Reas) : rowsN rs = (rs.map Reas.nrm).map Reas.cs := by simp [rowsN]
theorem reasD_nrm (l : List Rule) (r : Req) : (reasD l r).map Reas.nrm = reasD l r := by
 unfold reasD
 rw [List.map_map]
 rfl
theorem psR_none {l : List Rule} {r : Req} (h : decide (((psR l r).all.length : Int) > 0) = false) : psR l r = ps0 l r := by
 have key : ∀ (ss : List (List UInt8)) (q : PS), (ss.foldl (pStep l r) q).all = [] → ss.foldl (pStep l r) q = q ∧ q.all = [] := by
  intro ss
  induction ss with
  | nil => intro q hq; exact ⟨rfl, hq⟩
  | cons s ss ih =>
   intro q hq
   rw [List.foldl_cons] at hq ⊢
   obtain ⟨h1, h2⟩ := ih _ hq
   cases hc : decide (grP r s l 0 < 0) with
   | true => rw [pStep_no hc] at h1 h2 ⊢; exact ⟨h1, h2⟩
   | false =>
    obtain ⟨i, hi, hg⟩ := grP_at hc
    rw [pStep_at hi hg] at h2
    simp at h2
 refine (key r.scopes (ps0 l r) ?_).1
 have := of_decide_eq_false h
 exact List.eq_nil_of_length_eq_zero (by show (psR l r).all.length = 0; omega)
theorem rows0_le (l : List Rule) (r : Req) (nil : Bool) (tip : Option Nat) : Le (.slice 3 nil (rows0 l r l.length) tip) (.slice 3 nil ((reasD l r).map Reas.cs) none) := by
 refine Le.slice (by simp [rows0, reasD]) (by simp [Reas.cs]) (fun i e e' h1 h2 => ?_)
 simp only [rows0, reasD, List.getElem?_map, Option.map_eq_some_iff] at h1 h2
 obtain ⟨a, ha, rfl⟩ := h1
 obtain ⟨x, ⟨b, hb, rfl⟩, rfl⟩ := h2
 rw [ha] at hb; cases hb
 exact ⟨Le.refl _, Le.refl _, Le.nil _ _ _, trivial⟩
theorem c_r_reasons1 (l : List Rule) (nl : Bool) (r : Req) (hn : l.length ≤ 1099511627776) (hnl : nl = true → l = []) (hl : ∀ p ∈ l, p.ok) (hr : r.ok) (hlen : 0 < l.length) : CallE Pr 35 [.slice 6 nl (l.map Rule.cs) none, .agg [.str r.user, .str r.client, .str r.tenant, .slice 1 r.ng (r.groups.map fun x => [.str x]) none, .slice 1 r.ns (r.scopes.map fun x => [.str x]) none, .int .i64 r.risk, .bool r.trusted, .int .i64 r.level, .int .i64 r.auth, .int .i64 r.now]] [] (.arr 1 3 l.length) [(1, .arr 36 (rows0 l r l.length).flatten)] := by
 refine CallE.of_wp Tryz.func35 rfl (by kernel_rfl) Tryz.ntmps35 (by simp) ?_
 simp only [frameOf, Nat.reduceAdd, Nat.zero_add, List.map_cons, List.map_nil]
 refine WP.sr [0, 3] (by kernel_rfl) fun K hK => ?_
 simp (decide := true) only [TF, rows0_len, ↓reduceIte, Int.reduceToNat]
 refine hK _ _ ?_; clear hK K
 refine WP.sr [0, 3, 5] (by kernel_rfl) fun K hK => ?_
 simp (decide := true) only [TF, rows0_len, ↓reduceIte, Int.reduceToNat]
 refine hK _ _ ?_; clear hK K
 refine WP.seq ?_
 refine WP.sr [0, 3, 5, 6] (by kernel_rfl) fun K hK => ?_
 simp (decide := true) only [TF, rows0_len, ↓reduceIte, Int.reduceToNat]
 refine hK _ _ ?_; clear hK K
 refine WP.block ?_
 refine WP.lp [0, 3] (X := {k : Nat // k ≤ l.length}) (fun x => match x with | ⟨(k), _⟩ => [(5, .slice 3 (rows0 l r k).isEmpty (rows0 l r k) (some 1)), (6, .int .i64 k)]) (fun x => match x with | ⟨(k), _⟩ => [(1, .tip 36 3 k), (0, .box 25 [.str r.user, .str r.client, .str r.tenant, .slice 1 r.ng (r.groups.map fun x => [.str x]) none, .slice 1 r.ns (r.scopes.map fun x => [.str x]) none, .int .i64 r.risk, .bool r.trusted, .int .i64 r.level, .int .i64 r.auth, .int .i64 r.now])]) (fun x => match x with | ⟨(k), _⟩ => l.length - k) (by simp (decide := true) only [W, ↓reduceIte, Int.reduceToNat]; rfl) ?_ ⟨(0), Nat.zero_le _⟩ ?_
 rotate_left
 · refine Weak.trans (Weak.ghost 1 36 3 (F' := [(6, .int .i64 0), (5, .slice 3 true [] (some 1)), (3, .ref 0 0), (0, .slice 6 nl (l.map Rule.cs) none)]) (σ' := [(0, .box 25 [.str r.user, .str r.client, .str r.tenant, .slice 1 r.ng (r.groups.map fun x => [.str x]) none, .slice 1 r.ns (r.scopes.map fun x => [.str x]) none, .int .i64 r.risk, .bool r.trusted, .int .i64 r.level, .int .i64 r.auth, .int .i64 r.now])]) (by simp [lk, W]) (by simp [W, keep, ins, UpF, UpD]) (by simp [UpS, UpB, UpL, UpD])) ?_; exact Weak.store (by simp [St.get, lk, W, Le.refl, rows0, W]) (by simp [lk, W]) (by simp [lk, rows0]) (by simp [BClo, lk]) (by simp [lk])
 rintro ⟨k, hk⟩
 dsimp only
 simp only [List.cons_append, List.nil_append]
 refine WP.seq ?_
 refine WP.sr [0, 3, 5, 6, 10] (by kernel_rfl) fun K hK => ?_
 simp (decide := true) only [TF, hk, rows0_len, ↓reduceIte, Int.reduceToNat]
 refine hK _ _ ?_; clear hK K
 refine WP.cond (b := _) rfl (fun q1 => ?_) (fun q1 => ?_)
 ·
  have hlt := lt_of_q q1
  have hg : (l.map Rule.cs)[k]? = some [.str l[k].name, .bool l[k].deny, .slice 3 l[k].nc (l[k].conds.map Cond.cs) none, .slice 1 l[k].ns (l[k].scopes.map fun x => [.str x]) none, .int .i64 l[k].lvl, .int .i64 l[k].age] := getM hlt
  have hnf := nl_false hnl hlt
  refine WP.skip ?_
  show WP _ _ _ _ _ _
  refine WP.seq ?_
  refine WP.block ?_
  refine WP.drawn (by kernel_rfl) (by kernel_rfl) fun K hK => ?_
  simp (decide := true) only [TF, hk, q1, hg, hnf, rows0_len, ↓reduceIte, Int.reduceToNat]
  refine CallK.pure (c_r_first l[k] r (hl _ (List.getElem_mem hlt)) hr) rfl rfl (by simp [-List.map_take]) ?_
  simp (decide := true) only [TF, hk, q1, hg, hnf, rows0_len, ↓reduceIte, Int.reduceToNat]
  repeat (refine ⟨⟨by (try simp only [List.length_append, List.length_map, rows0_len, List.length_take, List.length_drop, List.length_cons, List.length_nil]); omega, by (try simp only [List.length_append, List.length_map, rows0_len, List.length_take, List.length_drop, List.length_cons, List.length_nil]); omega⟩, ?_⟩)
  refine hK _ _ (by kernel_rfl) ?_
  clear hK K
  show WP _ _ _ _ _ _
  refine WP.region (by kernel_rfl) fun K hK => ?_
  simp (decide := true) only [TF, hk, q1, hg, hnf, rows0_len, ↓reduceIte, Int.reduceToNat]
  refine hK _ _ ?_; clear hK K
  show ∃ y, _ ∧ Weak _ _ _
  have hfl := FL_at (r := r) hlt
  refine ⟨⟨k + 1, ?_⟩, ?_, ?_⟩
  · omega
  · dsimp only; omega
  · exact Weak.store (by simp [St.get, lk, W, Le.refl, isEA, rows0_succ, row0, hfl, hk, q1, hg, hnf, wrapS hlt (show l.length ≤ 140737488355328 by omega)]) (by simp [lk, W, rows0_len, hk, q1, hg, hnf]) (by simp [lk, W]; exact fun e he d hd => rows0_clo l r _ e he d hd) (by simp [BClo, lk]) (by simp [lk])
 ·
  have hge := ge_of_q q1
  obtain rfl : k = l.length := by omega
  refine WP.weak (st' := ⟨[(5, .slice 3 false (rows0 l r l.length) (some 1))], [(1, .tip 36 3 l.length)]⟩) (Weak.store (by simp [St.get, lk, keep, ins, W, Le.refl, rows0_emp hlen]) (by simp [lk]) (by simp [lk]; exact rows0_clo l r _) (by simp [BClo]) (by simp)) ?_
  refine WP.weak (st' := ⟨[(5, .arr 1 3 l.length)], [(1, .arr 36 (rows0 l r l.length).flatten)]⟩) (Weak.tipArr 1 36 3 (rows0 l r l.length) 5 (by simp [St.get, lk]) (by simp [lk, rows0_len]) (rows0_fr 1 l r _) (by intro b hb; simp [lk, hb]) (by simp [rows0_len])) ?_
  refine WP.exit ?_
  show WP _ _ _ _ _ _
  refine WP.sr [4] (by kernel_rfl) fun K hK => ?_
  simp (decide := true) only [TF, hk, q1, rows0_len, ↓reduceIte, Int.reduceToNat]
  refine hK _ _ ?_; clear hK K
  refine WP.ret ?_
  refine Ends.imp (.inr rfl) rfl (Le.of_eq (by simp_all [St.get, lk, W, LN, bne])) ?_ ?_ ?_
  · simp [lk]
  · simp only [List.mem_singleton, forall_eq]; exact ⟨by simp [lk], fun d hd => rows0_cloF l r _ d hd⟩
  · simp
theorem ren_rows0 (f : Nat → Nat) (l : List Rule) (r : Req) (n : Nat) : renL f (rows0 l r n).flatten = (rows0 l r n).flatten := ren_cloL f (rows0_cloF l r n)
theorem c_r_reasons (t : Nat) (l : List Rule) (nl : Bool) (r : Req) (hn : l.length ≤ 1099511627776) (hnl : nl = true → l = []) (hl : ∀ p ∈ l, p.ok) (hr : r.ok) (hlen : 0 < l.length) : CallE Pr 35 [.slice 6 nl (l.map Rule.cs) none, .agg [.str r.user, .str r.client, .str r.tenant, .slice 1 r.ng (r.groups.map fun x => [.str x]) none, .slice 1 r.ns (r.scopes.map fun x => [.str x]) none, .int .i64 r.risk, .bool r.trusted, .int .i64 r.level, .int .i64 r.auth, .int .i64 r.now]] [] (.arr t 3 l.length) [(t, .arr 36 (rows0 l r l.length).flatten)] := by
 obtain ⟨f, g, h1, h2⟩ := ren_ex [t + 1, t] (by simp)
 have := CallE.rename h1 (c_r_reasons1 l nl r hn hnl hl hr hlen)
 have f1 : f 1 = t := h2 1 t rfl
 simpa only [List.map_cons, List.map_nil, renS, renB, renL, renD, ren_rl, ren_sl, ren_rows0, Option.map_none, f1] using this
theorem c_runc (l : List Rule) (nl : Bool) (hnl : nl = true → l = []) (hl : ∀ p ∈ l, p.ok) (i : Nat) (hi : i < l.length) (s : List UInt8) (hs : s.length ≤ 1099511627776) : CallE Pr 32 [.str s, .ref 0 0, .ref 1 0] [(0, .box 22 [.slice 6 nl (l.map Rule.cs) none]), (1, .box 3 [.int .i64 i])] (.bool (covsB l[i] s)) [(0, .box 22 [.slice 6 nl (l.map Rule.cs) none]), (1, .box 3 [.int .i64 i])] := by
 have hg : (l.map Rule.cs)[i]? = some [.str l[i].name, .bool l[i].deny, .slice 3 l[i].nc (l[i].conds.map Cond.cs) none, .slice 1 l[i].ns (l[i].scopes.map fun x => [.str x]) none, .int .i64 l[i].lvl, .int .i64 l[i].age] := getM hi
 have hnf := nl_false hnl hi
 refine CallE.of_wp Tryz.func32 rfl (by kernel_rfl) Tryz.ntmps32 (by simp) ?_
 simp only [frameOf, Nat.reduceAdd, Nat.zero_add, List.map_cons, List.map_nil]
 refine WP.sr [0, 1, 2] (by kernel_rfl) fun K hK => ?_
 simp (decide := true) only [TF, hg, hnf, ↓reduceIte, Int.reduceToNat]
 refine hK _ _ ?_; clear hK K
 refine WP.sr [4] (by kernel_rfl) fun K hK => ?_
 simp (decide := true) only [TF, hg, hnf, ↓reduceIte, Int.reduceToNat]
 refine CallK.pure (c_covers l[i] s (hl _ (List.getElem_mem hi)) hs) rfl rfl (by simp [-List.map_take]) ?_
 simp (decide := true) only [TF, hg, hnf, ↓reduceIte, Int.reduceToNat]
 refine hK _ _ ?_; clear hK K
 refine WP.ret ?_
 refine Ends.imp (.inr rfl) rfl (Le.of_eq (by simp (decide := true) only [St.get, lk, W, hg, hnf, ↓reduceIte])) ?_ ?_ ?_
 · simp
 · simp [St.get, lk, W, BClo, hnf]
 · simp [lk]
theorem c_indexfunc_run (l : List Rule) (nl : Bool) (hnl : nl = true → l = []) (hl : ∀ p ∈ l, p.ok) (i : Nat) (hi : i < l.length) (ls : List (List UInt8)) (na : Bool) (hn : ls.length ≤ 1099511627776) (hna : na = true → ls = []) (hls : ∀ x ∈ ls, x.length ≤ 1099511627776) : CallE Pr 61 [.slice 1 na (ls.map fun x => [.str x]) none, .fn (.func 32) [] [.ref 0 0, .ref 1 0]] [(0, .box 22 [.slice 6 nl (l.map Rule.cs) none]), (1, .box 3 [.int .i64 i])] (.int .i64 (ixP (fun t => covsB l[i] t) ls 0)) [(0, .box 22 [.slice 6 nl (l.map Rule.cs) none]), (1, .box 3 [.int .i64 i])] := by
 refine CallE.of_wp Tryz.func61 rfl (by kernel_rfl) Tryz.ntmps61 (by simp) ?_
 simp only [frameOf, Nat.reduceAdd, Nat.zero_add, List.map_cons, List.map_nil]
 refine WP.sr [0, 1] (by kernel_rfl) fun K hK => ?_
 simp (decide := true) only [TF, ↓reduceIte, Int.reduceToNat]
 refine hK _ _ ?_; clear hK K
 refine WP.seq ?_
 refine WP.sr [0, 1, 7, 8] (by kernel_rfl) fun K hK => ?_
 simp (decide := true) only [TF, ↓reduceIte, Int.reduceToNat]
 refine hK _ _ ?_; clear hK K
 refine WP.block ?_
 refine WP.lp [0, 1, 7] (X := {k : Nat // k ≤ ls.length ∧ ixP (fun t => covsB l[i] t) ls 0 = ixP (fun t => covsB l[i] t) (ls.drop k) k}) (fun x => match x with | ⟨(k), _⟩ => [(8, .int .i64 k)]) (fun x => match x with | ⟨(k), _⟩ => [(0, .box 22 [.slice 6 nl (l.map Rule.cs) none]), (1, .box 3 [.int .i64 i])]) (fun x => match x with | ⟨(k), _⟩ => ls.length - k) (by simp (decide := true) only [W, ↓reduceIte, Int.reduceToNat]; rfl) ?_ ⟨(0), ⟨Nat.zero_le _, by simp⟩⟩ ?_
 rotate_left
 · exact Weak.store (by simp [St.get, lk, W, Le.refl, W]) (by simp [lk, W, W]) (by simp [lk, W]) (by simp [BClo, lk]) (by simp [lk])
 rintro ⟨k, hk, hI⟩
 dsimp only
 simp only [List.cons_append, List.nil_append]
 refine WP.sr [0, 1, 7, 8, 9] (by kernel_rfl) fun K hK => ?_
 simp (decide := true) only [TF, hk, ↓reduceIte, Int.reduceToNat]
 refine hK _ _ ?_; clear hK K
 refine WP.seq ?_
 refine WP.cond (b := _) rfl (fun q1 => ?_) (fun q1 => ?_)
 ·
  have hlt := lt_of_q q1
  have hg : (ls.map (fun x => [D.str x]))[k]? = some [.str ls[k]] := getM hlt
  have hnf := nl_false hna hlt
  rw [dropE hlt] at hI
  simp only [ixP] at hI
  refine WP.skip ?_
  show WP _ _ _ _ _ _
  refine WP.seq ?_
  refine WP.block ?_
  refine WP.sr [0, 1, 5, 7, 8] (by kernel_rfl) fun K hK => ?_
  simp (decide := true) only [TF, hk, q1, hg, hnf, ↓reduceIte, Int.reduceToNat]
  refine hK _ _ ?_; clear hK K
  refine WP.sr [0, 1, 5, 7, 8, 16] (by kernel_rfl) fun K hK => ?_
  simp (decide := true) only [TF, hk, q1, hg, hnf, ↓reduceIte, Int.reduceToNat]
  refine CallK.imp (c_runc l nl hnl hl i hi ls[k] (hls _ (List.getElem_mem hlt))) rfl rfl (by simp [lk, BClo]) (by simp [lk]) (by simp [lk]) ?_
  simp (decide := true) only [TF, hk, q1, hg, hnf, ↓reduceIte, Int.reduceToNat]
  refine hK _ _ ?_; clear hK K
  refine WP.cond (b := _) rfl (fun q2 => ?_) (fun q2 => ?_)
  ·
   refine WP.sr [4] (by kernel_rfl) fun K hK => ?_
   simp (decide := true) only [TF, hk, q1, hg, hnf, q2, ↓reduceIte, Int.reduceToNat]
   refine hK _ _ ?_; clear hK K
   refine WP.ret ?_
   refine Ends.imp (.inr rfl) rfl (Le.of_eq (by simp (decide := true) only [St.get, lk, W, hk, q1, hg, hnf, q2, hI, ↓reduceIte])) ?_ ?_ ?_
   · simp
   · simp [St.get, lk, W, BClo, hk, q1, hg, hnf, q2]
   · simp [lk]
  ·
   refine WP.skip ?_
   show WP _ _ _ _ _ _
   refine WP.region (by kernel_rfl) fun K hK => ?_
   simp (decide := true) only [TF, hk, q1, hg, hnf, q2, ↓reduceIte, Int.reduceToNat]
   refine hK _ _ ?_; clear hK K
   show ∃ y, _ ∧ Weak _ _ _
   refine ⟨⟨k + 1, ?_⟩, ?_, ?_⟩
   · exact ⟨by omega, by first | (simpa [hk, q1, hg, hnf, q2] using hI) | (simp_all; done)⟩
   · dsimp only; omega
   · exact Weak.store (by simp [St.get, lk, W, Le.refl, hk, q1, hg, hnf, q2, wrapS hlt (show ls.length ≤ 140737488355328 by omega)]) (by simp [lk, W, hk, q1, hg, hnf, q2, wrapS hlt (show ls.length ≤ 140737488355328 by omega)]) (by simp [lk, W]) (by simp [BClo, lk]) (by simp [lk])
 ·
  have hge := ge_of_q q1
  rw [dropN hge] at hI
  simp only [ixP] at hI
  refine WP.exit ?_
  show WP _ _ _ _ _ _
  refine WP.sr [4] (by kernel_rfl) fun K hK => ?_
  simp (decide := true) only [TF, hk, q1, ↓reduceIte, Int.reduceToNat]
  refine hK _ _ ?_; clear hK K
  refine WP.ret ?_
  refine Ends.imp (.inr rfl) rfl (Le.of_eq (by simp (decide := true) only [St.get, lk, W, hk, q1, hI, ↓reduceIte])) ?_ ?_ ?_
  · simp
  · simp [St.get, lk, W, BClo, hk, q1]
  · simp [lk]
theorem c_contfunc_run (l : List Rule) (nl : Bool) (hnl : nl = true → l = []) (hl : ∀ p ∈ l, p.ok) (i : Nat) (hi : i < l.length) (ls : List (List UInt8)) (na : Bool) (hn : ls.length ≤ 1099511627776) (hna : na = true → ls = []) (hls : ∀ x ∈ ls, x.length ≤ 1099511627776) : CallE Pr 31 [.slice 1 na (ls.map fun x => [.str x]) none, .fn (.func 32) [] [.ref 0 0, .ref 1 0]] [(0, .box 22 [.slice 6 nl (l.map Rule.cs) none]), (1, .box 3 [.int .i64 i])] (.bool (ls.any fun t => covsB l[i] t)) [(0, .box 22 [.slice 6 nl (l.map Rule.cs) none]), (1, .box 3 [.int .i64 i])] := by
 refine CallE.of_wp Tryz.func31 rfl (by kernel_rfl) Tryz.ntmps31 (by simp) ?_
 simp only [frameOf, Nat.reduceAdd, Nat.zero_add, List.map_cons, List.map_nil]
 refine WP.sr [0, 1] (by kernel_rfl) fun K hK => ?_
 simp (decide := true) only [TF, ↓reduceIte, Int.reduceToNat]
 refine hK _ _ ?_; clear hK K
 refine WP.sr [4] (by kernel_rfl) fun K hK => ?_
 simp (decide := true) only [TF, ↓reduceIte, Int.reduceToNat]
 refine CallK.imp (c_indexfunc_run l nl hnl hl i hi ls na hn hna hls) rfl rfl (by simp [lk, BClo]) (by simp [lk]) (by simp [lk]) ?_
 simp (decide := true) only [TF, ↓reduceIte, Int.reduceToNat]
 refine hK _ _ ?_; clear hK K
 refine WP.ret ?_
 refine Ends.imp (.inr rfl) rfl (Le.of_eq (by simp (decide := true) only [St.get, lk, W, ixP_any0, ↓reduceIte])) ?_ ?_ ?_
 · simp
 · simp [St.get, lk, W, BClo, W]
 · simp [lk]
theorem c_contfunc_at (y : Nat) (hy : 0 ≠ y) (l : List Rule) (nl : Bool) (hnl : nl = true → l = []) (hl : ∀ p ∈ l, p.ok) (i : Nat) (hi : i < l.length) (ls : List (List UInt8)) (na : Bool) (hn : ls.length ≤ 1099511627776) (hna : na = true → ls = []) (hls : ∀ x ∈ ls, x.length ≤ 1099511627776) : CallE Pr 31 [.slice 1 na (ls.map fun x => [.str x]) none, .fn (.func 32) [] [.ref 0 0, .ref y 0]] [(0, .box 22 [.slice 6 nl (l.map Rule.cs) none]), (y, .box 3 [.int .i64 i])] (.bool (ls.any fun t => covsB l[i] t)) [(0, .box 22 [.slice 6 nl (l.map Rule.cs) none]), (y, .box 3 [.int .i64 i])] := by
 obtain ⟨f, g, h1, h2⟩ := ren_ex [0, y] (by simp [hy])
 have := CallE.rename h1 (c_contfunc_run l nl hnl hl i hi ls na hn hna hls)
 have f0 : f 0 = 0 := h2 0 0 rfl
 have f1 : f 1 = y := h2 1 y rfl
 simpa only [List.map_cons, List.map_nil, renS, renB, renL, renD, ren_rl, ren_sl, Option.map_none, f0, f1] using this
theorem ren_rowsN (f : Nat → Nat) (rs : List Reas) : renL f (rowsN rs).flatten = (rowsN rs).flatten := ren_cloL f (rowsN_clo rs)
theorem c_permit_at (b t : Nat) (hbt : b ≠ t) (l : List Rule) (nl : Bool) (r : Req) (hn : l.length ≤ 1099511627776) (hnl : nl = true → l = []) (hl : ∀ p ∈ l, p.ok) (hr : r.ok) (hrs : ∀ s ∈ r.scopes, s.length ≤ 1099511627776) : CallE Pr 30 [.ref b 0, .slice 6 nl (l.map Rule.cs) none, .agg [.str r.user, .str r.client, .str r.tenant, .slice 1 r.ng (r.groups.map fun x => [.str x]) none, .slice 1 r.ns (r.scopes.map fun x => [.str x]) none, .int .i64 r.risk, .bool r.trusted, .int .i64 r.level, .int .i64 r.auth, .int .i64 r.now]] [(b, .box 32 [.int .i64 4, .slice 0 true [] none, .int .i64 0, .int .i64 0, .arr t 3 l.length]), (t, .arr 36 (rows0 l r l.length).flatten)] (.bool (decide (((psR l r).all.length : Int) > 0))) [(b, .box 32 [.int .i64 4, .slice 1 (srtR (psR l r).all).isEmpty ((srtR (psR l r).all).map (fun x => [D.str x])) none, .int .i64 (psR l r).lvl, .int .i64 (psR l r).age, .arr t 3 l.length]), (t, .arr 36 (rowsN (psR l r).rs).flatten)] := by
 obtain ⟨f, g, h1, h2⟩ := ren_ex [b + t + 1, b, t] (by simp [hbt]; omega)
 have := CallE.rename h1 (c_permit l nl r hn hnl hl hr hrs)
 have f1 : f 1 = b := h2 1 b rfl
 have f2 : f 2 = t := h2 2 t rfl
 simpa only [List.map_cons, List.map_nil, renS, renB, renL, renLL, renD, ren_rl, ren_sl, ren_rows0, ren_rowsN, Option.map_none, f1, f2] using this
def dec4 (l : List Rule) (r : Req) : Dec := ⟨4, [], true, 0, 0, reasD l r, l.isEmpty⟩
theorem runD_1 {l : List Rule} {r : Req} (h : (checkE l != 0) = true) : runD l r = noD := by unfold runD; rw [if_pos h]
theorem runD_2 {l : List Rule} {r : Req} (h : (checkE l != 0) = false) (h2 : denyB l r = true) : runD l r = ⟨2, [], true, 0, 0, reasD l r, l.isEmpty⟩ := by unfold runD; rw [if_neg (by rw [h]; decide), if_pos h2]
theorem runD_3 {l : List Rule} {r : Req} (h : (checkE l != 0) = false) (h2 : denyB l r = false) (h3 : decide (((psR l r).all.length : Int) > 0) = true) : runD l r = ⟨1, srtR (psR l r).all, (srtR (psR l r).all).isEmpty, (psR l r).lvl, (psR l r).age, (psR l r).rs.map Reas.nrm, l.isEmpty⟩ := by
 unfold runD; rw [if_neg (by rw [h]; decide), if_neg (by rw [h2]; decide), if_pos h3]
theorem runD_4 {l : List Rule} {r : Req} (h : (checkE l != 0) = false) (h2 : denyB l r = false) (h3 : decide (((psR l r).all.length : Int) > 0) = false) : runD l r = stepD r (dec4 l r) l := by
 unfold runD dec4; rw [if_neg (by rw [h]; decide), if_neg (by rw [h2]; decide), if_neg (by rw [h3]; decide)]
theorem denyB_succ {l : List Rule} {r : Req} {k : Nat} (h : k < l.length) : denyB (l.take (k + 1)) r = (denyB (l.take k) r || (okM l[k] r && l[k].deny)) := by
 unfold denyB
 rw [takeS h, List.any_append]; simp
theorem reasD_cs (l : List Rule) (r : Req) : rowsN (reasD l r) = (reasD l r).map Reas.cs := by rw [rowsN_cs, reasD_nrm]
theorem srtR_nil : srtR [] = [] := rfl
theorem isE_pos {l : List Rule} (h : 0 < l.length) : l.isEmpty = false := by cases l with
 | nil => simp at h
 | cons => rfl
theorem psR_len (l : List Rule) (r : Req) : (psR l r).rs.length = l.length := by
 have key : ∀ (ss : List (List UInt8)) (q : PS), (ss.foldl (pStep l r) q).rs.length = q.rs.length := by
  intro ss
  induction ss with
  | nil => intro q; rfl
  | cons s ss ih =>
   intro q
   rw [List.foldl_cons, ih]
   cases hc : decide (grP r s l 0 < 0) with
   | true => rw [pStep_no hc]
   | false =>
    obtain ⟨i, hi, hg⟩ := grP_at hc
    rw [pStep_at hi hg]; simp
 rw [psR, key]; simp [ps0]
theorem sh_sl (t : Nat) (nl : Bool) (ls : List (List UInt8)) : Sh t (.slice 1 nl (ls.map fun x => [.str x]) none) := by
 refine .slice (fun e he d hd => ?_) (fun e he => ?_) (by simp)
 ·simp only [List.mem_map] at he
  obtain ⟨x, _, rfl⟩ := he
  simp only [List.mem_singleton] at hd; subst hd; exact .str _
 ·simp only [List.getElem?_map, Option.map_eq_some_iff] at he
  obtain ⟨x, _, rfl⟩ := he
  exact ⟨_, rfl⟩
theorem sh_cl (t : Nat) (nl : Bool) (ls : List Cond) : Sh t (.slice 3 nl (ls.map Cond.cs) none) := by
 refine .slice (fun e he d hd => ?_) (fun e he => ?_) (by simp)
 ·simp only [List.mem_map] at he
  obtain ⟨x, _, rfl⟩ := he
  simp only [Cond.cs, List.mem_cons, List.not_mem_nil, or_false] at hd
  rcases hd with rfl | rfl | rfl <;> exact .str _
 ·simp only [List.getElem?_map, Option.map_eq_some_iff] at he
  obtain ⟨x, _, rfl⟩ := he
  exact ⟨_, rfl⟩
theorem sh_rl (t : Nat) (nl : Bool) (l : List Rule) : Sh t (.slice 6 nl (l.map Rule.cs) none) := by
 refine .slice (fun e he d hd => ?_) (fun e he => ?_) (by simp)
 ·simp only [List.mem_map] at he
  obtain ⟨x, _, rfl⟩ := he
  simp only [Rule.cs, List.mem_cons, List.not_mem_nil, or_false] at hd
  rcases hd with rfl | rfl | rfl | rfl | rfl | rfl
  ·exact .str _
  ·exact .bool _
  ·exact sh_cl _ _ _
  ·exact sh_sl _ _ _
  ·exact .int _ _
  ·exact .int _ _
 ·simp only [List.getElem?_map, Option.map_eq_some_iff] at he
  obtain ⟨x, _, rfl⟩ := he
  exact ⟨_, rfl⟩
theorem sh_rq (t : Nat) (r : Req) : ∀ d ∈ rqD r, Sh t d := by
 intro d hd
 simp only [rqD, List.mem_cons, List.not_mem_nil, or_false] at hd
 rcases hd with rfl | rfl | rfl | rfl | rfl | rfl | rfl | rfl | rfl | rfl
 ·exact .str _
 ·exact .str _
 ·exact .str _
 ·exact sh_sl _ _ _
 ·exact sh_sl _ _ _
 ·exact .int _ _
 ·exact .bool _
 ·exact .int _ _
 ·exact .int _ _
 ·exact .int _ _
theorem tp_refl {t sz : Nat} {es : List (List D)} : ∀ {cs : List D}, (∀ d ∈ cs, Sh t d) → TpL t sz es cs cs
 | [], _ => trivial
 | d :: cs, h => ⟨.inl ⟨rfl, h d (by simp)⟩, tp_refl fun x hx => h x (by simp [hx])⟩
theorem sh_nil (t sz : Nat) : Sh t (.slice sz true [] none) := .slice (by simp) (by simp) (by simp)
def zeroDec : List D := [.int .i64 0, .slice 0 true [] none, .int .i64 0, .int .i64 0, .slice 0 true [] none]
theorem weak_turn {l : List Rule} {nl : Bool} {r : Req} {st : St} (h2 : st.get 2 = .ref 0 0) (h3 : st.get 3 = .ref 1 0) (h4 : st.get 4 = .ref 2 0) (h5 : st.get 5 = .ref 3 0)
  (s7 : lk st.σ 7 = some (.tip 36 3 l.length)) (s3 : lk st.σ 3 = some (.box 32 [.int .i64 4, .slice 0 true [] none, .int .i64 0, .int .i64 0, .slice 3 false (rows0 l r l.length) (some 7)])) (s2 : lk st.σ 2 = some (.box 32 zeroDec)) (s1 : lk st.σ 1 = some (.box 25 (rqD r))) (s0 : lk st.σ 0 = some (.box 22 [rlD l nl])) :
  Weak [] st ⟨[(5, .ref 3 0), (4, .ref 2 0), (3, .ref 1 0), (2, .ref 0 0)], [(7, .arr 36 (rows0 l r l.length).flatten), (3, .box 32 [.int .i64 4, .slice 0 true [] none, .int .i64 0, .int .i64 0, .arr 7 3 l.length]), (2, .box 32 zeroDec), (1, .box 25 (rqD r)), (0, .box 22 [rlD l nl])]⟩ := by
 refine Weak.trans (Weak.store (st' := ⟨[(5, .ref 3 0), (4, .ref 2 0), (3, .ref 1 0), (2, .ref 0 0)], [(7, .tip 36 3 l.length), (3, .box 32 [.int .i64 4, .slice 0 true [] none, .int .i64 0, .int .i64 0, .slice 3 false (rows0 l r l.length) (some 7)]), (2, .box 32 zeroDec), (1, .box 25 (rqD r)), (0, .box 22 [rlD l nl])]⟩) ?_ ?_ ?_ ?_ (by simp)) ?_
 ·simp [h2, h3, h4, h5, Le.refl]
 ·simp [s0, s1, s2, s3, s7]
 ·simp [lk]
 ·simp [BClo, lk, zeroDec]; exact fun e he d hd => rows0_clo l r _ e he d hd
 ·refine Weak.tipArrS 7 36 3 (rows0 l r l.length) 3 32 _ 4 rfl rfl (by simp [lk, rows0_len]) (rows0_sh 7 l r _) ?_ rfl ?_
  ·intro p hp
   simp only [List.mem_cons, List.not_mem_nil, or_false] at hp
   rcases hp with rfl | rfl | rfl | rfl <;> exact ⟨rfl, .ref (by decide)⟩
  ·intro b hb
   by_cases b3 : b = 3
   ·subst b3; exact .inr ⟨_, _, rfl, rfl, rfl, ⟨.inl ⟨rfl, .int _ _⟩, .inl ⟨rfl, sh_nil _ _⟩, .inl ⟨rfl, .int _ _⟩, .inl ⟨rfl, .int _ _⟩, .inr ⟨rfl, by rw [rows0_len]⟩, trivial⟩⟩
   by_cases b2 : b = 2
   ·subst b2; exact .inr ⟨_, _, rfl, rfl, rfl, ⟨.inl ⟨rfl, .int _ _⟩, .inl ⟨rfl, sh_nil _ _⟩, .inl ⟨rfl, .int _ _⟩, .inl ⟨rfl, .int _ _⟩, .inl ⟨rfl, sh_nil _ _⟩, trivial⟩⟩
   by_cases b1 : b = 1
   ·subst b1; exact .inr ⟨_, _, rfl, rfl, rfl, tp_refl (sh_rq 7 r)⟩
   by_cases b0 : b = 0
   ·subst b0; exact .inr ⟨_, _, rfl, rfl, rfl, ⟨.inl ⟨rfl, sh_rl _ _ _⟩, trivial⟩⟩
   exact .inl (by simp [lk, hb, b3, b2, b1, b0])
theorem weak_dec {st : St} (b k0 bx : Nat) (e sc lv ag : D) (rs : List Reas) (n : Nat) (hn : rs.length = n) (hbx : bx ≠ b) (hk : st.get k0 = .ref bx 0) (hb : lk st.σ b = some (.arr 36 (rowsN rs).flatten)) (hx : lk st.σ bx = some (.box 32 [e, sc, lv, ag, .arr b 3 n]))
  (hc : ∀ (S : Nat → Prop), ∀ d ∈ [e, sc, lv, ag], Clo S d) : Weak [] st ⟨[(k0, .ref bx 0)], [(bx, .box 32 [e, sc, lv, ag, .slice 3 false (rowsN rs) none])]⟩ := by
 have hc' : ∀ S : Nat → Prop, Clo S e ∧ Clo S sc ∧ Clo S lv ∧ Clo S ag := fun S => ⟨hc S _ (by simp), hc S _ (by simp), hc S _ (by simp), hc S _ (by simp)⟩
 refine Weak.trans (Weak.store (st' := ⟨[(k0, .ref bx 0)], [(bx, .box 32 [e, sc, lv, ag, .arr b 3 n]), (b, .arr 36 (rowsN rs).flatten)]⟩) ?_ ?_ ?_ ?_ (by simp)) ?_
 ·simp [hk, Le.refl]
 ·simp [hb, hx]
 ·simp [lk]
 ·intro p hp
  simp only [List.mem_cons, List.not_mem_nil, or_false] at hp
  rcases hp with rfl | rfl
  ·intro d hd
   simp only [List.mem_cons, List.not_mem_nil, or_false] at hd
   rcases hd with rfl | rfl | rfl | rfl | rfl
   ·exact (hc' _).1
   ·exact (hc' _).2.1
   ·exact (hc' _).2.2.1
   ·exact (hc' _).2.2.2
   ·refine .arr ?_
    by_cases e : b = bx <;> simp [lk, e]
  ·exact fun d hd => rowsN_clo rs d hd
 ·refine Weak.freeze b 36 3 (rowsN rs) (by simp [lk, Ne.symm hbx]) (rowsN_mem rs) (by decide) (by simp [lk, Ne.symm hbx]) (fun x hx d hd => rowsN_clo rs d (List.mem_flatten.2 ⟨x, hx, hd⟩)) ?_ ?_
  ·intro p hp
   simp only [List.mem_singleton] at hp
   subst hp
   exact .inl ⟨by simp [St.get, lk], by simp [St.get, lk]; exact hbx⟩
  ·intro i hi
   by_cases ib : i = bx
   ·subst ib
    exact .inr ⟨.box 32 [e, sc, lv, ag, .arr b 3 n], .box 32 [e, sc, lv, ag, .slice 3 false (rowsN rs) none], by simp [lk], by simp [lk], rfl, ⟨.inl ⟨rfl, (hc' _).1⟩, .inl ⟨rfl, (hc' _).2.1⟩, .inl ⟨rfl, (hc' _).2.2.1⟩, .inl ⟨rfl, (hc' _).2.2.2⟩, .inr ⟨by rw [rowsN_len, hn], rfl⟩, trivial⟩⟩
   ·exact .inl (by simp [lk, hi, ib])
theorem okM_ne (p : Rule) (r : Req) : (firstL r p.conds 0 != -1) = !(okM p r) := by rw [← okM_eq]; rfl
def addU (s : List UInt8) (x : Reas) : Reas := { x with scopes := x.scopes ++ [s] }
def rStep (l : List Rule) (r : Req) (q : PS) (s : List UInt8) : PS :=
 if (decide (grP r s l 0 < 0) || q.all.contains s) = true then q else
  match l[(grP r s l 0).toNat]? with
  | some p => ⟨q.all ++ [s], q.rs.modify (grP r s l 0).toNat (addU s), lvlU q.lvl p.lvl, ageU q.age p.age⟩
  | none => q
def rsR (l : List Rule) (r : Req) : PS := r.scopes.foldl (rStep l r) (ps0 l r)
theorem rStep_no {l : List Rule} {r : Req} {q : PS} {s : List UInt8} (h : (decide (grP r s l 0 < 0) || q.all.contains s) = true) : rStep l r q s = q := by unfold rStep; rw [if_pos h]
theorem rStep_at {l : List Rule} {r : Req} {q : PS} {s : List UInt8} {i : Nat} (hi : i < l.length) (h : grP r s l 0 = (i : Int)) (hc : q.all.contains s = false) : rStep l r q s = ⟨q.all ++ [s], q.rs.modify i (addU s), lvlU q.lvl l[i].lvl, ageU q.age l[i].age⟩ := by
 unfold rStep
 rw [h, hc, if_neg (by simp), Int.toNat_natCast, getE hi]
theorem lvlU_self (a b : Int) : lvlU (lvlU a b) b = lvlU a b := by unfold lvlU; (repeat' split) <;> omega
theorem lvlU_on {a b c : Int} (h : lvlU a c = a) : lvlU (lvlU a b) c = lvlU a b := by
 unfold lvlU at *
 split at h <;> (repeat' split) <;> omega
theorem ageU_c (a b : Int) : ageU a b = if b > 0 ∧ (a = 0 ∨ b < a) then b else a := by
 unfold ageU
 by_cases h1 : b > 0 <;> by_cases h2 : a = 0 <;> by_cases h3 : b < a <;> simp [h1, h2, h3]
theorem ageU_self (a b : Int) : ageU (ageU a b) b = ageU a b := by
 simp only [ageU_c]; (repeat' split) <;> omega
theorem ageU_on {a b c : Int} (h : ageU a c = a) : ageU (ageU a b) c = ageU a b := by
 simp only [ageU_c] at *
 split at h <;> (repeat' split) <;> omega
structure Both (l : List Rule) (r : Req) (q p : PS) : Prop where
 rs : p.rs = q.rs
 lvl : p.lvl = q.lvl
 age : p.age = q.age
 mem : ∀ x, x ∈ p.all ↔ x ∈ q.all
 len : q.rs.length = l.length
 sc : ∀ (i : Nat) (h : i < q.rs.length) s, s ∈ q.rs[i].scopes ↔ (s ∈ q.all ∧ grP r s l 0 = (i : Int))
 up : ∀ s, s ∈ q.all → ∀ (i : Nat) (h : i < l.length), grP r s l 0 = (i : Int) → lvlU q.lvl l[i].lvl = q.lvl ∧ ageU q.age l[i].age = q.age
theorem Both.next {l : List Rule} {r : Req} {q p : PS} (h : Both l r q p) (s : List UInt8) : Both l r (pStep l r q s) (rStep l r p s) := by
 cases hc : decide (grP r s l 0 < 0) with
 | true => rw [pStep_no hc, rStep_no (by rw [hc]; rfl)]; exact h
 | false =>
  obtain ⟨i, hi, hg⟩ := grP_at hc
  rw [pStep_at hi hg]
  have hiq : i < q.rs.length := by rw [h.len]; exact hi
  cases hin : q.all.contains s with
  | true =>
   have hs : s ∈ q.all := by simpa using hin
   have hp : p.all.contains s = true := by simpa using (h.mem s).2 hs
   rw [rStep_no (by rw [hp, Bool.or_true])]
   obtain ⟨u1, u2⟩ := h.up s hs i hi hg
   have hcon : q.rs[i].scopes.contains s = true := by simpa using (h.sc i hiq s).2 ⟨hs, hg⟩
   rw [modify_in hiq hcon, u1, u2]
   have hm : ∀ x, x ∈ q.all ++ [s] ↔ x ∈ q.all := fun x => by
    rw [List.mem_append, List.mem_singleton]
    exact ⟨fun hx => hx.elim id (fun e => e ▸ hs), .inl⟩
   exact ⟨h.rs, h.lvl, h.age, fun x => (h.mem x).trans (hm x).symm, h.len, fun j hj t => (h.sc j hj t).trans ⟨fun ⟨a, b⟩ => ⟨(hm t).2 a, b⟩, fun ⟨a, b⟩ => ⟨(hm t).1 a, b⟩⟩, fun t ht j hj hgj => h.up t ((hm t).1 ht) j hj hgj⟩
  | false =>
   have hs : s ∉ q.all := by simpa using hin
   have hp : p.all.contains s = false := by
    rw [Bool.eq_false_iff]; intro e; exact hs ((h.mem s).1 (by simpa using e))
   rw [rStep_at hi hg hp]
   have hcon : q.rs[i].scopes.contains s = false := by
    rw [Bool.eq_false_iff]; intro e; exact hs ((h.sc i hiq s).1 (by simpa using e)).1
   have hadd : q.rs.modify i (addS s) = q.rs.modify i (addU s) := by
    apply List.ext_getElem (by simp)
    intro j h1 h2
    rw [List.getElem_modify, List.getElem_modify]
    split
    ·rename_i e; subst e; unfold addS addU; rw [if_neg (by rw [hcon]; decide)]
    ·rfl
   refine ⟨by rw [h.rs, hadd], by rw [h.lvl], by rw [h.age], fun x => by simp [h.mem x], by simpa using h.len, fun j hj t => ?_, fun t ht j hj hgj => ?_⟩
   ·have hj' : j < q.rs.length := by simpa using hj
    simp only [List.getElem_modify, List.mem_append, List.mem_singleton]
    split
    ·rename_i e; subst e
     unfold addS
     rw [if_neg (by rw [hcon]; decide)]
     simp only [List.mem_append, List.mem_singleton]
     rw [h.sc i hiq t]
     constructor
     ·rintro (⟨a, b⟩ | rfl)
      ·exact ⟨.inl a, b⟩
      ·exact ⟨.inr rfl, hg⟩
     ·rintro ⟨a | rfl, b⟩
      ·exact .inl ⟨a, b⟩
      ·exact .inr rfl
    ·rename_i e
     rw [h.sc j hj' t]
     constructor
     ·rintro ⟨a, b⟩; exact ⟨.inl a, b⟩
     ·rintro ⟨a | rfl, b⟩
      ·exact ⟨a, b⟩
      ·rw [hg] at b; exact absurd (by omega : i = j) e
   ·dsimp only
    rcases List.mem_append.1 ht with ht | ht
    ·obtain ⟨u1, u2⟩ := h.up t ht j hj hgj
     exact ⟨lvlU_on u1, ageU_on u2⟩
    ·rw [List.mem_singleton] at ht; subst ht
     rw [hg] at hgj
     obtain rfl : i = j := by omega
     exact ⟨lvlU_self _ _, ageU_self _ _⟩
theorem both_all (l : List Rule) (r : Req) : Both l r (psR l r) (rsR l r) := by
 have key : ∀ (ss : List (List UInt8)) (q p : PS), Both l r q p → Both l r (ss.foldl (pStep l r) q) (ss.foldl (rStep l r) p) := by
  intro ss
  induction ss with
  | nil => intro q p h; exact h
  | cons s ss ih => intro q p h; exact ih _ _ (h.next s)
 exact key r.scopes _ _ ⟨rfl, rfl, rfl, fun _ => Iff.rfl, by simp [ps0], by simp [ps0, mkR], by simp [ps0]⟩
theorem least_mem {a b : List (List UInt8)} (h : ∀ x, x ∈ a ↔ x ∈ b) (s : List UInt8) : leastR a s = leastR b s := by
 unfold leastR
 congr 1
 rw [Bool.eq_iff_iff, List.all_eq_true, List.all_eq_true]
 exact ⟨fun q x hx => q x ((h x).2 hx), fun q x hx => q x ((h x).1 hx)⟩
theorem srtR_spec (l : List (List UInt8)) : Asc (srtR l) ∧ ∀ x, x ∈ srtR l ↔ x ∈ l ∧ leastR l x = true := by
 obtain ⟨h1, h2⟩ := inAll_spec (leastR l) l [] List.Pairwise.nil
 exact ⟨h1, fun x => by rw [show srtR l = inAll (leastR l) [] l from rfl, h2]; simp⟩
theorem srtR_mem {a b : List (List UInt8)} (h : ∀ x, x ∈ a ↔ x ∈ b) : srtR a = srtR b :=
 asc_ext (srtR_spec a).1 (srtR_spec b).1 fun x => by rw [(srtR_spec a).2, (srtR_spec b).2, h, least_mem h]
theorem all_pos (l : List Rule) (r : Req) : decide (((rsR l r).all.length : Int) > 0) = decide (((psR l r).all.length : Int) > 0) := by
 have h := (both_all l r).mem
 have : (rsR l r).all = [] ↔ (psR l r).all = [] := by
  constructor <;> intro e
  ·exact List.eq_nil_iff_forall_not_mem.2 fun x hx => by have := (h x).2 hx; rw [e] at this; simp at this
  ·exact List.eq_nil_iff_forall_not_mem.2 fun x hx => by have := (h x).1 hx; rw [e] at this; simp at this
 cases ha : (rsR l r).all with
 | nil => rw [this.1 ha]
 | cons x t =>
  cases hb : (psR l r).all with
  | nil => rw [this.2 hb] at ha; cases ha
  | cons y u => rw [decide_eq_true (by simp), decide_eq_true (by simp)]
theorem run_srt (l : List Rule) (r : Req) : srtR (rsR l r).all = srtR (psR l r).all := srtR_mem (both_all l r).mem
structure PJ (l : List Rule) (r : Req) (k : Nat) (q : PS) : Prop where
 len : q.rs.length = l.length
 alen : q.all.length ≤ k
 mem : ∀ x ∈ q.all, x ∈ r.scopes
 rlen : ∀ x ∈ q.rs, x.scopes.length ≤ k
 run : rsR l r = (r.scopes.drop k).foldl (rStep l r) q
theorem PJ.start (l : List Rule) (r : Req) : PJ l r 0 (ps0 l r) := ⟨by simp [ps0], by simp [ps0], by simp [ps0], by simp [ps0, mkR], rfl⟩
theorem PJ.next {l : List Rule} {r : Req} {k : Nat} {q : PS} (h : PJ l r k q) (hk : k < r.scopes.length) : PJ l r (k + 1) (rStep l r q r.scopes[k]) := by
 have hr := h.run
 rw [dropE hk, List.foldl_cons] at hr
 cases hc : (decide (grP r r.scopes[k] l 0 < 0) || q.all.contains r.scopes[k]) with
 | true =>
  rw [rStep_no hc] at hr ⊢
  exact ⟨h.len, by have := h.alen; omega, h.mem, fun x hx => by have := h.rlen x hx; omega, hr⟩
 | false =>
  simp only [Bool.or_eq_false_iff] at hc
  obtain ⟨i, hi, hg⟩ := grP_at hc.1
  rw [rStep_at hi hg hc.2] at hr ⊢
  refine ⟨by rw [modify_len]; exact h.len, by have := h.alen; simp; omega, fun x hx => ?_, fun x hx => ?_, hr⟩
  ·rcases List.mem_append.1 hx with hx | hx
   ·exact h.mem x hx
   ·rw [List.mem_singleton] at hx; rw [hx]; exact List.getElem_mem hk
  ·obtain ⟨j, hj, rfl⟩ := List.mem_iff_getElem.1 hx
   have hj' : j < q.rs.length := by simpa using hj
   rw [List.getElem_modify]
   have h1 := h.rlen _ (List.getElem_mem hj')
   split
   ·unfold addU; simp; omega
   ·omega
theorem rows_setU {s : List UInt8} {rs : List Reas} {b i : Nat} (hi : i < rs.length) : (rowsT b rs).flatten.take (i * 3 + 2) ++ [D.slice 1 false (rs[i].scopes.map (fun x => [D.str x]) ++ [[D.str s]]) (some (b + i))] ++ (rowsT b rs).flatten.drop (i * 3 + 2 + 1) = (rowsT b (rs.modify i (addU s))).flatten := by
 have := rowsT_set (addU s) (fun x => ⟨rfl, rfl⟩) rs b i hi
 simpa [isEA, addU] using this
theorem fam_setU {s : List UInt8} {rs : List Reas} {b i : Nat} (hi : i < rs.length) (j : Nat) : lk (fam b (rs.modify i (addU s))) j = if j = b + i then some (.tip 9 1 (rs[i].scopes.length + 1)) else lk (fam b rs) j := by
 have := fam_upd (addU s) rs b i hi j
 simpa [addU] using this
theorem c_run1 (l : List Rule) (nl : Bool) (r : Req) (hn : l.length ≤ 1099511627776) (hnl : nl = true → l = []) (hl : ∀ p ∈ l, p.ok) (hr : r.ok) (hrs : ∀ s ∈ r.scopes, s.length ≤ 1099511627776) (hlen : 0 < l.length) : CallP Pr 12 [.slice 6 nl (l.map Rule.cs) none, .agg [.str r.user, .str r.client, .str r.tenant, .slice 1 r.ng (r.groups.map fun x => [.str x]) none, .slice 1 r.ns (r.scopes.map fun x => [.str x]) none, .int .i64 r.risk, .bool r.trusted, .int .i64 r.level, .int .i64 r.auth, .int .i64 r.now]] (.agg (dcsD (runD l r))) := by
 refine CallP.of_wp Tryz.func12 rfl (by kernel_rfl) Tryz.ntmps12 (by simp) ?_
 simp only [frameOf, Nat.reduceAdd, Nat.zero_add]
 refine WP.sr [2, 3, 4] (by kernel_rfl) fun K hK => ?_
 simp (decide := true) only [TF, rows0_len, ↓reduceIte, Int.reduceToNat]
 refine hK _ _ ?_; clear hK K
 refine WP.seq ?_
 refine WP.sr [2, 3, 4, 13] (by kernel_rfl) fun K hK => ?_
 simp (decide := true) only [TF, rows0_len, ↓reduceIte, Int.reduceToNat]
 refine CallK.pure (c_check l nl hn hnl hl) rfl rfl (by simp [-List.map_take]) ?_
 simp (decide := true) only [TF, rows0_len, ↓reduceIte, Int.reduceToNat]
 refine hK _ _ ?_; clear hK K
 refine WP.cond (b := _) rfl (fun q1 => ?_) (fun q1 => ?_)
 ·
  have hX := runD_1 (r := r) q1
  refine WP.sr [4] (by kernel_rfl) fun K hK => ?_
  simp (decide := true) only [TF, q1, rows0_len, ↓reduceIte, Int.reduceToNat]
  refine hK _ _ ?_; clear hK K
  refine WP.ret ?_
  exact Ends.pure (.inr rfl) rfl ((by rw [hX]; exact Le.agg ⟨Le.refl _, Le.nil _ _ _, Le.refl _, Le.refl _, Le.nil _ _ _, trivial⟩)) (by simp)
 ·
  have hc0 := q1
  refine WP.skip ?_
  show WP _ _ _ _ _ _
  refine WP.sr [2, 3, 4, 5] (by kernel_rfl) fun K hK => ?_
  simp (decide := true) only [TF, q1, rows0_len, ↓reduceIte, Int.reduceToNat]
  refine hK _ _ ?_; clear hK K
  refine WP.sr [2, 3, 4, 5, 6] (by kernel_rfl) fun K hK => ?_
  simp (decide := true) only [TF, q1, rows0_len, ↓reduceIte, Int.reduceToNat]
  refine hK _ _ ?_; clear hK K
  refine WP.seq ?_
  refine WP.sr [2, 3, 4, 5, 6, 18] (by kernel_rfl) fun K hK => ?_
  simp (decide := true) only [TF, q1, rows0_len, ↓reduceIte, Int.reduceToNat]
  refine CallK.imp (c_reasons 5 6 (by decide) l nl r) rfl rfl (by simp) (by simp [lk]) (by simp [lk]) ?_
  simp (decide := true) only [TF, q1, rows0_len, ↓reduceIte, Int.reduceToNat]
  refine hK _ _ ?_; clear hK K
  refine WP.block ?_
  refine WP.weak (Weak.ghost 7 36 3 (σ' := (5, .box 22 [.slice 6 nl (l.map Rule.cs) none]) :: (6, .box 25 [.str r.user, .str r.client, .str r.tenant, .slice 1 r.ng (r.groups.map fun x => [.str x]) none, .slice 1 r.ns (r.scopes.map fun x => [.str x]) none, .int .i64 r.risk, .bool r.trusted, .int .i64 r.level, .int .i64 r.auth, .int .i64 r.now]) :: (4, .box 4 [.bool false]) :: (3, .box 32 [.int .i64 4, .slice 0 true [] none, .int .i64 0, .int .i64 0, .slice 3 true [] (some 7)]) :: (2, .box 32 [.int .i64 0, .slice 0 true [] none, .int .i64 0, .int .i64 0, .slice 0 true [] none]) :: (1, .box 25 [.str r.user, .str r.client, .str r.tenant, .slice 1 r.ng (r.groups.map fun x => [.str x]) none, .slice 1 r.ns (r.scopes.map fun x => [.str x]) none, .int .i64 r.risk, .bool r.trusted, .int .i64 r.level, .int .i64 r.auth, .int .i64 r.now]) :: [(0, .box 22 [.slice 6 nl (l.map Rule.cs) none])]) (by simp [lk]) (UpF.refl _ _ _) (by simp [UpS, UpB, UpL, UpD])) ?_
  refine WP.rf [2, 5, 6] (fun x => [(7, .int .i64 x), (8, .int .i64 (FL l r x))]) (fun pre => (7, .tip 36 3 pre.length) :: (5, .box 22 [.slice 6 nl (l.map Rule.cs) none]) :: (6, .box 25 [.str r.user, .str r.client, .str r.tenant, .slice 1 r.ng (r.groups.map fun x => [.str x]) none, .slice 1 r.ns (r.scopes.map fun x => [.str x]) none, .int .i64 r.risk, .bool r.trusted, .int .i64 r.level, .int .i64 r.auth, .int .i64 r.now]) :: (4, .box 4 [.bool (denyB (l.take pre.length) r)]) :: (3, .box 32 [.int .i64 4, .slice 0 true [] none, .int .i64 0, .int .i64 0, .slice 3 (rows0 l r pre.length).isEmpty (rows0 l r pre.length) (some 7)]) :: (2, .box 32 [.int .i64 0, .slice 0 true [] none, .int .i64 0, .int .i64 0, .slice 0 true [] none]) :: (1, .box 25 [.str r.user, .str r.client, .str r.tenant, .slice 1 r.ng (r.groups.map fun x => [.str x]) none, .slice 1 r.ns (r.scopes.map fun x => [.str x]) none, .int .i64 r.risk, .bool r.trusted, .int .i64 r.level, .int .i64 r.auth, .int .i64 r.now]) :: [(0, .box 22 [.slice 6 nl (l.map Rule.cs) none])]) (fun pre x => (7, .tip 36 3 pre.length) :: (5, .box 22 [.slice 6 nl (l.map Rule.cs) none]) :: (6, .box 25 [.str r.user, .str r.client, .str r.tenant, .slice 1 r.ng (r.groups.map fun x => [.str x]) none, .slice 1 r.ns (r.scopes.map fun x => [.str x]) none, .int .i64 r.risk, .bool r.trusted, .int .i64 r.level, .int .i64 r.auth, .int .i64 r.now]) :: (4, .box 4 [.bool (denyB (l.take pre.length) r)]) :: (3, .box 32 [.int .i64 4, .slice 0 true [] none, .int .i64 0, .int .i64 0, .slice 3 (rows0 l r pre.length).isEmpty (rows0 l r pre.length) (some 7)]) :: (2, .box 32 [.int .i64 0, .slice 0 true [] none, .int .i64 0, .int .i64 0, .slice 0 true [] none]) :: (1, .box 25 [.str r.user, .str r.client, .str r.tenant, .slice 1 r.ng (r.groups.map fun x => [.str x]) none, .slice 1 r.ns (r.scopes.map fun x => [.str x]) none, .int .i64 r.risk, .bool r.trusted, .int .i64 r.level, .int .i64 r.auth, .int .i64 r.now]) :: [(0, .box 22 [.slice 6 nl (l.map Rule.cs) none])]) (fun pre => True) (dsOf := dsFL l r) (by simp (decide := true) only [W, ↓reduceIte, Int.reduceToNat]; rfl) (by simp [MK]) rfl (it_reasons l nl r hn hnl hl hr) rfl trivial rfl ?_ ?_ ?_ ?_ ?_ ?_ ?_
  · exact fun pre _ _ => capOk2 (CapOk.box 5 22 _ rfl (by simp)) (CapOk.box 6 25 _ rfl (by simp))
  · exact fun _ => ⟨rfl, rfl⟩
  · simp
  · exact dsFL_ok l r
  ·
   intro pre x hpx hI
   obtain ⟨rfl, hlt⟩ := range_pre hpx
   have hfl : FL l r pre.length = firstL r l[pre.length].conds 0 := FL_at hlt
   have hg : (l.map Rule.cs)[pre.length]? = some [.str l[pre.length].name, .bool l[pre.length].deny, .slice 3 l[pre.length].nc (l[pre.length].conds.map Cond.cs) none, .slice 1 l[pre.length].ns (l[pre.length].scopes.map fun x => [.str x]) none, .int .i64 l[pre.length].lvl, .int .i64 l[pre.length].age] := getM hlt
   have hnf := nl_false hnl hlt
   simp (decide := true) only [setPs_two, dsFL, W, List.map_cons, List.map_nil, ↓reduceIte, Int.reduceToNat]
   refine WP.sr [2, 5, 6, 7, 20] (by kernel_rfl) fun K hK => ?_
   simp (decide := true) only [TF, q1, hfl, hg, hnf, rows0_len, ↓reduceIte, Int.reduceToNat]
   refine hK _ _ ?_; clear hK K
   refine WP.region (by kernel_rfl) fun K hK => ?_
   simp (decide := true) only [TF, q1, hfl, hg, hnf, rows0_len, ↓reduceIte, Int.reduceToNat]
   refine hK _ _ ?_; clear hK K
   show _ ∧ Weak _ _ _
   exact ⟨rfl, Weak.store (by simp [St.get, lk, W, Le.refl, hfl, hnf]) (by simp [lk, W, hnf]) (by simp [lk, W]) (by simp [BClo, lk]; exact fun e he d hd => rows0_clo l r _ e he d hd) (by simp [lk, MK])⟩
  ·
   intro pre x hpx hI
   obtain ⟨rfl, hlt⟩ := range_pre hpx
   have hfl : FL l r pre.length = firstL r l[pre.length].conds 0 := FL_at hlt
   have hg : (l.map Rule.cs)[pre.length]? = some [.str l[pre.length].name, .bool l[pre.length].deny, .slice 3 l[pre.length].nc (l[pre.length].conds.map Cond.cs) none, .slice 1 l[pre.length].ns (l[pre.length].scopes.map fun x => [.str x]) none, .int .i64 l[pre.length].lvl, .int .i64 l[pre.length].age] := getM hlt
   have hnf := nl_false hnl hlt
   simp only [List.cons_append, List.nil_append, List.map_cons, List.map_nil]
   refine WP.block ?_
   refine WP.sr [2, 6, 7, 8] (by kernel_rfl) fun K hK => ?_
   simp (decide := true) only [TF, q1, hfl, hg, hnf, rows0_len, ↓reduceIte, Int.reduceToNat]
   repeat (refine ⟨⟨by (try simp only [List.length_append, List.length_map, rows0_len, List.length_take, List.length_drop, List.length_cons, List.length_nil]); omega, by (try simp only [List.length_append, List.length_map, rows0_len, List.length_take, List.length_drop, List.length_cons, List.length_nil]); omega⟩, ?_⟩)
   refine hK _ _ ?_; clear hK K
   refine WP.region (by kernel_rfl) fun K hK => ?_
   refine runOps.take 2 fun J hJ => ?_
   simp (decide := true) only [TF, q1, hfl, hg, hnf, rows0_len, ↓reduceIte, Int.reduceToNat]
   refine hJ _ _ ?_; clear hJ J
   refine runOps.part 30 rfl (fun q2 => ?_) (fun q2 => ?_)
   ·
    simp (decide := true) only [TF, q1, hfl, hg, hnf, q2, rows0_len, ↓reduceIte, Int.reduceToNat]
    refine hK _ _ ?_; clear hK K
    show _ ∧ Weak _ _ _
    refine ⟨trivial, Weak.store (by simp) ?_ (by simp) ?_ (by simp [lk, MK])⟩
    ·
     have hdn := denyB_succ (r := r) hlt
     simp only [okM, q1, hfl, hg, hnf, q2, Bool.false_and, Bool.and_false, Bool.true_and, Bool.and_true, Bool.true_or, Bool.or_true, Bool.false_or, Bool.or_false] at hdn
     simp [lk, isEA, rows0_succ, rows0_len, row0, hfl, hdn, hnf]
    · simp [BClo, lk, -List.length_append]; exact fun e he d hd => rows0_clo l r _ e he d hd
   ·
    refine runOps.take 3 fun J hJ => ?_
    simp (decide := true) only [TF, q1, hfl, hg, hnf, q2, rows0_len, ↓reduceIte, Int.reduceToNat]
    refine hJ _ _ ?_; clear hJ J
    refine runOps.part 33 rfl (fun q3 => ?_) (fun q3 => ?_)
    ·
     simp (decide := true) only [TF, q1, hfl, hg, hnf, q2, q3, rows0_len, ↓reduceIte, Int.reduceToNat]
     refine hK _ _ ?_; clear hK K
     show _ ∧ Weak _ _ _
     refine ⟨trivial, Weak.store (by simp) ?_ (by simp) ?_ (by simp [lk, MK])⟩
     ·
      have hdn := denyB_succ (r := r) hlt
      simp only [okM, q1, hfl, hg, hnf, q2, q3, Bool.false_and, Bool.and_false, Bool.true_and, Bool.and_true, Bool.true_or, Bool.or_true, Bool.false_or, Bool.or_false] at hdn
      simp [lk, isEA, rows0_succ, rows0_len, row0, hfl, hdn, hnf]
     · simp [BClo, lk, -List.length_append]; exact fun e he d hd => rows0_clo l r _ e he d hd
    ·
     simp (decide := true) only [TF, q1, hfl, hg, hnf, q2, q3, rows0_len, ↓reduceIte, Int.reduceToNat]
     refine hK _ _ ?_; clear hK K
     show _ ∧ Weak _ _ _
     refine ⟨trivial, Weak.store (by simp) ?_ (by simp) ?_ (by simp [lk, MK])⟩
     ·
      have hdn := denyB_succ (r := r) hlt
      simp only [okM, q1, hfl, hg, hnf, q2, q3, Bool.false_and, Bool.and_false, Bool.true_and, Bool.and_true, Bool.true_or, Bool.or_true, Bool.false_or, Bool.or_false] at hdn
      simp [lk, isEA, rows0_succ, rows0_len, row0, hfl, hdn, hnf]
     · simp [BClo, lk, -List.length_append]; exact fun e he d hd => rows0_clo l r _ e he d hd
  ·
   intro hI
   simp only [List.length_range, List.take_length, rows0_emp hlen]
   show WP _ _ _ _ _ _
   refine WP.seq ?_
   refine WP.sr [2, 3, 4, 5, 41] (by kernel_rfl) fun K hK => ?_
   simp (decide := true) only [TF, q1, rows0_len, ↓reduceIte, Int.reduceToNat]
   refine hK _ _ ?_; clear hK K
   refine WP.cond (b := _) rfl (fun q4 => ?_) (fun q4 => ?_)
   ·
    have hX := runD_2 hc0 q4
    refine WP.sr [4, 5] (by kernel_rfl) fun K hK => ?_
    simp (decide := true) only [TF, q1, q4, rows0_len, ↓reduceIte, Int.reduceToNat]
    refine hK _ _ ?_; clear hK K
    refine WP.sr [4] (by kernel_rfl) fun K hK => ?_
    simp (decide := true) only [TF, q1, q4, rows0_len, ↓reduceIte, Int.reduceToNat]
    refine hK _ _ ?_; clear hK K
    refine WP.ret ?_
    exact Ends.pure (.inr rfl) rfl ((by rw [hX, isE_pos hlen]; exact Le.agg ⟨Le.refl _, Le.nil _ _ _, Le.refl _, Le.refl _, rows0_le _ _ _ _, trivial⟩)) (by simp)
   ·
    have hc1 := q4
    refine WP.weak (weak_turn (l := l) (nl := nl) (r := r) rfl rfl rfl rfl (by simp [lk]) (by simp [lk]) (by simp [lk, zeroDec]) (by simp [lk]) (by simp [lk])) ?_
    refine WP.skip ?_
    show WP _ _ _ _ _ _
    refine WP.seq ?_
    refine WP.sr [2, 3, 4, 5, 46] (by kernel_rfl) fun K hK => ?_
    simp (decide := true) only [TF, q1, q4, rows0_len, ↓reduceIte, Int.reduceToNat]
    refine CallK.imp (c_permit_at 3 7 (by decide) l nl r hn hnl hl hr hrs) rfl rfl (by simp [lk, BClo, -List.mem_flatten]; exact rows0_cloF l r _) (by simp [lk]) (by simp [lk]) ?_
    simp (decide := true) only [TF, q1, q4, rows0_len, ↓reduceIte, Int.reduceToNat]
    refine hK _ _ ?_; clear hK K
    refine WP.cond (b := _) rfl (fun q5 => ?_) (fun q5 => ?_)
    ·
     have hX := runD_3 hc0 hc1 q5
     refine WP.sr [4, 5] (by kernel_rfl) fun K hK => ?_
     simp (decide := true) only [TF, q1, q4, q5, rows0_len, ↓reduceIte, Int.reduceToNat]
     refine hK _ _ ?_; clear hK K
     refine WP.sr [4] (by kernel_rfl) fun K hK => ?_
     simp (decide := true) only [TF, q1, q4, q5, rows0_len, ↓reduceIte, Int.reduceToNat]
     refine hK _ _ ?_; clear hK K
     refine WP.weak (weak_dec 7 4 2 (.int .i64 1) (.slice 1 (srtR (psR l r).all).isEmpty ((srtR (psR l r).all).map (fun x => [D.str x])) none) (.int .i64 (psR l r).lvl) (.int .i64 (psR l r).age) ((psR l r).rs) l.length (psR_len l r) (by decide) (by simp [St.get, lk, keep, ins]) (by simp [lk]) (by simp [lk, zeroDec]) (by simp)) ?_
     refine WP.ret ?_
     exact Ends.pure (.inr rfl) rfl ((by rw [hX, isE_pos hlen]; dsimp only [dcsD]; rw [← rowsN_cs]; exact Le.refl _)) (by simp)
    ·
     have hX0 := runD_4 hc0 hc1 q5
     have hp0 := psR_none q5
     simp only [hp0]
     refine WP.weak (st' := ⟨[(5, .ref 3 0), (4, .ref 2 0), (3, .ref 1 0), (2, .ref 0 0)], [(7, .arr 36 (rowsN (reasD l r)).flatten), (3, .box 32 [.int .i64 4, .slice 1 true [] none, .int .i64 0, .int .i64 0, .arr 7 3 l.length]), (2, .box 32 [.int .i64 0, .slice 0 true [] none, .int .i64 0, .int .i64 0, .slice 0 true [] none]), (1, .box 25 [.str r.user, .str r.client, .str r.tenant, .slice 1 r.ng (r.groups.map fun x => [.str x]) none, .slice 1 r.ns (r.scopes.map fun x => [.str x]) none, .int .i64 r.risk, .bool r.trusted, .int .i64 r.level, .int .i64 r.auth, .int .i64 r.now]), (0, .box 22 [.slice 6 nl (l.map Rule.cs) none])]⟩) (Weak.store (by simp [St.get, lk, keep, ins, Le.refl]) (by simp [lk, ps0, srtR_nil, reasD, zeroDec]) (by simp [lk]) (by simp [BClo, lk, zeroDec, -List.mem_flatten]; exact rowsN_clo _) (by simp)) ?_
     refine WP.skip ?_
     show WP _ _ _ _ _ _
     refine WP.seq ?_
     refine WP.sr [2, 3, 4, 5, 51] (by kernel_rfl) fun K hK => ?_
     simp (decide := true) only [TF, q1, q4, q5, rows0_len, ↓reduceIte, Int.reduceToNat]
     refine CallK.imp (c_reasons 8 9 (by decide) l nl r) rfl rfl (by simp) (by simp [lk]) (by simp [lk]) ?_
     simp (decide := true) only [TF, q1, q4, q5, rows0_len, ↓reduceIte, Int.reduceToNat]
     refine hK _ _ ?_; clear hK K
     refine WP.block ?_
     refine WP.rf [2, 3, 4, 5] (fun x => [(9, .ref 10 0), (10, .int .i64 (FL l r x))]) (fun pre => (8, .box 22 [.slice 6 nl (l.map Rule.cs) none]) :: (9, .box 25 [.str r.user, .str r.client, .str r.tenant, .slice 1 r.ng (r.groups.map fun x => [.str x]) none, .slice 1 r.ns (r.scopes.map fun x => [.str x]) none, .int .i64 r.risk, .bool r.trusted, .int .i64 r.level, .int .i64 r.auth, .int .i64 r.now]) :: (7, .arr 36 (rowsN (reasD l r)).flatten) :: (3, .box 32 [.int .i64 4, .slice 1 true [] none, .int .i64 0, .int .i64 0, .arr 7 3 l.length]) :: (2, .box 32 [.int .i64 0, .slice 0 true [] none, .int .i64 0, .int .i64 0, .slice 0 true [] none]) :: (1, .box 25 [.str r.user, .str r.client, .str r.tenant, .slice 1 r.ng (r.groups.map fun x => [.str x]) none, .slice 1 r.ns (r.scopes.map fun x => [.str x]) none, .int .i64 r.risk, .bool r.trusted, .int .i64 r.level, .int .i64 r.auth, .int .i64 r.now]) :: [(0, .box 22 [.slice 6 nl (l.map Rule.cs) none])]) (fun pre x => (10, .box 3 [.int .i64 x]) :: (8, .box 22 [.slice 6 nl (l.map Rule.cs) none]) :: (9, .box 25 [.str r.user, .str r.client, .str r.tenant, .slice 1 r.ng (r.groups.map fun x => [.str x]) none, .slice 1 r.ns (r.scopes.map fun x => [.str x]) none, .int .i64 r.risk, .bool r.trusted, .int .i64 r.level, .int .i64 r.auth, .int .i64 r.now]) :: (7, .arr 36 (rowsN (reasD l r)).flatten) :: (3, .box 32 [.int .i64 4, .slice 1 true [] none, .int .i64 0, .int .i64 0, .arr 7 3 l.length]) :: (2, .box 32 [.int .i64 0, .slice 0 true [] none, .int .i64 0, .int .i64 0, .slice 0 true [] none]) :: (1, .box 25 [.str r.user, .str r.client, .str r.tenant, .slice 1 r.ng (r.groups.map fun x => [.str x]) none, .slice 1 r.ns (r.scopes.map fun x => [.str x]) none, .int .i64 r.risk, .bool r.trusted, .int .i64 r.level, .int .i64 r.auth, .int .i64 r.now]) :: [(0, .box 22 [.slice 6 nl (l.map Rule.cs) none])]) (fun pre => stepD r (dec4 l r) l = stepD r (dec4 l r) (l.drop pre.length)) (dsOf := dsFL l r) (by simp (decide := true) only [W, ↓reduceIte, Int.reduceToNat]; rfl) (by simp [MK]) rfl (it_reasons l nl r hn hnl hl hr) rfl (by simp) rfl ?_ ?_ ?_ ?_ ?_ ?_ ?_
     · exact fun pre _ _ => capOk2 (CapOk.box 8 22 _ rfl (by simp)) (CapOk.box 9 25 _ rfl (by simp))
     · exact fun _ => ⟨rfl, rfl⟩
     · simp
     · exact dsFL_ok l r
     ·
      intro pre x hpx hI
      obtain ⟨hxe, hlt⟩ := range_pre hpx
      have hfl : FL l r x = firstL r l[x].conds 0 := FL_at hlt
      rw [← hxe, dropE hlt] at hI
      simp only [stepD] at hI
      have hg : (l.map Rule.cs)[x]? = some [.str l[x].name, .bool l[x].deny, .slice 3 l[x].nc (l[x].conds.map Cond.cs) none, .slice 1 l[x].ns (l[x].scopes.map fun x => [.str x]) none, .int .i64 l[x].lvl, .int .i64 l[x].age] := getM hlt
      have hnf := nl_false hnl hlt
      simp (decide := true) only [setPs_two, dsFL, W, List.map_cons, List.map_nil, ↓reduceIte, Int.reduceToNat]
      refine WP.sr [2, 3, 4, 5, 9, 53] (by kernel_rfl) fun K hK => ?_
      simp (decide := true) only [TF, q1, q4, q5, hfl, hg, hnf, rows0_len, ↓reduceIte, Int.reduceToNat]
      refine hK _ _ ?_; clear hK K
      refine WP.region (by kernel_rfl) fun K hK => ?_
      simp (decide := true) only [TF, q1, q4, q5, hfl, hg, hnf, rows0_len, ↓reduceIte, Int.reduceToNat]
      refine hK _ _ ?_; clear hK K
      show _ ∧ Weak _ _ _
      exact ⟨rfl, Weak.store (by simp [St.get, lk, W, Le.refl, hfl, hnf]) (by simp [lk, W, hnf]) (by simp [lk, W]) (by simp [BClo, lk, zeroDec, -List.mem_flatten]; exact rowsN_clo _) (by simp [lk, MK])⟩
     ·
      intro pre x hpx hI
      obtain ⟨hxe, hlt⟩ := range_pre hpx
      have hfl : FL l r x = firstL r l[x].conds 0 := FL_at hlt
      rw [← hxe, dropE hlt] at hI
      simp only [stepD] at hI
      have hg : (l.map Rule.cs)[x]? = some [.str l[x].name, .bool l[x].deny, .slice 3 l[x].nc (l[x].conds.map Cond.cs) none, .slice 1 l[x].ns (l[x].scopes.map fun x => [.str x]) none, .int .i64 l[x].lvl, .int .i64 l[x].age] := getM hlt
      have hnf := nl_false hnl hlt
      simp only [List.cons_append, List.nil_append, List.map_cons, List.map_nil]
      refine WP.block ?_
      refine WP.sr [2, 4, 5, 9, 69] (by kernel_rfl) fun K hK => ?_
      refine runOps.take 3 fun J hJ => ?_
      simp (decide := true) only [TF, q1, q4, q5, hfl, hg, hnf, rows0_len, ↓reduceIte, Int.reduceToNat]
      refine hJ _ _ ?_; clear hJ J
      refine runOps.part 56 rfl (fun q6 => ?_) (fun q6 => ?_)
      ·
       refine runOps.take 8 fun J hJ => ?_
       simp (decide := true) only [TF, q1, q4, q5, hfl, hg, hnf, q6, rows0_len, ↓reduceIte, Int.reduceToNat]
       refine hJ _ _ ?_; clear hJ J
       refine runOps.part 64 rfl (fun q7 => ?_) (fun q7 => ?_)
       ·
        simp (decide := true) only [TF, q1, q4, q5, hfl, hg, hnf, q6, q7, rows0_len, ↓reduceIte, Int.reduceToNat]
        refine CallK.imp (c_contfunc_at 10 (by decide) l nl hnl hl x hlt r.scopes r.ns hr.2.2.1 hr.2.2.2 hrs) rfl rfl (by simp [lk, BClo, hnf]) (by simp [lk]) (by simp [lk]) ?_
        simp (decide := true) only [TF, q1, q4, q5, hfl, hg, hnf, q6, q7, rows0_len, ↓reduceIte, Int.reduceToNat]
        refine hK _ _ ?_; clear hK K
        refine WP.cond (b := _) rfl (fun q8 => ?_) (fun q8 => ?_)
        ·
         refine WP.sd [4, 5] (by kernel_rfl) (by kernel_rfl) fun K hK => ?_
         simp (decide := true) only [TF, q1, q4, q5, hfl, hg, hnf, q6, q7, q8, rows0_len, ↓reduceIte, Int.reduceToNat]
         refine hK _ _ (by kernel_rfl) ?_
         clear hK K
         refine WP.exit ?_
         show ∃ T', Weak _ _ _ ∧ WP _ _ _ _ _ _
         have hO : okS r l[x] = true := by simp only [okS, okM, q1, q4, q5, hfl, hg, hnf, q6, q7, q8, Bool.false_and, Bool.and_false, Bool.true_and, Bool.and_true, Bool.not_true, Bool.not_false]
         rw [if_pos hO] at hI
         have hX := hX0.trans hI
         refine ⟨(8, .box 22 [.slice 6 nl (l.map Rule.cs) none]) :: (9, .box 25 [.str r.user, .str r.client, .str r.tenant, .slice 1 r.ng (r.groups.map fun x => [.str x]) none, .slice 1 r.ns (r.scopes.map fun x => [.str x]) none, .int .i64 r.risk, .bool r.trusted, .int .i64 r.level, .int .i64 r.auth, .int .i64 r.now]) :: (7, .arr 36 (rowsN (reasD l r)).flatten) :: (3, .box 32 [.int .i64 3, .slice 1 true [] none, .int .i64 l[x].lvl, .int .i64 l[x].age, .arr 7 3 l.length]) :: (2, .box 32 [.int .i64 0, .slice 0 true [] none, .int .i64 0, .int .i64 0, .slice 0 true [] none]) :: (1, .box 25 [.str r.user, .str r.client, .str r.tenant, .slice 1 r.ng (r.groups.map fun x => [.str x]) none, .slice 1 r.ns (r.scopes.map fun x => [.str x]) none, .int .i64 r.risk, .bool r.trusted, .int .i64 r.level, .int .i64 r.auth, .int .i64 r.now]) :: [(0, .box 22 [.slice 6 nl (l.map Rule.cs) none])], Weak.store (by simp) (by simp [lk, q1, q4, q5, hfl, hg, hnf, q6, q7, q8]) (by simp) (by simp [BClo, lk, zeroDec, -List.mem_flatten]; exact rowsN_clo _) (by simp [lk, MK]), ?_⟩
         refine WP.exit ?_
         show WP _ _ _ _ _ _
         refine WP.sr [4] (by kernel_rfl) fun K hK => ?_
         simp (decide := true) only [TF, q1, q4, q5, hfl, hg, hnf, q6, q7, q8, rows0_len, ↓reduceIte, Int.reduceToNat]
         refine hK _ _ ?_; clear hK K
         refine WP.weak (weak_dec 7 4 2 (.int .i64 3) (.slice 1 true [] none) (.int .i64 l[x].lvl) (.int .i64 l[x].age) (reasD l r) l.length (by simp [reasD]) (by decide) (by simp [St.get, lk, keep, ins]) (by simp [lk]) (by simp [lk, zeroDec]) (by simp)) ?_
         refine WP.ret ?_
         exact Ends.pure (.inr rfl) rfl ((by rw [hX, dec4, isE_pos hlen]; dsimp only [dcsD]; rw [← reasD_cs]; exact Le.refl _)) (by simp)
        ·
         refine WP.skip ?_
         show _ ∧ Weak _ _ _
         have hO : okS r l[x] = false := by simp only [okS, okM, q1, q4, q5, hfl, hg, hnf, q6, q7, q8, Bool.false_and, Bool.and_false, Bool.true_and, Bool.and_true, Bool.not_true, Bool.not_false]
         rw [if_neg (by rw [hO]; decide)] at hI
         refine ⟨?_, Weak.store (by simp) (by simp [lk, q1, q4, q5, hfl, hg, hnf, q6, q7, q8]) (by simp [lk]) (by simp [BClo, lk, -List.mem_flatten]; exact rowsN_clo _) (by simp [lk, MK])⟩
         show stepD r (dec4 l r) l = stepD r (dec4 l r) (l.drop (pre ++ [x]).length)
         rw [List.length_append, ← hxe]; exact hI
       ·
        simp (decide := true) only [TF, q1, q4, q5, hfl, hg, hnf, q6, q7, rows0_len, ↓reduceIte, Int.reduceToNat]
        refine hK _ _ ?_; clear hK K
        refine WP.cond (b := false) (by rfl) nofun (fun _ => ?_)
        refine WP.skip ?_
        show _ ∧ Weak _ _ _
        have hO : okS r l[x] = false := by simp only [okS, okM, q1, q4, q5, hfl, hg, hnf, q6, q7, Bool.false_and, Bool.and_false, Bool.true_and, Bool.and_true, Bool.not_true, Bool.not_false]
        rw [if_neg (by rw [hO]; decide)] at hI
        refine ⟨?_, Weak.store (by simp) (by simp [lk, q1, q4, q5, hfl, hg, hnf, q6, q7]) (by simp [lk]) (by simp [BClo, lk, -List.mem_flatten]; exact rowsN_clo _) (by simp [lk, MK])⟩
        show stepD r (dec4 l r) l = stepD r (dec4 l r) (l.drop (pre ++ [x]).length)
        rw [List.length_append, ← hxe]; exact hI
      ·
       simp (decide := true) only [TF, q1, q4, q5, hfl, hg, hnf, q6, rows0_len, ↓reduceIte, Int.reduceToNat]
       refine hK _ _ ?_; clear hK K
       refine WP.cond (b := false) (by rfl) nofun (fun _ => ?_)
       refine WP.skip ?_
       show _ ∧ Weak _ _ _
       have hO : okS r l[x] = false := by simp only [okS, okM, q1, q4, q5, hfl, hg, hnf, q6, Bool.false_and, Bool.and_false, Bool.true_and, Bool.and_true, Bool.not_true, Bool.not_false]
       rw [if_neg (by rw [hO]; decide)] at hI
       refine ⟨?_, Weak.store (by simp) (by simp [lk, q1, q4, q5, hfl, hg, hnf, q6]) (by simp [lk]) (by simp [BClo, lk, -List.mem_flatten]; exact rowsN_clo _) (by simp [lk, MK])⟩
       show stepD r (dec4 l r) l = stepD r (dec4 l r) (l.drop (pre ++ [x]).length)
       rw [List.length_append, ← hxe]; exact hI
     ·
      intro hI
      rw [List.length_range, dropN (Nat.le_refl _)] at hI
      simp only [stepD] at hI
      have hX := hX0.trans hI
      show WP _ _ _ _ _ _
      refine WP.sr [4] (by kernel_rfl) fun K hK => ?_
      simp (decide := true) only [TF, q1, q4, q5, rows0_len, ↓reduceIte, Int.reduceToNat]
      refine hK _ _ ?_; clear hK K
      refine WP.weak (weak_dec 7 4 2 (.int .i64 4) (.slice 1 true [] none) (.int .i64 0) (.int .i64 0) (reasD l r) l.length (by simp [reasD]) (by decide) (by simp [St.get, lk, keep, ins]) (by simp [lk]) (by simp [lk, zeroDec]) (by simp)) ?_
      refine WP.ret ?_
      exact Ends.pure (.inr rfl) rfl ((by rw [hX, dec4, isE_pos hlen]; dsimp only [dcsD]; rw [← reasD_cs]; exact Le.refl _)) (by simp)
set_option maxHeartbeats 8000000
theorem c_r_run1 (l : List Rule) (nl : Bool) (r : Req) (hn : l.length ≤ 1099511627776) (hnl : nl = true → l = []) (hl : ∀ p ∈ l, p.ok) (hr : r.ok) (hrs : ∀ s ∈ r.scopes, s.length ≤ 1099511627776) (hlen : 0 < l.length) : CallP Pr 13 [.slice 6 nl (l.map Rule.cs) none, .agg [.str r.user, .str r.client, .str r.tenant, .slice 1 r.ng (r.groups.map fun x => [.str x]) none, .slice 1 r.ns (r.scopes.map fun x => [.str x]) none, .int .i64 r.risk, .bool r.trusted, .int .i64 r.level, .int .i64 r.auth, .int .i64 r.now]] (.agg (dcsD (runD l r))) := by
 refine CallP.of_wp Tryz.func13 rfl (by kernel_rfl) Tryz.ntmps13 (by simp) ?_
 simp only [frameOf, Nat.reduceAdd, Nat.zero_add]
 refine WP.sr [0, 3, 4] (by kernel_rfl) fun K hK => ?_
 simp (decide := true) only [TF, lk_dl, okM_eq, ↓reduceIte, Int.reduceToNat]
 refine hK _ _ ?_; clear hK K
 refine WP.seq ?_
 refine WP.sr [0, 3, 4, 14] (by kernel_rfl) fun K hK => ?_
 simp (decide := true) only [TF, lk_dl, okM_eq, ↓reduceIte, Int.reduceToNat]
 refine CallK.pure (c_r_check l nl hn hnl hl) rfl rfl (by simp [-List.map_take]) ?_
 simp (decide := true) only [TF, lk_dl, okM_eq, ↓reduceIte, Int.reduceToNat]
 refine hK _ _ ?_; clear hK K
 refine WP.cond (b := _) rfl (fun q1 => ?_) (fun q1 => ?_)
 ·
  have hX := runD_1 (r := r) q1
  refine WP.sr [4] (by kernel_rfl) fun K hK => ?_
  simp (decide := true) only [TF, q1, lk_dl, okM_eq, ↓reduceIte, Int.reduceToNat]
  refine hK _ _ ?_; clear hK K
  refine WP.ret ?_
  exact Ends.pure (.inr rfl) rfl ((by rw [hX]; exact Le.agg ⟨Le.refl _, Le.nil _ _ _, Le.refl _, Le.refl _, Le.nil _ _ _, trivial⟩)) (by simp)
 ·
  have hc0 := q1
  refine WP.skip ?_
  show WP _ _ _ _ _ _
  refine WP.sr [0, 3, 4, 5] (by kernel_rfl) fun K hK => ?_
  simp (decide := true) only [TF, q1, lk_dl, okM_eq, ↓reduceIte, Int.reduceToNat]
  refine CallK.imp (c_r_reasons 2 l nl r hn hnl hl hr hlen) rfl rfl (by simp) (by simp [lk]) (by simp) ?_
  simp (decide := true) only [TF, q1, lk_dl, okM_eq, ↓reduceIte, Int.reduceToNat]
  refine hK _ _ ?_; clear hK K
  refine WP.seq ?_
  refine WP.sr [0, 3, 4, 5, 6] (by kernel_rfl) fun K hK => ?_
  simp (decide := true) only [TF, q1, lk_dl, okM_eq, ↓reduceIte, Int.reduceToNat]
  refine hK _ _ ?_; clear hK K
  refine WP.block ?_
  refine WP.lp [0, 3, 4, 5] (X := {k : Nat // k ≤ l.length ∧ denyB l r = (l.drop k).any fun p => okM p r && p.deny}) (fun x => match x with | ⟨(k), _⟩ => [(6, .int .i64 k)]) (fun x => match x with | ⟨(k), _⟩ => [(3, .box 32 [.int .i64 4, .slice 0 true [] none, .int .i64 0, .int .i64 0, .arr 2 3 l.length]), (2, .arr 36 (rows0 l r l.length).flatten), (1, .box 32 [.int .i64 0, .slice 0 true [] none, .int .i64 0, .int .i64 0, .slice 0 true [] none]), (0, .box 25 [.str r.user, .str r.client, .str r.tenant, .slice 1 r.ng (r.groups.map fun x => [.str x]) none, .slice 1 r.ns (r.scopes.map fun x => [.str x]) none, .int .i64 r.risk, .bool r.trusted, .int .i64 r.level, .int .i64 r.auth, .int .i64 r.now])]) (fun x => match x with | ⟨(k), _⟩ => l.length - k) (by simp (decide := true) only [W, ↓reduceIte, Int.reduceToNat]; rfl) ?_ ⟨(0), ⟨Nat.zero_le _, by simp [denyB]⟩⟩ ?_
  rotate_left
  · exact Weak.store (by simp [St.get, lk, W, Le.refl, q1]) (by simp [lk, W, q1]) (by simp [lk, W]) (by simp [BClo, lk, -List.mem_flatten]; exact rows0_cloF l r _) (by simp [lk])
  rintro ⟨k, hk, hI⟩
  dsimp only
  simp only [List.cons_append, List.nil_append]
  refine WP.seq ?_
  refine WP.sr [0, 3, 4, 5, 6, 23] (by kernel_rfl) fun K hK => ?_
  simp (decide := true) only [TF, q1, hk, lk_dl, okM_eq, ↓reduceIte, Int.reduceToNat]
  refine hK _ _ ?_; clear hK K
  refine WP.cond (b := _) rfl (fun q2 => ?_) (fun q2 => ?_)
  ·
   have hlt := lt_of_q q2
   have hg : (l.map Rule.cs)[k]? = some [.str l[k].name, .bool l[k].deny, .slice 3 l[k].nc (l[k].conds.map Cond.cs) none, .slice 1 l[k].ns (l[k].scopes.map fun x => [.str x]) none, .int .i64 l[k].lvl, .int .i64 l[k].age] := getM hlt
   have hnf := nl_false hnl hlt
   rw [dropE hlt] at hI
   simp only [List.any_cons] at hI
   refine WP.skip ?_
   show WP _ _ _ _ _ _
   refine WP.seq ?_
   refine WP.block ?_
   refine WP.sd [0, 3, 4, 5, 6, 39] (by kernel_rfl) (by kernel_rfl) fun K hK => ?_
   refine runOps.take 6 fun J hJ => ?_
   simp (decide := true) only [TF, q1, hk, q2, hg, hnf, lk_dl, okM_eq, ↓reduceIte, Int.reduceToNat]
   refine hJ _ _ ?_; clear hJ J
   refine runOps.part 31 rfl (fun q3 => ?_) (fun q3 => ?_)
   ·
    simp (decide := true) only [TF, q1, hk, q2, hg, hnf, q3, lk_dl, okM_eq, ↓reduceIte, Int.reduceToNat]
    refine CallK.pure (c_r_first l[k] r (hl _ (List.getElem_mem hlt)) hr) rfl (by rw [q3]; rfl) (by simp [-List.map_take]) ?_
    simp (decide := true) only [TF, q1, hk, q2, hg, hnf, q3, lk_dl, okM_eq, ↓reduceIte, Int.reduceToNat]
    refine hK _ _ (by kernel_rfl) ?_
    clear hK K
    refine WP.cond (b := _) rfl (fun q4 => ?_) (fun q4 => ?_)
    ·
     have hD : denyB l r = true := by rw [hI]; simp only [okM_eq, q3, q4, Bool.false_and, Bool.and_false, Bool.true_and, Bool.and_true, Bool.true_or, Bool.or_true, Bool.false_or, Bool.or_false]
     have hX := runD_2 hc0 hD
     refine WP.sr [4, 5] (by kernel_rfl) fun K hK => ?_
     simp (decide := true) only [TF, q1, hk, q2, hg, hnf, q3, q4, lk_dl, okM_eq, ↓reduceIte, Int.reduceToNat]
     refine hK _ _ ?_; clear hK K
     refine WP.sr [4] (by kernel_rfl) fun K hK => ?_
     simp (decide := true) only [TF, q1, hk, q2, hg, hnf, q3, q4, lk_dl, okM_eq, ↓reduceIte, Int.reduceToNat]
     refine hK _ _ ?_; clear hK K
     refine WP.weak (Weak.arrN 2 36 (rows0 l r l.length).flatten (rowsN (reasD l r)).flatten (by simp [lk, lk_dl]) (rows0_nrm l r l.length)) ?_
     refine WP.weak (weak_dec 2 4 1 (.int .i64 2) (.slice 0 true [] none) (.int .i64 0) (.int .i64 0) (reasD l r) l.length (by simp [reasD]) (by decide) (by simp [St.get, lk, keep, ins]) (by simp [lk, lk_dl]) (by simp [lk, lk_dl, zeroDec]) (by simp)) ?_
     refine WP.ret ?_
     exact Ends.pure (.inr rfl) rfl ((by rw [hX, isE_pos hlen]; dsimp only [dcsD]; rw [← reasD_cs]; exact Le.agg ⟨Le.refl _, Le.nil _ _ _, Le.refl _, Le.refl _, Le.refl _, trivial⟩)) (by simp)
    ·
     refine WP.skip ?_
     show WP _ _ _ _ _ _
     refine WP.region (by kernel_rfl) fun K hK => ?_
     simp (decide := true) only [TF, q1, hk, q2, hg, hnf, q3, q4, lk_dl, okM_eq, ↓reduceIte, Int.reduceToNat]
     refine hK _ _ ?_; clear hK K
     show ∃ y, _ ∧ Weak _ _ _
     have hD : (okM l[k] r && l[k].deny) = false := by simp only [q3, q4, Bool.false_and, Bool.and_false, Bool.true_and, Bool.and_true, Bool.true_or, Bool.or_true, Bool.false_or, Bool.or_false]
     rw [hD, Bool.false_or] at hI
     refine ⟨⟨k + 1, ?_⟩, ?_, ?_⟩
     · exact ⟨by omega, hI⟩
     · dsimp only; omega
     · exact Weak.store (by simp [St.get, lk, W, Le.refl, q1, hk, q2, hg, hnf, q3, q4, wrapS hlt (show l.length ≤ 140737488355328 by omega)]) (by simp [lk, W, q1, hk, q2, hg, hnf, q3, q4]) (by simp [lk, W]) (by simp [BClo, lk, -List.mem_flatten]; exact rows0_cloF l r _) (by simp [lk])
   ·
    simp (decide := true) only [TF, q1, hk, q2, hg, hnf, q3, lk_dl, okM_eq, ↓reduceIte, Int.reduceToNat]
    refine hK _ _ (by kernel_rfl) ?_
    clear hK K
    refine WP.cond (b := false) (by rfl) nofun (fun _ => ?_)
    refine WP.skip ?_
    show WP _ _ _ _ _ _
    refine WP.region (by kernel_rfl) fun K hK => ?_
    simp (decide := true) only [TF, q1, hk, q2, hg, hnf, q3, lk_dl, okM_eq, ↓reduceIte, Int.reduceToNat]
    refine hK _ _ ?_; clear hK K
    show ∃ y, _ ∧ Weak _ _ _
    have hD : (okM l[k] r && l[k].deny) = false := by simp only [q2, q3, Bool.false_and, Bool.and_false, Bool.true_and, Bool.and_true, Bool.true_or, Bool.or_true, Bool.false_or, Bool.or_false]
    rw [hD, Bool.false_or] at hI
    refine ⟨⟨k + 1, ?_⟩, ?_, ?_⟩
    · exact ⟨by omega, hI⟩
    · dsimp only; omega
    · exact Weak.store (by simp [St.get, lk, W, Le.refl, q1, hk, q2, hg, hnf, q3, wrapS hlt (show l.length ≤ 140737488355328 by omega)]) (by simp [lk, W, q1, hk, q2, hg, hnf, q3]) (by simp [lk, W]) (by simp [BClo, lk, -List.mem_flatten]; exact rows0_cloF l r _) (by simp [lk])
  ·
   have hge := ge_of_q q2
   rw [dropN hge] at hI
   simp only [List.any_nil] at hI
   have hc1 := hI
   refine WP.exit ?_
   show WP _ _ _ _ _ _
   refine WP.sr [0, 3, 4, 5, 7] (by kernel_rfl) fun K hK => ?_
   simp (decide := true) only [TF, q1, hk, q2, lk_dl, okM_eq, ↓reduceIte, Int.reduceToNat]
   refine hK _ _ ?_; clear hK K
   refine WP.seq ?_
   refine WP.sr [0, 3, 4, 5, 7, 8] (by kernel_rfl) fun K hK => ?_
   simp (decide := true) only [TF, q1, hk, q2, lk_dl, okM_eq, ↓reduceIte, Int.reduceToNat]
   refine hK _ _ ?_; clear hK K
   refine WP.block ?_
   refine WP.lp [0, 3, 4, 5] (X := {x : (Nat) × (PS) // match x with | (k, q) => k ≤ r.scopes.length ∧ PJ l r k q}) (fun x => match x with | ⟨(k, q), _⟩ => [(7, .slice 1 (q.all).isEmpty ((q.all).map (fun x => [D.str x])) (some 4)), (8, .int .i64 k)]) (fun x => match x with | ⟨(k, q), _⟩ => (4, .tip 9 1 q.all.length) :: (3, .box 32 [.int .i64 4, .slice 0 true [] none, .int .i64 q.lvl, .int .i64 q.age, .arr 2 3 l.length]) :: (2, .arr 36 (rowsT 100 q.rs).flatten) :: (1, .box 32 [.int .i64 0, .slice 0 true [] none, .int .i64 0, .int .i64 0, .slice 0 true [] none]) :: (0, .box 25 [.str r.user, .str r.client, .str r.tenant, .slice 1 r.ng (r.groups.map fun x => [.str x]) none, .slice 1 r.ns (r.scopes.map fun x => [.str x]) none, .int .i64 r.risk, .bool r.trusted, .int .i64 r.level, .int .i64 r.auth, .int .i64 r.now]) :: fam 100 q.rs) (fun x => match x with | ⟨(k, q), _⟩ => r.scopes.length - k) (by simp (decide := true) only [W, ↓reduceIte, Int.reduceToNat]; rfl) ?_ ⟨(0, ps0 l r), ⟨Nat.zero_le _, PJ.start l r⟩⟩ ?_
   rotate_left
   · refine weak_rows (l := l) (r := r) 4 2 100 (F1 := [(8, .int .i64 0), (7, .slice 1 true [] (some 4)), (5, .ref 3 0), (4, .ref 1 0), (3, .ref 0 0), (0, .slice 6 nl (l.map Rule.cs) none)]) (by simp [lk]) (by intro k hk; simp only [lk]; rw [if_neg (by omega), if_neg (by omega), if_neg (by omega), if_neg (by omega)]) (by simp [lk]) (by decide) (by simp [UpF, UpD, lk, W, keep, ins]) (by simp [St.get, lk, Le.refl, ps0]) (fun i => ?_); by_cases i0 : i = 0; simp [i0, lk, ps0]; by_cases i1 : i = 1; simp [i1, lk, ps0]; by_cases i2 : i = 2; simp [i2, lk]; by_cases i3 : i = 3; simp [i3, lk, ps0]; by_cases i4 : i = 4; simp [i4, lk, ps0]; simp only [lk, i0, i1, i2, i3, i4, ↓reduceIte]; rw [fam_0 _ _ _ (by simp [ps0, mkR])]; simp [ps0, i0, i1, i2, i3, i4]
   rintro ⟨⟨k, q⟩, hk, hP⟩
   dsimp only
   simp only [List.cons_append, List.nil_append]
   refine WP.seq ?_
   refine WP.sr [0, 3, 4, 5, 7, 8, 46] (by kernel_rfl) fun K hK => ?_
   simp (decide := true) only [TF, q1, hk, q2, lk_dl, okM_eq, ↓reduceIte, Int.reduceToNat]
   refine hK _ _ ?_; clear hK K
   refine WP.cond (b := _) rfl (fun q5 => ?_) (fun q5 => ?_)
   ·
    have hlt := lt_of_q q5
    have hg : (r.scopes.map (fun x => [D.str x]))[k]? = some [.str r.scopes[k]] := getM hlt
    have hnf := nl_false hr.2.2.2 hlt
    have hsk := hrs _ (List.getElem_mem hlt)
    refine WP.skip ?_
    show WP _ _ _ _ _ _
    refine WP.seq ?_
    refine WP.block ?_
    refine WP.sd [0, 3, 4, 5, 7, 8, 9] (by kernel_rfl) (by kernel_rfl) fun K hK => ?_
    simp (decide := true) only [TF, q1, hk, q2, q5, hg, hnf, lk_dl, okM_eq, ↓reduceIte, Int.reduceToNat]
    refine CallK.pure (c_r_granting l nl r hn hnl hl hr r.scopes[k] hsk) rfl (by simp only [hnf]; rfl) (by simp [-List.map_take]) ?_
    simp (decide := true) only [TF, q1, hk, q2, q5, hg, hnf, lk_dl, okM_eq, ↓reduceIte, Int.reduceToNat]
    refine hK _ _ (by kernel_rfl) ?_
    clear hK K
    refine WP.seq ?_
    refine WP.sr [0, 3, 4, 5, 7, 8, 9, 67] (by kernel_rfl) fun K hK => ?_
    refine runOps.take 3 fun J hJ => ?_
    simp (decide := true) only [TF, q1, hk, q2, q5, hg, hnf, lk_dl, okM_eq, ↓reduceIte, Int.reduceToNat]
    refine hJ _ _ ?_; clear hJ J
    refine runOps.part 59 rfl (fun q6 => ?_) (fun q6 => ?_)
    ·
     simp (decide := true) only [TF, q1, hk, q2, q5, hg, hnf, q6, lk_dl, okM_eq, ↓reduceIte, Int.reduceToNat]
     refine hK _ _ ?_; clear hK K
     refine WP.cond (b := true) (by rfl) (fun _ => ?_) nofun
     refine WP.exit ?_
     show WP _ _ _ _ _ _
     refine WP.region (by kernel_rfl) fun K hK => ?_
     simp (decide := true) only [TF, q1, hk, q2, q5, hg, hnf, q6, lk_dl, okM_eq, ↓reduceIte, Int.reduceToNat]
     refine hK _ _ ?_; clear hK K
     show ∃ y, _ ∧ Weak _ _ _
     refine ⟨⟨(k + 1, rStep l r q r.scopes[k]), ⟨hlt, hP.next hlt⟩⟩, ?_, ?_⟩
     · dsimp only; omega
     ·
      have hq := rStep_no (l := l) (r := r) (q := q) (s := r.scopes[k]) (by simp only [q1, q2, q5, q6, Bool.false_and, Bool.and_false, Bool.true_and, Bool.and_true, Bool.true_or, Bool.or_true, Bool.false_or, Bool.or_false])
      dsimp only; rw [hq]; exact Weak.of_lk (by simp [St.get, lk, Le.refl, hg, hnf, wrapS hlt (show r.scopes.length ≤ 140737488355328 by have := hr.2.2.1; omega)]) (by intro j; simp only [hnf])
    ·
     simp (decide := true) only [TF, q1, hk, q2, q5, hg, hnf, q6, lk_dl, okM_eq, ↓reduceIte, Int.reduceToNat]
     refine CallK.pure (c_r_within q.all q.all.isEmpty r.scopes[k] (by have := hP.alen; have := hr.2.2.1; omega) (fun h => by simpa using h)) rfl rfl (by simp [-List.map_take]) ?_
     simp (decide := true) only [TF, q1, hk, q2, q5, hg, hnf, q6, lk_dl, okM_eq, ↓reduceIte, Int.reduceToNat]
     refine hK _ _ ?_; clear hK K
     refine WP.cond (b := _) rfl (fun q7 => ?_) (fun q7 => ?_)
     ·
      refine WP.exit ?_
      show WP _ _ _ _ _ _
      refine WP.region (by kernel_rfl) fun K hK => ?_
      simp (decide := true) only [TF, q1, hk, q2, q5, hg, hnf, q6, q7, lk_dl, okM_eq, ↓reduceIte, Int.reduceToNat]
      refine hK _ _ ?_; clear hK K
      show ∃ y, _ ∧ Weak _ _ _
      refine ⟨⟨(k + 1, rStep l r q r.scopes[k]), ⟨hlt, hP.next hlt⟩⟩, ?_, ?_⟩
      · dsimp only; omega
      ·
       have hq := rStep_no (l := l) (r := r) (q := q) (s := r.scopes[k]) (by simp only [q1, q2, q5, q6, q7, Bool.false_and, Bool.and_false, Bool.true_and, Bool.and_true, Bool.true_or, Bool.or_true, Bool.false_or, Bool.or_false])
       dsimp only; rw [hq]; exact Weak.of_lk (by simp [St.get, lk, Le.refl, hg, hnf, wrapS hlt (show r.scopes.length ≤ 140737488355328 by have := hr.2.2.1; omega)]) (by intro j; simp only [hnf])
     ·
      have hb0 := q7
      obtain ⟨i, hil, hgi⟩ := grP_at q6
      have hq := rStep_at (q := q) hil hgi q7
      have hiq : i < q.rs.length := by rw [hP.len]; exact hil
      have hgl : (l.map Rule.cs)[i]? = some [.str l[i].name, .bool l[i].deny, .slice 3 l[i].nc (l[i].conds.map Cond.cs) none, .slice 1 l[i].ns (l[i].scopes.map fun x => [.str x]) none, .int .i64 l[i].lvl, .int .i64 l[i].age] := getM hil
      have hnfl := nl_false hnl hil
      have hD2 := rowsT_drop q.rs 100 i hiq
      have hfa := fam_at q.rs 100 i hiq
      have hL3 : (i * 3 + 2 + 1 ≤ (rowsT 100 q.rs).flatten.length) = True := by rw [rowsT_flen]; simp; omega
      have hil3 : (i < l.length) = True := by simp [hil]
      have n0 : (100 + i = 0) = False := eq_false (by omega)
      have n1 : (100 + i = 1) = False := eq_false (by omega)
      have n2 : (100 + i = 2) = False := eq_false (by omega)
      have n3 : (100 + i = 3) = False := eq_false (by omega)
      have n4 : (100 + i = 4) = False := eq_false (by omega)
      have m0 : (0 = 100 + i) = False := eq_false (by omega)
      have m1 : (1 = 100 + i) = False := eq_false (by omega)
      have m2 : (2 = 100 + i) = False := eq_false (by omega)
      have m3 : (3 = 100 + i) = False := eq_false (by omega)
      have m4 : (4 = 100 + i) = False := eq_false (by omega)
      have mx : (max (2 + 1) (max (1 + 1) 1) = 100 + i) = False := eq_false (by omega)
      have hrl := hP.rlen _ (List.getElem_mem hiq)
      have hal := hP.alen
      have hsc := hr.2.2.1
      have hfr : 100 + i < fresh (dl (fam 100 q.rs) 4) := Nat.lt_of_not_le fun h => by have := fresh_lt _ (100 + i) h; rw [lk_dl, if_neg (by omega), hfa] at this; cases this
      refine WP.skip ?_
      show WP _ _ _ _ _ _
      refine WP.sr [0, 3, 4, 5, 7, 8, 9] (by kernel_rfl) fun K hK => ?_
      simp (decide := true) only [TF, q1, hk, q2, q5, hg, hnf, q6, q7, mx, hgi, hgl, hnfl, hD2, hfa, hL3, hil3, n0, n1, n2, n3, n4, m0, m1, m2, m3, m4, lk_dl, okM_eq, ↓reduceIte, Int.reduceToNat]
      repeat (refine ⟨⟨by (try simp only [List.length_append, List.length_map, List.length_take, List.length_drop, List.length_cons, List.length_nil]); omega, by (try simp only [List.length_append, List.length_map, List.length_take, List.length_drop, List.length_cons, List.length_nil]); omega⟩, ?_⟩)
      refine hK _ _ ?_; clear hK K
      refine WP.sd [0, 3, 4, 5, 7, 8, 9] (by kernel_rfl) (by kernel_rfl) fun K hK => ?_
      simp (decide := true) only [TF, q1, hk, q2, q5, hg, hnf, q6, q7, mx, hgi, hgl, hnfl, hD2, hfa, hL3, hil3, n0, n1, n2, n3, n4, m0, m1, m2, m3, m4, lk_dl, okM_eq, ↓reduceIte, Int.reduceToNat]
      repeat (refine ⟨⟨by (try simp only [List.length_append, List.length_map, List.length_take, List.length_drop, List.length_cons, List.length_nil]); omega, by (try simp only [List.length_append, List.length_map, List.length_take, List.length_drop, List.length_cons, List.length_nil]); omega⟩, ?_⟩)
      refine hK _ _ (bern_names [0, 3, 2, max (4 + 1) (max (3 + 1) (max (2 + 1) (max (1 + 1) (max 1 (fresh (dl (fam 100 q.rs) 4)))))), 100 + i] (by simp; omega) [([], []), ([1], []), ([], []), ([], []), ([1], []), ([], []), ([], []), ([], []), ([2], []), ([], []), ([0], []), ([], []), ([], []), ([], []), ([], []), ([3, 4], [4]), ([], []), ([], []), ([2], [2])] (by kernel_rfl) (fun f hf => by have e0 := hf 0 _ rfl; have e1 := hf 1 _ rfl; have e2 := hf 2 _ rfl; have e3 := hf 3 _ rfl; have e4 := hf 4 _ rfl; (simp only [List.map_cons, List.map_nil, keysX, e0, e1, e2, e3, e4]) <;> rfl)) ?_
      clear hK K
      refine WP.seq ?_
      refine WP.sd [0, 3, 4, 5, 7, 8, 9, 101] (by kernel_rfl) (by kernel_rfl) fun K hK => ?_
      simp (decide := true) only [TF, q1, hk, q2, q5, hg, hnf, q6, q7, mx, hgi, hgl, hnfl, hD2, hfa, hL3, hil3, n0, n1, n2, n3, n4, m0, m1, m2, m3, m4, lk_dl, okM_eq, ↓reduceIte, Int.reduceToNat]
      refine hK _ _ (by kernel_rfl) ?_
      clear hK K
      refine WP.cond (b := _) rfl (fun q8 => ?_) (fun q8 => ?_)
      ·
       refine WP.region (by kernel_rfl) fun K hK => ?_
       simp (decide := true) only [TF, q1, hk, q2, q5, hg, hnf, q6, q7, mx, hgi, hgl, hnfl, hD2, hfa, hL3, hil3, n0, n1, n2, n3, n4, m0, m1, m2, m3, m4, q8, lk_dl, okM_eq, ↓reduceIte, Int.reduceToNat]
       refine hK _ _ ?_; clear hK K
       show WP _ _ _ _ _ _
       refine WP.sd [0, 3, 4, 5, 7, 8, 9, 128] (by kernel_rfl) (by kernel_rfl) fun K hK => ?_
       refine runOps.take 7 fun J hJ => ?_
       simp (decide := true) only [TF, q1, hk, q2, q5, hg, hnf, q6, q7, mx, hgi, hgl, hnfl, hD2, hfa, hL3, hil3, n0, n1, n2, n3, n4, m0, m1, m2, m3, m4, q8, lk_dl, okM_eq, ↓reduceIte, Int.reduceToNat]
       refine hJ _ _ ?_; clear hJ J
       refine runOps.part 114 rfl (fun q9 => ?_) (fun q9 => ?_)
       ·
        refine runOps.take 4 fun J hJ => ?_
        simp (decide := true) only [TF, q1, hk, q2, q5, hg, hnf, q6, q7, mx, hgi, hgl, hnfl, hD2, hfa, hL3, hil3, n0, n1, n2, n3, n4, m0, m1, m2, m3, m4, q8, q9, lk_dl, okM_eq, ↓reduceIte, Int.reduceToNat]
        refine hJ _ _ ?_; clear hJ J
        refine runOps.part 118 rfl (fun q10 => ?_) (fun q10 => ?_)
        ·
         simp (decide := true) only [TF, q1, hk, q2, q5, hg, hnf, q6, q7, mx, hgi, hgl, hnfl, hD2, hfa, hL3, hil3, n0, n1, n2, n3, n4, m0, m1, m2, m3, m4, q8, q9, q10, lk_dl, okM_eq, ↓reduceIte, Int.reduceToNat]
         refine hK _ _ (by kernel_rfl) ?_
         clear hK K
         refine WP.cond (b := true) (by rfl) (fun _ => ?_) nofun
         refine WP.region (by kernel_rfl) fun K hK => ?_
         simp (decide := true) only [TF, q1, hk, q2, q5, hg, hnf, q6, q7, mx, hgi, hgl, hnfl, hD2, hfa, hL3, hil3, n0, n1, n2, n3, n4, m0, m1, m2, m3, m4, q8, q9, q10, lk_dl, okM_eq, ↓reduceIte, Int.reduceToNat]
         refine hK _ _ ?_; clear hK K
         show WP _ _ _ _ _ _
         refine WP.region (by kernel_rfl) fun K hK => ?_
         simp (decide := true) only [TF, q1, hk, q2, q5, hg, hnf, q6, q7, mx, hgi, hgl, hnfl, hD2, hfa, hL3, hil3, n0, n1, n2, n3, n4, m0, m1, m2, m3, m4, q8, q9, q10, lk_dl, okM_eq, ↓reduceIte, Int.reduceToNat]
         refine hK _ _ ?_; clear hK K
         show ∃ y, _ ∧ Weak _ _ _
         refine ⟨⟨(k + 1, rStep l r q r.scopes[k]), ⟨hlt, hP.next hlt⟩⟩, ?_, ?_⟩
         · dsimp only; omega
         ·
          dsimp only; rw [hq]; dsimp only
          have hag : ageU q.age l[i].age = l[i].age := by simp only [ageU, q1, q2, q5, q6, q7, q8, q9, q10, Bool.false_and, Bool.and_false, Bool.true_and, Bool.and_true, Bool.true_or, Bool.or_true, Bool.false_or, Bool.or_false, ↓reduceIte, Bool.false_eq_true]
          have hlv : lvlU q.lvl l[i].lvl = l[i].lvl := by unfold lvlU; rw [if_pos (by have := of_decide_eq_true q8; omega)]
          rw [hag, hlv]
          refine Weak.of_lk (by simp [St.get, lk, Le.refl, isEA, hnf, hnfl, wrapS hlt (show r.scopes.length ≤ 140737488355328 by have := hr.2.2.1; omega)]) (fun j => ?_)
          by_cases j0 : j = 0
          · subst j0; simp [lk, lk_dl, m0, hnf]
          by_cases j1 : j = 1
          · subst j1; simp [lk, lk_dl, m1]
          by_cases j2 : j = 2
          · subst j2; simp (decide := true) only [lk, lk_dl, ↓reduceIte, m2, List.isEmpty_cons, Bool.and_false]; rw [rows_setU (b := 100) hiq]
          by_cases j3 : j = 3
          · subst j3; simp [lk, lk_dl, m3]
          by_cases j4 : j = 4
          · subst j4; simp [lk, lk_dl, m4]
          simp only [lk, lk_dl, j0, j1, j2, j3, j4, ↓reduceIte]
          rw [fam_setU hiq]
          by_cases ji : j = 100 + i
          · rw [if_pos ji]; simp [ji, lk_dl, n0, n1, n2, n3, n4]
          · simp [ji, lk_dl, j0, j1, j2, j3, j4]
        ·
         simp (decide := true) only [TF, q1, hk, q2, q5, hg, hnf, q6, q7, mx, hgi, hgl, hnfl, hD2, hfa, hL3, hil3, n0, n1, n2, n3, n4, m0, m1, m2, m3, m4, q8, q9, q10, lk_dl, okM_eq, ↓reduceIte, Int.reduceToNat]
         refine hK _ _ (by kernel_rfl) ?_
         clear hK K
         refine WP.cond (b := _) rfl (fun q11 => ?_) (fun q11 => ?_)
         ·
          refine WP.region (by kernel_rfl) fun K hK => ?_
          simp (decide := true) only [TF, q1, hk, q2, q5, hg, hnf, q6, q7, mx, hgi, hgl, hnfl, hD2, hfa, hL3, hil3, n0, n1, n2, n3, n4, m0, m1, m2, m3, m4, q8, q9, q10, q11, lk_dl, okM_eq, ↓reduceIte, Int.reduceToNat]
          refine hK _ _ ?_; clear hK K
          show WP _ _ _ _ _ _
          refine WP.region (by kernel_rfl) fun K hK => ?_
          simp (decide := true) only [TF, q1, hk, q2, q5, hg, hnf, q6, q7, mx, hgi, hgl, hnfl, hD2, hfa, hL3, hil3, n0, n1, n2, n3, n4, m0, m1, m2, m3, m4, q8, q9, q10, q11, lk_dl, okM_eq, ↓reduceIte, Int.reduceToNat]
          refine hK _ _ ?_; clear hK K
          show ∃ y, _ ∧ Weak _ _ _
          refine ⟨⟨(k + 1, rStep l r q r.scopes[k]), ⟨hlt, hP.next hlt⟩⟩, ?_, ?_⟩
          · dsimp only; omega
          ·
           dsimp only; rw [hq]; dsimp only
           have hag : ageU q.age l[i].age = l[i].age := by simp only [ageU, q1, q2, q5, q6, q7, q8, q9, q10, q11, Bool.false_and, Bool.and_false, Bool.true_and, Bool.and_true, Bool.true_or, Bool.or_true, Bool.false_or, Bool.or_false, ↓reduceIte, Bool.false_eq_true]
           have hlv : lvlU q.lvl l[i].lvl = l[i].lvl := by unfold lvlU; rw [if_pos (by have := of_decide_eq_true q8; omega)]
           rw [hag, hlv]
           refine Weak.of_lk (by simp [St.get, lk, Le.refl, isEA, hnf, hnfl, wrapS hlt (show r.scopes.length ≤ 140737488355328 by have := hr.2.2.1; omega)]) (fun j => ?_)
           by_cases j0 : j = 0
           · subst j0; simp [lk, lk_dl, m0, hnf]
           by_cases j1 : j = 1
           · subst j1; simp [lk, lk_dl, m1]
           by_cases j2 : j = 2
           · subst j2; simp (decide := true) only [lk, lk_dl, ↓reduceIte, m2, List.isEmpty_cons, Bool.and_false]; rw [rows_setU (b := 100) hiq]
           by_cases j3 : j = 3
           · subst j3; simp [lk, lk_dl, m3]
           by_cases j4 : j = 4
           · subst j4; simp [lk, lk_dl, m4]
           simp only [lk, lk_dl, j0, j1, j2, j3, j4, ↓reduceIte]
           rw [fam_setU hiq]
           by_cases ji : j = 100 + i
           · rw [if_pos ji]; simp [ji, lk_dl, n0, n1, n2, n3, n4]
           · simp [ji, lk_dl, j0, j1, j2, j3, j4]
         ·
          refine WP.skip ?_
          show WP _ _ _ _ _ _
          refine WP.region (by kernel_rfl) fun K hK => ?_
          simp (decide := true) only [TF, q1, hk, q2, q5, hg, hnf, q6, q7, mx, hgi, hgl, hnfl, hD2, hfa, hL3, hil3, n0, n1, n2, n3, n4, m0, m1, m2, m3, m4, q8, q9, q10, q11, lk_dl, okM_eq, ↓reduceIte, Int.reduceToNat]
          refine hK _ _ ?_; clear hK K
          show ∃ y, _ ∧ Weak _ _ _
          refine ⟨⟨(k + 1, rStep l r q r.scopes[k]), ⟨hlt, hP.next hlt⟩⟩, ?_, ?_⟩
          · dsimp only; omega
          ·
           dsimp only; rw [hq]; dsimp only
           have hag : ageU q.age l[i].age = q.age := by simp only [ageU, q1, q2, q5, q6, q7, q8, q9, q10, q11, Bool.false_and, Bool.and_false, Bool.true_and, Bool.and_true, Bool.true_or, Bool.or_true, Bool.false_or, Bool.or_false, ↓reduceIte, Bool.false_eq_true]
           have hlv : lvlU q.lvl l[i].lvl = l[i].lvl := by unfold lvlU; rw [if_pos (by have := of_decide_eq_true q8; omega)]
           rw [hag, hlv]
           refine Weak.of_lk (by simp [St.get, lk, Le.refl, isEA, hnf, hnfl, wrapS hlt (show r.scopes.length ≤ 140737488355328 by have := hr.2.2.1; omega)]) (fun j => ?_)
           by_cases j0 : j = 0
           · subst j0; simp [lk, lk_dl, m0, hnf]
           by_cases j1 : j = 1
           · subst j1; simp [lk, lk_dl, m1]
           by_cases j2 : j = 2
           · subst j2; simp (decide := true) only [lk, lk_dl, ↓reduceIte, m2, List.isEmpty_cons, Bool.and_false]; rw [rows_setU (b := 100) hiq]
           by_cases j3 : j = 3
           · subst j3; simp [lk, lk_dl, m3]
           by_cases j4 : j = 4
           · subst j4; simp [lk, lk_dl, m4]
           simp only [lk, lk_dl, j0, j1, j2, j3, j4, ↓reduceIte]
           rw [fam_setU hiq]
           by_cases ji : j = 100 + i
           · rw [if_pos ji]; simp [ji, lk_dl, n0, n1, n2, n3, n4]
           · simp [ji, lk_dl, j0, j1, j2, j3, j4]
       ·
        simp (decide := true) only [TF, q1, hk, q2, q5, hg, hnf, q6, q7, mx, hgi, hgl, hnfl, hD2, hfa, hL3, hil3, n0, n1, n2, n3, n4, m0, m1, m2, m3, m4, q8, q9, lk_dl, okM_eq, ↓reduceIte, Int.reduceToNat]
        refine hK _ _ (by kernel_rfl) ?_
        clear hK K
        refine WP.cond (b := false) (by rfl) nofun (fun _ => ?_)
        refine WP.skip ?_
        show WP _ _ _ _ _ _
        refine WP.region (by kernel_rfl) fun K hK => ?_
        simp (decide := true) only [TF, q1, hk, q2, q5, hg, hnf, q6, q7, mx, hgi, hgl, hnfl, hD2, hfa, hL3, hil3, n0, n1, n2, n3, n4, m0, m1, m2, m3, m4, q8, q9, lk_dl, okM_eq, ↓reduceIte, Int.reduceToNat]
        refine hK _ _ ?_; clear hK K
        show ∃ y, _ ∧ Weak _ _ _
        refine ⟨⟨(k + 1, rStep l r q r.scopes[k]), ⟨hlt, hP.next hlt⟩⟩, ?_, ?_⟩
        · dsimp only; omega
        ·
         dsimp only; rw [hq]; dsimp only
         have hag : ageU q.age l[i].age = q.age := by simp only [ageU, q1, q2, q5, q6, q7, q8, q9, Bool.false_and, Bool.and_false, Bool.true_and, Bool.and_true, Bool.true_or, Bool.or_true, Bool.false_or, Bool.or_false, ↓reduceIte, Bool.false_eq_true]
         have hlv : lvlU q.lvl l[i].lvl = l[i].lvl := by unfold lvlU; rw [if_pos (by have := of_decide_eq_true q8; omega)]
         rw [hag, hlv]
         refine Weak.of_lk (by simp [St.get, lk, Le.refl, isEA, hnf, hnfl, wrapS hlt (show r.scopes.length ≤ 140737488355328 by have := hr.2.2.1; omega)]) (fun j => ?_)
         by_cases j0 : j = 0
         · subst j0; simp [lk, lk_dl, m0, hnf]
         by_cases j1 : j = 1
         · subst j1; simp [lk, lk_dl, m1]
         by_cases j2 : j = 2
         · subst j2; simp (decide := true) only [lk, lk_dl, ↓reduceIte, m2, List.isEmpty_cons, Bool.and_false]; rw [rows_setU (b := 100) hiq]
         by_cases j3 : j = 3
         · subst j3; simp [lk, lk_dl, m3]
         by_cases j4 : j = 4
         · subst j4; simp [lk, lk_dl, m4]
         simp only [lk, lk_dl, j0, j1, j2, j3, j4, ↓reduceIte]
         rw [fam_setU hiq]
         by_cases ji : j = 100 + i
         · rw [if_pos ji]; simp [ji, lk_dl, n0, n1, n2, n3, n4]
         · simp [ji, lk_dl, j0, j1, j2, j3, j4]
      ·
       refine WP.skip ?_
       show WP _ _ _ _ _ _
       refine WP.sd [0, 3, 4, 5, 7, 8, 9, 128] (by kernel_rfl) (by kernel_rfl) fun K hK => ?_
       refine runOps.take 7 fun J hJ => ?_
       simp (decide := true) only [TF, q1, hk, q2, q5, hg, hnf, q6, q7, mx, hgi, hgl, hnfl, hD2, hfa, hL3, hil3, n0, n1, n2, n3, n4, m0, m1, m2, m3, m4, q8, lk_dl, okM_eq, ↓reduceIte, Int.reduceToNat]
       refine hJ _ _ ?_; clear hJ J
       refine runOps.part 114 rfl (fun q12 => ?_) (fun q12 => ?_)
       ·
        refine runOps.take 4 fun J hJ => ?_
        simp (decide := true) only [TF, q1, hk, q2, q5, hg, hnf, q6, q7, mx, hgi, hgl, hnfl, hD2, hfa, hL3, hil3, n0, n1, n2, n3, n4, m0, m1, m2, m3, m4, q8, q12, lk_dl, okM_eq, ↓reduceIte, Int.reduceToNat]
        refine hJ _ _ ?_; clear hJ J
        refine runOps.part 118 rfl (fun q13 => ?_) (fun q13 => ?_)
        ·
         simp (decide := true) only [TF, q1, hk, q2, q5, hg, hnf, q6, q7, mx, hgi, hgl, hnfl, hD2, hfa, hL3, hil3, n0, n1, n2, n3, n4, m0, m1, m2, m3, m4, q8, q12, q13, lk_dl, okM_eq, ↓reduceIte, Int.reduceToNat]
         refine hK _ _ (by kernel_rfl) ?_
         clear hK K
         refine WP.cond (b := true) (by rfl) (fun _ => ?_) nofun
         refine WP.region (by kernel_rfl) fun K hK => ?_
         simp (decide := true) only [TF, q1, hk, q2, q5, hg, hnf, q6, q7, mx, hgi, hgl, hnfl, hD2, hfa, hL3, hil3, n0, n1, n2, n3, n4, m0, m1, m2, m3, m4, q8, q12, q13, lk_dl, okM_eq, ↓reduceIte, Int.reduceToNat]
         refine hK _ _ ?_; clear hK K
         show WP _ _ _ _ _ _
         refine WP.region (by kernel_rfl) fun K hK => ?_
         simp (decide := true) only [TF, q1, hk, q2, q5, hg, hnf, q6, q7, mx, hgi, hgl, hnfl, hD2, hfa, hL3, hil3, n0, n1, n2, n3, n4, m0, m1, m2, m3, m4, q8, q12, q13, lk_dl, okM_eq, ↓reduceIte, Int.reduceToNat]
         refine hK _ _ ?_; clear hK K
         show ∃ y, _ ∧ Weak _ _ _
         refine ⟨⟨(k + 1, rStep l r q r.scopes[k]), ⟨hlt, hP.next hlt⟩⟩, ?_, ?_⟩
         · dsimp only; omega
         ·
          dsimp only; rw [hq]; dsimp only
          have hag : ageU q.age l[i].age = l[i].age := by simp only [ageU, q1, q2, q5, q6, q7, q8, q12, q13, Bool.false_and, Bool.and_false, Bool.true_and, Bool.and_true, Bool.true_or, Bool.or_true, Bool.false_or, Bool.or_false, ↓reduceIte, Bool.false_eq_true]
          have hlv : lvlU q.lvl l[i].lvl = q.lvl := by unfold lvlU; rw [if_neg (by have := of_decide_eq_false q8; omega)]
          rw [hag, hlv]
          refine Weak.of_lk (by simp [St.get, lk, Le.refl, isEA, hnf, hnfl, wrapS hlt (show r.scopes.length ≤ 140737488355328 by have := hr.2.2.1; omega)]) (fun j => ?_)
          by_cases j0 : j = 0
          · subst j0; simp [lk, lk_dl, m0, hnf]
          by_cases j1 : j = 1
          · subst j1; simp [lk, lk_dl, m1]
          by_cases j2 : j = 2
          · subst j2; simp (decide := true) only [lk, lk_dl, ↓reduceIte, m2, List.isEmpty_cons, Bool.and_false]; rw [rows_setU (b := 100) hiq]
          by_cases j3 : j = 3
          · subst j3; simp [lk, lk_dl, m3]
          by_cases j4 : j = 4
          · subst j4; simp [lk, lk_dl, m4]
          simp only [lk, lk_dl, j0, j1, j2, j3, j4, ↓reduceIte]
          rw [fam_setU hiq]
          by_cases ji : j = 100 + i
          · rw [if_pos ji]; simp [ji, lk_dl, n0, n1, n2, n3, n4]
          · simp [ji, lk_dl, j0, j1, j2, j3, j4]
        ·
         simp (decide := true) only [TF, q1, hk, q2, q5, hg, hnf, q6, q7, mx, hgi, hgl, hnfl, hD2, hfa, hL3, hil3, n0, n1, n2, n3, n4, m0, m1, m2, m3, m4, q8, q12, q13, lk_dl, okM_eq, ↓reduceIte, Int.reduceToNat]
         refine hK _ _ (by kernel_rfl) ?_
         clear hK K
         refine WP.cond (b := _) rfl (fun q14 => ?_) (fun q14 => ?_)
         ·
          refine WP.region (by kernel_rfl) fun K hK => ?_
          simp (decide := true) only [TF, q1, hk, q2, q5, hg, hnf, q6, q7, mx, hgi, hgl, hnfl, hD2, hfa, hL3, hil3, n0, n1, n2, n3, n4, m0, m1, m2, m3, m4, q8, q12, q13, q14, lk_dl, okM_eq, ↓reduceIte, Int.reduceToNat]
          refine hK _ _ ?_; clear hK K
          show WP _ _ _ _ _ _
          refine WP.region (by kernel_rfl) fun K hK => ?_
          simp (decide := true) only [TF, q1, hk, q2, q5, hg, hnf, q6, q7, mx, hgi, hgl, hnfl, hD2, hfa, hL3, hil3, n0, n1, n2, n3, n4, m0, m1, m2, m3, m4, q8, q12, q13, q14, lk_dl, okM_eq, ↓reduceIte, Int.reduceToNat]
          refine hK _ _ ?_; clear hK K
          show ∃ y, _ ∧ Weak _ _ _
          refine ⟨⟨(k + 1, rStep l r q r.scopes[k]), ⟨hlt, hP.next hlt⟩⟩, ?_, ?_⟩
          · dsimp only; omega
          ·
           dsimp only; rw [hq]; dsimp only
           have hag : ageU q.age l[i].age = l[i].age := by simp only [ageU, q1, q2, q5, q6, q7, q8, q12, q13, q14, Bool.false_and, Bool.and_false, Bool.true_and, Bool.and_true, Bool.true_or, Bool.or_true, Bool.false_or, Bool.or_false, ↓reduceIte, Bool.false_eq_true]
           have hlv : lvlU q.lvl l[i].lvl = q.lvl := by unfold lvlU; rw [if_neg (by have := of_decide_eq_false q8; omega)]
           rw [hag, hlv]
           refine Weak.of_lk (by simp [St.get, lk, Le.refl, isEA, hnf, hnfl, wrapS hlt (show r.scopes.length ≤ 140737488355328 by have := hr.2.2.1; omega)]) (fun j => ?_)
           by_cases j0 : j = 0
           · subst j0; simp [lk, lk_dl, m0, hnf]
           by_cases j1 : j = 1
           · subst j1; simp [lk, lk_dl, m1]
           by_cases j2 : j = 2
           · subst j2; simp (decide := true) only [lk, lk_dl, ↓reduceIte, m2, List.isEmpty_cons, Bool.and_false]; rw [rows_setU (b := 100) hiq]
           by_cases j3 : j = 3
           · subst j3; simp [lk, lk_dl, m3]
           by_cases j4 : j = 4
           · subst j4; simp [lk, lk_dl, m4]
           simp only [lk, lk_dl, j0, j1, j2, j3, j4, ↓reduceIte]
           rw [fam_setU hiq]
           by_cases ji : j = 100 + i
           · rw [if_pos ji]; simp [ji, lk_dl, n0, n1, n2, n3, n4]
           · simp [ji, lk_dl, j0, j1, j2, j3, j4]
         ·
          refine WP.skip ?_
          show WP _ _ _ _ _ _
          refine WP.region (by kernel_rfl) fun K hK => ?_
          simp (decide := true) only [TF, q1, hk, q2, q5, hg, hnf, q6, q7, mx, hgi, hgl, hnfl, hD2, hfa, hL3, hil3, n0, n1, n2, n3, n4, m0, m1, m2, m3, m4, q8, q12, q13, q14, lk_dl, okM_eq, ↓reduceIte, Int.reduceToNat]
          refine hK _ _ ?_; clear hK K
          show ∃ y, _ ∧ Weak _ _ _
          refine ⟨⟨(k + 1, rStep l r q r.scopes[k]), ⟨hlt, hP.next hlt⟩⟩, ?_, ?_⟩
          · dsimp only; omega
          ·
           dsimp only; rw [hq]; dsimp only
           have hag : ageU q.age l[i].age = q.age := by simp only [ageU, q1, q2, q5, q6, q7, q8, q12, q13, q14, Bool.false_and, Bool.and_false, Bool.true_and, Bool.and_true, Bool.true_or, Bool.or_true, Bool.false_or, Bool.or_false, ↓reduceIte, Bool.false_eq_true]
           have hlv : lvlU q.lvl l[i].lvl = q.lvl := by unfold lvlU; rw [if_neg (by have := of_decide_eq_false q8; omega)]
           rw [hag, hlv]
           refine Weak.of_lk (by simp [St.get, lk, Le.refl, isEA, hnf, hnfl, wrapS hlt (show r.scopes.length ≤ 140737488355328 by have := hr.2.2.1; omega)]) (fun j => ?_)
           by_cases j0 : j = 0
           · subst j0; simp [lk, lk_dl, m0, hnf]
           by_cases j1 : j = 1
           · subst j1; simp [lk, lk_dl, m1]
           by_cases j2 : j = 2
           · subst j2; simp (decide := true) only [lk, lk_dl, ↓reduceIte, m2, List.isEmpty_cons, Bool.and_false]; rw [rows_setU (b := 100) hiq]
           by_cases j3 : j = 3
           · subst j3; simp [lk, lk_dl, m3]
           by_cases j4 : j = 4
           · subst j4; simp [lk, lk_dl, m4]
           simp only [lk, lk_dl, j0, j1, j2, j3, j4, ↓reduceIte]
           rw [fam_setU hiq]
           by_cases ji : j = 100 + i
           · rw [if_pos ji]; simp [ji, lk_dl, n0, n1, n2, n3, n4]
           · simp [ji, lk_dl, j0, j1, j2, j3, j4]
       ·
        simp (decide := true) only [TF, q1, hk, q2, q5, hg, hnf, q6, q7, mx, hgi, hgl, hnfl, hD2, hfa, hL3, hil3, n0, n1, n2, n3, n4, m0, m1, m2, m3, m4, q8, q12, lk_dl, okM_eq, ↓reduceIte, Int.reduceToNat]
        refine hK _ _ (by kernel_rfl) ?_
        clear hK K
        refine WP.cond (b := false) (by rfl) nofun (fun _ => ?_)
        refine WP.skip ?_
        show WP _ _ _ _ _ _
        refine WP.region (by kernel_rfl) fun K hK => ?_
        simp (decide := true) only [TF, q1, hk, q2, q5, hg, hnf, q6, q7, mx, hgi, hgl, hnfl, hD2, hfa, hL3, hil3, n0, n1, n2, n3, n4, m0, m1, m2, m3, m4, q8, q12, lk_dl, okM_eq, ↓reduceIte, Int.reduceToNat]
        refine hK _ _ ?_; clear hK K
        show ∃ y, _ ∧ Weak _ _ _
        refine ⟨⟨(k + 1, rStep l r q r.scopes[k]), ⟨hlt, hP.next hlt⟩⟩, ?_, ?_⟩
        · dsimp only; omega
        ·
         dsimp only; rw [hq]; dsimp only
         have hag : ageU q.age l[i].age = q.age := by simp only [ageU, q1, q2, q5, q6, q7, q8, q12, Bool.false_and, Bool.and_false, Bool.true_and, Bool.and_true, Bool.true_or, Bool.or_true, Bool.false_or, Bool.or_false, ↓reduceIte, Bool.false_eq_true]
         have hlv : lvlU q.lvl l[i].lvl = q.lvl := by unfold lvlU; rw [if_neg (by have := of_decide_eq_false q8; omega)]
         rw [hag, hlv]
         refine Weak.of_lk (by simp [St.get, lk, Le.refl, isEA, hnf, hnfl, wrapS hlt (show r.scopes.length ≤ 140737488355328 by have := hr.2.2.1; omega)]) (fun j => ?_)
         by_cases j0 : j = 0
         · subst j0; simp [lk, lk_dl, m0, hnf]
         by_cases j1 : j = 1
         · subst j1; simp [lk, lk_dl, m1]
         by_cases j2 : j = 2
         · subst j2; simp (decide := true) only [lk, lk_dl, ↓reduceIte, m2, List.isEmpty_cons, Bool.and_false]; rw [rows_setU (b := 100) hiq]
         by_cases j3 : j = 3
         · subst j3; simp [lk, lk_dl, m3]
         by_cases j4 : j = 4
         · subst j4; simp [lk, lk_dl, m4]
         simp only [lk, lk_dl, j0, j1, j2, j3, j4, ↓reduceIte]
         rw [fam_setU hiq]
         by_cases ji : j = 100 + i
         · rw [if_pos ji]; simp [ji, lk_dl, n0, n1, n2, n3, n4]
         · simp [ji, lk_dl, j0, j1, j2, j3, j4]
   ·
    have hge := ge_of_q q5
    have hR : rsR l r = q := by have := hP.run; rw [dropN hge] at this; exact this
    subst hR
    have hal := hP.alen
    have hsc := hr.2.2.1
    refine WP.exit ?_
    show WP _ _ _ _ _ _
    refine WP.seq ?_
    refine WP.sr [0, 3, 4, 5, 7, 137] (by kernel_rfl) fun K hK => ?_
    simp (decide := true) only [TF, q1, hk, q2, q5, lk_dl, okM_eq, ↓reduceIte, Int.reduceToNat]
    refine hK _ _ ?_; clear hK K
    refine WP.cond (b := _) rfl (fun q15 => ?_) (fun q15 => ?_)
    ·
     have hX := runD_3 hc0 hc1 (by rw [← all_pos]; exact q15)
     refine WP.sr [4, 5, 7] (by kernel_rfl) fun K hK => ?_
     simp (decide := true) only [TF, q1, hk, q2, q5, q15, lk_dl, okM_eq, ↓reduceIte, Int.reduceToNat]
     refine hK _ _ ?_; clear hK K
     refine WP.sr [4, 5] (by kernel_rfl) fun K hK => ?_
     simp (decide := true) only [TF, q1, hk, q2, q5, q15, lk_dl, okM_eq, ↓reduceIte, Int.reduceToNat]
     refine CallK.pure (c_r_sorted (rsR l r).all (rsR l r).all.isEmpty (by omega) (fun h => by simpa using h) (fun x hx => hrs x (hP.mem x hx))) rfl rfl (by simp [-List.map_take]) ?_
     simp (decide := true) only [TF, q1, hk, q2, q5, q15, lk_dl, okM_eq, ↓reduceIte, Int.reduceToNat]
     refine hK _ _ ?_; clear hK K
     refine WP.sr [4] (by kernel_rfl) fun K hK => ?_
     simp (decide := true) only [TF, q1, hk, q2, q5, q15, lk_dl, okM_eq, ↓reduceIte, Int.reduceToNat]
     refine hK _ _ ?_; clear hK K
     refine WP.weak (Weak.arrN 2 36 (rowsT 100 (rsR l r).rs).flatten (rowsN (psR l r).rs).flatten (by simp [lk, lk_dl]) (by rw [(both_all l r).rs]; exact rowsT_nrm _ _)) ?_
     refine WP.weak (weak_dec 2 4 1 (.int .i64 1) (.slice 1 (srtR (rsR l r).all).isEmpty ((srtR (rsR l r).all).map (fun x => [D.str x])) none) (.int .i64 (rsR l r).lvl) (.int .i64 (rsR l r).age) ((psR l r).rs) l.length (psR_len l r) (by decide) (by simp [St.get, lk, keep, ins]) (by simp [lk, lk_dl]) (by simp [lk, lk_dl, zeroDec]) (by simp)) ?_
     refine WP.ret ?_
     exact Ends.pure (.inr rfl) rfl ((by rw [hX, isE_pos hlen, run_srt, (both_all l r).lvl, (both_all l r).age]; dsimp only [dcsD]; rw [← rowsN_cs]; exact Le.refl _)) (by simp)
    ·
     have hz := q15
     rw [all_pos] at hz
     have hX0 := runD_4 hc0 hc1 hz
     have hp0 := psR_none hz
     have hb := both_all l r
     have e1 : (rsR l r).lvl = 0 := by rw [hb.lvl, hp0]; rfl
     have e2 : (rsR l r).age = 0 := by rw [hb.age, hp0]; rfl
     have e3 : (rsR l r).rs = reasD l r := by rw [hb.rs, hp0]; rfl
     refine WP.weak (Weak.arrN 2 36 (rowsT 100 (rsR l r).rs).flatten (rowsN (reasD l r)).flatten (by simp [lk, lk_dl]) (by rw [e3]; exact rowsT_nrm _ _)) ?_
     refine WP.weak (st' := ⟨[(5, .ref 3 0), (4, .ref 1 0), (3, .ref 0 0), (0, .slice 6 nl (l.map Rule.cs) none)], [(3, .box 32 [.int .i64 4, .slice 0 true [] none, .int .i64 0, .int .i64 0, .arr 2 3 l.length]), (2, .arr 36 (rowsN (reasD l r)).flatten), (1, .box 32 [.int .i64 0, .slice 0 true [] none, .int .i64 0, .int .i64 0, .slice 0 true [] none]), (0, .box 25 [.str r.user, .str r.client, .str r.tenant, .slice 1 r.ng (r.groups.map fun x => [.str x]) none, .slice 1 r.ns (r.scopes.map fun x => [.str x]) none, .int .i64 r.risk, .bool r.trusted, .int .i64 r.level, .int .i64 r.auth, .int .i64 r.now])]⟩) (Weak.store (by simp [St.get, lk, keep, ins, Le.refl]) (by simp [lk, lk_dl, e1, e2]) (by simp [lk]) (by simp [BClo, lk, -List.mem_flatten]; exact rowsN_clo _) (by simp)) ?_
     refine WP.skip ?_
     show WP _ _ _ _ _ _
     refine WP.seq ?_
     refine WP.sr [0, 3, 4, 5, 10] (by kernel_rfl) fun K hK => ?_
     simp (decide := true) only [TF, q1, hk, q2, q5, q15, lk_dl, okM_eq, ↓reduceIte, Int.reduceToNat]
     refine hK _ _ ?_; clear hK K
     refine WP.block ?_
     refine WP.lp [0, 3, 4, 5] (X := {x : Nat // x ≤ l.length ∧ stepD r (dec4 l r) l = stepD r (dec4 l r) (l.drop x)}) (fun x => match x with | ⟨(x), _⟩ => [(10, .int .i64 x)]) (fun x => match x with | ⟨(x), _⟩ => [(3, .box 32 [.int .i64 4, .slice 0 true [] none, .int .i64 0, .int .i64 0, .arr 2 3 l.length]), (2, .arr 36 (rowsN (reasD l r)).flatten), (1, .box 32 [.int .i64 0, .slice 0 true [] none, .int .i64 0, .int .i64 0, .slice 0 true [] none]), (0, .box 25 [.str r.user, .str r.client, .str r.tenant, .slice 1 r.ng (r.groups.map fun x => [.str x]) none, .slice 1 r.ns (r.scopes.map fun x => [.str x]) none, .int .i64 r.risk, .bool r.trusted, .int .i64 r.level, .int .i64 r.auth, .int .i64 r.now])]) (fun x => match x with | ⟨(x), _⟩ => l.length - x) (by simp (decide := true) only [W, ↓reduceIte, Int.reduceToNat]; rfl) ?_ ⟨(0), ⟨Nat.zero_le _, by simp⟩⟩ ?_
     rotate_left
     · exact Weak.store (by simp [St.get, lk, W, Le.refl, q1, hk, q2, q5, q15]) (by simp [lk, W, q1, hk, q2, q5, q15]) (by simp [lk, W]) (by simp [BClo, lk, -List.mem_flatten]; exact rowsN_clo _) (by simp [lk])
     rintro ⟨x, hk, hI⟩
     dsimp only
     simp only [List.cons_append, List.nil_append]
     refine WP.seq ?_
     refine WP.sr [0, 3, 4, 5, 10, 146] (by kernel_rfl) fun K hK => ?_
     simp (decide := true) only [TF, q1, hk, q2, q5, q15, lk_dl, okM_eq, ↓reduceIte, Int.reduceToNat]
     refine hK _ _ ?_; clear hK K
     refine WP.cond (b := _) rfl (fun q16 => ?_) (fun q16 => ?_)
     ·
      have hlt := lt_of_q q16
      have hg : (l.map Rule.cs)[x]? = some [.str l[x].name, .bool l[x].deny, .slice 3 l[x].nc (l[x].conds.map Cond.cs) none, .slice 1 l[x].ns (l[x].scopes.map fun x => [.str x]) none, .int .i64 l[x].lvl, .int .i64 l[x].age] := getM hlt
      have hnf := nl_false hnl hlt
      rw [dropE hlt] at hI
      simp only [stepD] at hI
      refine WP.skip ?_
      show WP _ _ _ _ _ _
      refine WP.seq ?_
      refine WP.block ?_
      refine WP.seq ?_
      refine WP.sd [0, 3, 4, 5, 10, 162] (by kernel_rfl) (by kernel_rfl) fun K hK => ?_
      refine runOps.take 6 fun J hJ => ?_
      simp (decide := true) only [TF, q1, hk, q2, q5, q15, q16, hg, hnf, lk_dl, okM_eq, ↓reduceIte, Int.reduceToNat]
      refine hJ _ _ ?_; clear hJ J
      refine runOps.part 154 rfl (fun q17 => ?_) (fun q17 => ?_)
      ·
       simp (decide := true) only [TF, q1, hk, q2, q5, q15, q16, hg, hnf, q17, lk_dl, okM_eq, ↓reduceIte, Int.reduceToNat]
       refine hK _ _ (by kernel_rfl) ?_
       clear hK K
       refine WP.cond (b := true) (by rfl) (fun _ => ?_) nofun
       refine WP.exit ?_
       show WP _ _ _ _ _ _
       refine WP.region (by kernel_rfl) fun K hK => ?_
       simp (decide := true) only [TF, q1, hk, q2, q5, q15, q16, hg, hnf, q17, lk_dl, okM_eq, ↓reduceIte, Int.reduceToNat]
       refine hK _ _ ?_; clear hK K
       show ∃ y, _ ∧ Weak _ _ _
       have hO : okS r l[x] = false := by simp only [okS, q1, q2, q5, q15, q16, q17, Bool.not_true, Bool.not_false, Bool.false_and, Bool.and_false, Bool.true_and, Bool.and_true, Bool.true_or, Bool.or_true, Bool.false_or, Bool.or_false]
       rw [if_neg (by rw [hO]; decide)] at hI
       refine ⟨⟨x + 1, ?_⟩, ?_, ?_⟩
       · exact ⟨by omega, hI⟩
       · dsimp only; omega
       · exact Weak.store (by simp [St.get, lk, W, Le.refl, q1, hk, q2, q5, q15, hk, q16, hg, hnf, q17, wrapS hlt (show l.length ≤ 140737488355328 by omega)]) (by simp [lk, W, q1, hk, q2, q5, q15, hk, q16, hg, hnf, q17]) (by simp [lk, W]) (by simp [BClo, lk, -List.mem_flatten]; exact rowsN_clo _) (by simp [lk])
      ·
       simp (decide := true) only [TF, q1, hk, q2, q5, q15, q16, hg, hnf, q17, lk_dl, okM_eq, ↓reduceIte, Int.reduceToNat]
       refine CallK.pure (c_r_first l[x] r (hl _ (List.getElem_mem hlt)) hr) rfl (by rw [q17]; rfl) (by simp [-List.map_take]) ?_
       simp (decide := true) only [TF, q1, hk, q2, q5, q15, q16, hg, hnf, q17, lk_dl, okM_eq, ↓reduceIte, Int.reduceToNat]
       refine hK _ _ (by kernel_rfl) ?_
       clear hK K
       refine WP.cond (b := _) rfl (fun q18 => ?_) (fun q18 => ?_)
       ·
        have hm : okM l[x] r = false := by have h := q18; rw [okM_ne] at h; simpa using h
        refine WP.exit ?_
        show WP _ _ _ _ _ _
        refine WP.region (by kernel_rfl) fun K hK => ?_
        simp (decide := true) only [TF, q1, hk, q2, q5, q15, q16, hg, hnf, q17, q18, hm, lk_dl, okM_eq, ↓reduceIte, Int.reduceToNat]
        refine hK _ _ ?_; clear hK K
        show ∃ y, _ ∧ Weak _ _ _
        have hO : okS r l[x] = false := by simp only [okS, q1, q2, q5, q15, q16, q17, q18, hm, Bool.not_true, Bool.not_false, Bool.false_and, Bool.and_false, Bool.true_and, Bool.and_true, Bool.true_or, Bool.or_true, Bool.false_or, Bool.or_false]
        rw [if_neg (by rw [hO]; decide)] at hI
        refine ⟨⟨x + 1, ?_⟩, ?_, ?_⟩
        · exact ⟨by omega, hI⟩
        · dsimp only; omega
        · exact Weak.store (by simp [St.get, lk, W, Le.refl, q1, hk, q2, q5, q15, hk, q16, hg, hnf, q17, q18, hm, wrapS hlt (show l.length ≤ 140737488355328 by omega)]) (by simp [lk, W, q1, hk, q2, q5, q15, hk, q16, hg, hnf, q17, q18, hm]) (by simp [lk, W]) (by simp [BClo, lk, -List.mem_flatten]; exact rowsN_clo _) (by simp [lk])
       ·
        have hm : okM l[x] r = true := by have h := q18; rw [okM_ne] at h; simpa using h
        refine WP.skip ?_
        show WP _ _ _ _ _ _
        refine WP.sr [0, 3, 4, 5, 10, 11] (by kernel_rfl) fun K hK => ?_
        simp (decide := true) only [TF, q1, hk, q2, q5, q15, q16, hg, hnf, q17, q18, hm, lk_dl, okM_eq, ↓reduceIte, Int.reduceToNat]
        refine hK _ _ ?_; clear hK K
        refine WP.block ?_
        refine WP.lp [0, 3, 4, 5, 10] (X := {j : Nat // j ≤ r.scopes.length ∧ r.scopes.any (fun s => covsB l[x] s) = (r.scopes.drop j).any (fun s => covsB l[x] s)}) (fun x => match x with | ⟨(j), _⟩ => [(11, .int .i64 j)]) (fun x => match x with | ⟨(j), _⟩ => [(3, .box 32 [.int .i64 4, .slice 0 true [] none, .int .i64 0, .int .i64 0, .arr 2 3 l.length]), (2, .arr 36 (rowsN (reasD l r)).flatten), (1, .box 32 [.int .i64 0, .slice 0 true [] none, .int .i64 0, .int .i64 0, .slice 0 true [] none]), (0, .box 25 [.str r.user, .str r.client, .str r.tenant, .slice 1 r.ng (r.groups.map fun x => [.str x]) none, .slice 1 r.ns (r.scopes.map fun x => [.str x]) none, .int .i64 r.risk, .bool r.trusted, .int .i64 r.level, .int .i64 r.auth, .int .i64 r.now])]) (fun x => match x with | ⟨(j), _⟩ => r.scopes.length - j) (by simp (decide := true) only [W, ↓reduceIte, Int.reduceToNat]; rfl) ?_ ⟨(0), ⟨Nat.zero_le _, by simp⟩⟩ ?_
        rotate_left
        · exact Weak.store (by simp [St.get, lk, W, Le.refl, q1, hk, q2, q5, q15, hk, q16, hg, hnf, q17, q18, hm]) (by simp [lk, W, q1, hk, q2, q5, q15, hk, q16, hg, hnf, q17, q18, hm]) (by simp [lk, W]) (by simp [BClo, lk, -List.mem_flatten]; exact rowsN_clo _) (by simp [lk])
        rintro ⟨j, hk, hL⟩
        dsimp only
        simp only [List.cons_append, List.nil_append]
        refine WP.seq ?_
        refine WP.sr [0, 3, 4, 5, 10, 11, 167] (by kernel_rfl) fun K hK => ?_
        simp (decide := true) only [TF, q1, hk, q2, q5, q15, q16, hg, hnf, q17, q18, hm, lk_dl, okM_eq, ↓reduceIte, Int.reduceToNat]
        refine hK _ _ ?_; clear hK K
        refine WP.cond (b := _) rfl (fun q19 => ?_) (fun q19 => ?_)
        ·
         have hjl := lt_of_q q19
         have hgj : (r.scopes.map (fun x => [D.str x]))[j]? = some [.str r.scopes[j]] := getM hjl
         have hnfj := nl_false hr.2.2.2 hjl
         rw [dropE hjl] at hL
         simp only [List.any_cons] at hL
         refine WP.skip ?_
         show WP _ _ _ _ _ _
         refine WP.seq ?_
         refine WP.block ?_
         refine WP.sd [0, 3, 4, 5, 10, 11, 179] (by kernel_rfl) (by kernel_rfl) fun K hK => ?_
         simp (decide := true) only [TF, q1, hk, q2, q5, q15, q16, hg, hnf, q17, q18, hm, q19, hgj, hnfj, lk_dl, okM_eq, ↓reduceIte, Int.reduceToNat]
         refine CallK.pure (c_r_covers l[x] r.scopes[j] (hl _ (List.getElem_mem hlt)) (hrs _ (List.getElem_mem hjl))) rfl (by rw [q17]; rfl) (by simp [-List.map_take]) ?_
         simp (decide := true) only [TF, q1, hk, q2, q5, q15, q16, hg, hnf, q17, q18, hm, q19, hgj, hnfj, lk_dl, okM_eq, ↓reduceIte, Int.reduceToNat]
         refine hK _ _ (by kernel_rfl) ?_
         clear hK K
         refine WP.cond (b := _) rfl (fun q20 => ?_) (fun q20 => ?_)
         ·
          have hO : okS r l[x] = true := by simp only [okS, hL, hm, q1, q2, q5, q15, q16, q17, q18, q19, q20, Bool.not_false, Bool.false_and, Bool.and_false, Bool.true_and, Bool.and_true, Bool.true_or, Bool.or_true, Bool.false_or, Bool.or_false]
          rw [if_pos hO] at hI
          have hX := hX0.trans hI
          refine WP.sr [0, 4, 5, 10] (by kernel_rfl) fun K hK => ?_
          simp (decide := true) only [TF, q1, hk, q2, q5, q15, q16, hg, hnf, q17, q18, hm, q19, hgj, hnfj, q20, lk_dl, okM_eq, ↓reduceIte, Int.reduceToNat]
          refine hK _ _ ?_; clear hK K
          refine WP.sr [0, 4, 5, 10] (by kernel_rfl) fun K hK => ?_
          simp (decide := true) only [TF, q1, hk, q2, q5, q15, q16, hg, hnf, q17, q18, hm, q19, hgj, hnfj, q20, lk_dl, okM_eq, ↓reduceIte, Int.reduceToNat]
          refine hK _ _ ?_; clear hK K
          refine WP.sr [4, 5] (by kernel_rfl) fun K hK => ?_
          simp (decide := true) only [TF, q1, hk, q2, q5, q15, q16, hg, hnf, q17, q18, hm, q19, hgj, hnfj, q20, lk_dl, okM_eq, ↓reduceIte, Int.reduceToNat]
          refine hK _ _ ?_; clear hK K
          refine WP.sr [4] (by kernel_rfl) fun K hK => ?_
          simp (decide := true) only [TF, q1, hk, q2, q5, q15, q16, hg, hnf, q17, q18, hm, q19, hgj, hnfj, q20, lk_dl, okM_eq, ↓reduceIte, Int.reduceToNat]
          refine hK _ _ ?_; clear hK K
          refine WP.weak (weak_dec 2 4 1 (.int .i64 3) (.slice 0 true [] none) (.int .i64 l[x].lvl) (.int .i64 l[x].age) (reasD l r) l.length (by simp [reasD]) (by decide) (by simp [St.get, lk, keep, ins]) (by simp [lk, lk_dl]) (by simp [lk, lk_dl, zeroDec]) (by simp)) ?_
          refine WP.ret ?_
          exact Ends.pure (.inr rfl) rfl ((by rw [hX, dec4, isE_pos hlen]; dsimp only [dcsD]; rw [← reasD_cs]; exact Le.agg ⟨Le.refl _, Le.nil _ _ _, Le.refl _, Le.refl _, Le.refl _, trivial⟩)) (by simp)
         ·
          refine WP.skip ?_
          show WP _ _ _ _ _ _
          refine WP.region (by kernel_rfl) fun K hK => ?_
          simp (decide := true) only [TF, q1, hk, q2, q5, q15, q16, hg, hnf, q17, q18, hm, q19, hgj, hnfj, q20, lk_dl, okM_eq, ↓reduceIte, Int.reduceToNat]
          refine hK _ _ ?_; clear hK K
          show ∃ y, _ ∧ Weak _ _ _
          rw [q20, Bool.false_or] at hL
          refine ⟨⟨j + 1, ?_⟩, ?_, ?_⟩
          · exact ⟨by omega, hL⟩
          · dsimp only; omega
          · exact Weak.store (by simp [St.get, lk, W, Le.refl, q1, hk, q2, q5, q15, hk, q16, hg, hnf, q17, q18, hm, hk, q19, hgj, hnfj, q20, wrapS hjl (show r.scopes.length ≤ 140737488355328 by have := hr.2.2.1; omega)]) (by simp [lk, W, q1, hk, q2, q5, q15, hk, q16, hg, hnf, q17, q18, hm, hk, q19, hgj, hnfj, q20]) (by simp [lk, W]) (by simp [BClo, lk, -List.mem_flatten]; exact rowsN_clo _) (by simp [lk])
        ·
         have hjg := ge_of_q q19
         rw [dropN hjg] at hL
         simp only [List.any_nil] at hL
         refine WP.exit ?_
         show WP _ _ _ _ _ _
         refine WP.region (by kernel_rfl) fun K hK => ?_
         simp (decide := true) only [TF, q1, hk, q2, q5, q15, q16, hg, hnf, q17, q18, hm, q19, hL, lk_dl, okM_eq, ↓reduceIte, Int.reduceToNat]
         refine hK _ _ ?_; clear hK K
         show ∃ y, _ ∧ Weak _ _ _
         have hO : okS r l[x] = false := by simp only [okS, q1, q2, q5, q15, q16, q17, q18, q19, hL, hm, Bool.not_true, Bool.not_false, Bool.false_and, Bool.and_false, Bool.true_and, Bool.and_true, Bool.true_or, Bool.or_true, Bool.false_or, Bool.or_false]
         rw [if_neg (by rw [hO]; decide)] at hI
         refine ⟨⟨x + 1, ?_⟩, ?_, ?_⟩
         · exact ⟨by omega, hI⟩
         · dsimp only; omega
         · exact Weak.store (by simp [St.get, lk, W, Le.refl, q1, hk, q2, q5, q15, hk, q16, hg, hnf, q17, q18, hm, hk, q19, hL, wrapS hlt (show l.length ≤ 140737488355328 by omega)]) (by simp [lk, W, q1, hk, q2, q5, q15, hk, q16, hg, hnf, q17, q18, hm, hk, q19, hL]) (by simp [lk, W]) (by simp [BClo, lk, -List.mem_flatten]; exact rowsN_clo _) (by simp [lk])
     ·
      have hge := ge_of_q q16
      rw [dropN hge] at hI
      simp only [stepD] at hI
      have hX := hX0.trans hI
      refine WP.exit ?_
      show WP _ _ _ _ _ _
      refine WP.sr [4] (by kernel_rfl) fun K hK => ?_
      simp (decide := true) only [TF, q1, hk, q2, q5, q15, q16, lk_dl, okM_eq, ↓reduceIte, Int.reduceToNat]
      refine hK _ _ ?_; clear hK K
      refine WP.weak (weak_dec 2 4 1 (.int .i64 4) (.slice 0 true [] none) (.int .i64 0) (.int .i64 0) (reasD l r) l.length (by simp [reasD]) (by decide) (by simp [St.get, lk, keep, ins]) (by simp [lk, lk_dl]) (by simp [lk, lk_dl, zeroDec]) (by simp)) ?_
      refine WP.ret ?_
      exact Ends.pure (.inr rfl) rfl ((by rw [hX, dec4, isE_pos hlen]; dsimp only [dcsD]; rw [← reasD_cs]; exact Le.agg ⟨Le.refl _, Le.nil _ _ _, Le.refl _, Le.refl _, Le.refl _, trivial⟩)) (by simp)
set_option maxHeartbeats 4000000
theorem grP_nil (r : Req) (s : List UInt8) (k : Nat) : grP r s [] k = -1 := rfl
theorem psR_nil (r : Req) : psR [] r = ps0 [] r := by
 have key : ∀ (ss : List (List UInt8)) (q : PS), ss.foldl (pStep [] r) q = q := by
  intro ss
  induction ss with
  | nil => intro q; rfl
  | cons s ss ih => intro q; rw [List.foldl_cons, pStep_no (by rw [grP_nil]; rfl)]; exact ih q
 exact key _ _
theorem runD_nil (r : Req) : runD [] r = ⟨4, [], true, 0, 0, [], true⟩ := by
 rw [runD_4 (by rfl) rfl (by rw [psR_nil]; rfl)]
 rfl
theorem checkE_nil : (checkE [] != 0) = false := rfl
theorem c_permit0 (nl : Bool) (r : Req) (hr : r.ok) (hrs : ∀ s ∈ r.scopes, s.length ≤ 1099511627776) : CallE Pr 30 [.ref 1 0, .slice 6 nl [] none, .agg [.str r.user, .str r.client, .str r.tenant, .slice 1 r.ng (r.groups.map fun x => [.str x]) none, .slice 1 r.ns (r.scopes.map fun x => [.str x]) none, .int .i64 r.risk, .bool r.trusted, .int .i64 r.level, .int .i64 r.auth, .int .i64 r.now]] [(1, .box 32 [.int .i64 4, .slice 0 true [] none, .int .i64 0, .int .i64 0, .slice 0 true [] none])] (.bool false) [(1, .box 32 [.int .i64 4, .slice 1 true [] none, .int .i64 0, .int .i64 0, .slice 0 true [] none])] := by
 refine CallE.of_wp Tryz.func30 rfl (by kernel_rfl) Tryz.ntmps30 (by simp) ?_
 simp only [frameOf, Nat.reduceAdd, Nat.zero_add, List.map_cons, List.map_nil]
 refine WP.sr [0, 1, 5] (by kernel_rfl) fun K hK => ?_
 simp (decide := true) only [TF, grP_nil, ↓reduceIte, Int.reduceToNat]
 refine hK _ _ ?_; clear hK K
 refine WP.sr [0, 1, 5, 7] (by kernel_rfl) fun K hK => ?_
 simp (decide := true) only [TF, grP_nil, ↓reduceIte, Int.reduceToNat]
 refine hK _ _ ?_; clear hK K
 refine WP.seq ?_
 refine WP.sr [0, 1, 5, 7, 14, 15, 16] (by kernel_rfl) fun K hK => ?_
 simp (decide := true) only [TF, grP_nil, ↓reduceIte, Int.reduceToNat]
 refine hK _ _ ?_; clear hK K
 refine WP.block ?_
 refine WP.lp [0, 1, 5, 14, 15] (X := {k : Nat // k ≤ r.scopes.length}) (fun x => match x with | ⟨(k), _⟩ => [(7, .slice 1 true [] none), (16, .int .i64 k)]) (fun x => match x with | ⟨(k), _⟩ => [(2, .box 25 [.str r.user, .str r.client, .str r.tenant, .slice 1 r.ng (r.groups.map fun x => [.str x]) none, .slice 1 r.ns (r.scopes.map fun x => [.str x]) none, .int .i64 r.risk, .bool r.trusted, .int .i64 r.level, .int .i64 r.auth, .int .i64 r.now]), (1, .box 32 [.int .i64 4, .slice 0 true [] none, .int .i64 0, .int .i64 0, .slice 0 true [] none])]) (fun x => match x with | ⟨(k), _⟩ => r.scopes.length - k) (by simp (decide := true) only [W, ↓reduceIte, Int.reduceToNat]; rfl) ?_ ⟨(0), Nat.zero_le _⟩ ?_
 rotate_left
 · exact Weak.store (by simp [St.get, lk, W, Le.refl, Le.nil, W]) (by simp [lk, W, W]) (by simp [lk, W]) (by simp [BClo, lk]) (by simp [lk])
 rintro ⟨k, hk⟩
 dsimp only
 simp only [List.cons_append, List.nil_append]
 refine WP.sr [0, 1, 5, 7, 14, 15, 16, 17] (by kernel_rfl) fun K hK => ?_
 simp (decide := true) only [TF, hk, grP_nil, ↓reduceIte, Int.reduceToNat]
 refine hK _ _ ?_; clear hK K
 refine WP.seq ?_
 refine WP.cond (b := _) rfl (fun q1 => ?_) (fun q1 => ?_)
 ·
  have hlt := lt_of_q q1
  have hg : (r.scopes.map (fun x => [D.str x]))[k]? = some [.str r.scopes[k]] := getM hlt
  have hnf := nl_false hr.2.2.2 hlt
  have hsk := hrs _ (List.getElem_mem hlt)
  refine WP.skip ?_
  show WP _ _ _ _ _ _
  refine WP.seq ?_
  refine WP.block ?_
  refine WP.sr [0, 1, 5, 7, 9, 14, 15, 16] (by kernel_rfl) fun K hK => ?_
  simp (decide := true) only [TF, hk, q1, hg, hnf, grP_nil, ↓reduceIte, Int.reduceToNat]
  refine hK _ _ ?_; clear hK K
  refine WP.sr [0, 1, 5, 7, 9, 10, 14, 15, 16] (by kernel_rfl) fun K hK => ?_
  simp (decide := true) only [TF, hk, q1, hg, hnf, grP_nil, ↓reduceIte, Int.reduceToNat]
  refine CallK.pure (c_granting [] nl r (by simp) (fun _ => rfl) (by simp) hr r.scopes[k] hsk) rfl (by simp only [hnf]; rfl) (by simp [-List.map_take]) ?_
  simp (decide := true) only [TF, hk, q1, hg, hnf, grP_nil, ↓reduceIte, Int.reduceToNat]
  refine hK _ _ ?_; clear hK K
  refine WP.seq ?_
  refine WP.sr [0, 1, 5, 7, 9, 10, 14, 15, 16, 25] (by kernel_rfl) fun K hK => ?_
  simp (decide := true) only [TF, hk, q1, hg, hnf, grP_nil, ↓reduceIte, Int.reduceToNat]
  refine hK _ _ ?_; clear hK K
  refine WP.cond (b := _) rfl (fun q2 => ?_) (fun q2 => ?_)
  ·
   refine WP.exit ?_
   show WP _ _ _ _ _ _
   refine WP.region (by kernel_rfl) fun K hK => ?_
   simp (decide := true) only [TF, hk, q1, hg, hnf, q2, grP_nil, ↓reduceIte, Int.reduceToNat]
   refine hK _ _ ?_; clear hK K
   show ∃ y, _ ∧ Weak _ _ _
   refine ⟨⟨k + 1, hlt⟩, by dsimp only; omega, ?_⟩
   exact Weak.store (by simp [St.get, lk, W, Le.refl, hk, q1, hg, hnf, q2, wrapS hlt (show r.scopes.length ≤ 140737488355328 by have := hr.2.2.1; omega)]) (by simp [lk, W, hk, q1, hg, hnf, q2]) (by simp [lk, W]) (by simp [BClo, lk]) (by simp [lk])
  ·
   cases q2
 ·
  have hge := ge_of_q q1
  refine WP.exit ?_
  show WP _ _ _ _ _ _
  refine WP.sr [7] (by kernel_rfl) fun K hK => ?_
  simp (decide := true) only [TF, hk, q1, grP_nil, ↓reduceIte, Int.reduceToNat]
  refine CallK.pure (c_sorted [] true (by simp) (fun _ => rfl) (by simp)) rfl rfl (by simp [-List.map_take]) ?_
  simp (decide := true) only [TF, hk, q1, grP_nil, ↓reduceIte, Int.reduceToNat]
  refine hK _ _ ?_; clear hK K
  refine WP.sr [6] (by kernel_rfl) fun K hK => ?_
  simp (decide := true) only [TF, hk, q1, grP_nil, ↓reduceIte, Int.reduceToNat]
  refine hK _ _ ?_; clear hK K
  refine WP.ret ?_
  refine Ends.imp (.inr rfl) rfl (Le.of_eq (by simp_all [St.get, lk, W, LN, bne])) ?_ ?_ ?_
  · simp
  · simp [St.get, lk, W, BClo, srtR_nil]
  · simp [lk]
theorem c_permit0_at (b : Nat) (nl : Bool) (r : Req) (hr : r.ok) (hrs : ∀ s ∈ r.scopes, s.length ≤ 1099511627776) : CallE Pr 30 [.ref b 0, .slice 6 nl [] none, .agg [.str r.user, .str r.client, .str r.tenant, .slice 1 r.ng (r.groups.map fun x => [.str x]) none, .slice 1 r.ns (r.scopes.map fun x => [.str x]) none, .int .i64 r.risk, .bool r.trusted, .int .i64 r.level, .int .i64 r.auth, .int .i64 r.now]] [(b, .box 32 [.int .i64 4, .slice 0 true [] none, .int .i64 0, .int .i64 0, .slice 0 true [] none])] (.bool false) [(b, .box 32 [.int .i64 4, .slice 1 true [] none, .int .i64 0, .int .i64 0, .slice 0 true [] none])] := by
 obtain ⟨f, g, h1, h2⟩ := ren_ex [b + 1, b] (by simp)
 have := CallE.rename h1 (c_permit0 nl r hr hrs)
 have f1 : f 1 = b := h2 1 b rfl
 simpa only [List.map_cons, List.map_nil, renS, renB, renL, renLL, renD, ren_sl, Option.map_none, f1] using this
theorem c_run0 (nl : Bool) (r : Req) (hr : r.ok) (hrs : ∀ s ∈ r.scopes, s.length ≤ 1099511627776) : CallP Pr 12 [.slice 6 nl [] none, .agg [.str r.user, .str r.client, .str r.tenant, .slice 1 r.ng (r.groups.map fun x => [.str x]) none, .slice 1 r.ns (r.scopes.map fun x => [.str x]) none, .int .i64 r.risk, .bool r.trusted, .int .i64 r.level, .int .i64 r.auth, .int .i64 r.now]] (.agg (dcsD (runD [] r))) := by
 refine CallP.of_wp Tryz.func12 rfl (by kernel_rfl) Tryz.ntmps12 (by simp) ?_
 simp only [frameOf, Nat.reduceAdd, Nat.zero_add]
 refine WP.sr [2, 3, 4] (by kernel_rfl) fun K hK => ?_
 simp (decide := true) only [TF, checkE_nil, ↓reduceIte, Int.reduceToNat]
 refine hK _ _ ?_; clear hK K
 refine WP.seq ?_
 refine WP.sr [2, 3, 4, 13] (by kernel_rfl) fun K hK => ?_
 simp (decide := true) only [TF, checkE_nil, ↓reduceIte, Int.reduceToNat]
 refine CallK.pure (c_check [] nl (by simp) (fun _ => rfl) (by simp)) rfl rfl (by simp [-List.map_take]) ?_
 simp (decide := true) only [TF, checkE_nil, ↓reduceIte, Int.reduceToNat]
 refine hK _ _ ?_; clear hK K
 refine WP.cond (b := _) rfl (fun q1 => ?_) (fun q1 => ?_)
 ·
  cases q1
 ·
  refine WP.skip ?_
  show WP _ _ _ _ _ _
  refine WP.sr [2, 3, 4, 5] (by kernel_rfl) fun K hK => ?_
  simp (decide := true) only [TF, q1, checkE_nil, ↓reduceIte, Int.reduceToNat]
  refine hK _ _ ?_; clear hK K
  refine WP.sr [2, 3, 4, 5, 6] (by kernel_rfl) fun K hK => ?_
  simp (decide := true) only [TF, q1, checkE_nil, ↓reduceIte, Int.reduceToNat]
  refine hK _ _ ?_; clear hK K
  refine WP.seq ?_
  refine WP.sr [2, 3, 4, 5, 6, 18] (by kernel_rfl) fun K hK => ?_
  simp (decide := true) only [TF, q1, checkE_nil, ↓reduceIte, Int.reduceToNat]
  refine CallK.imp (c_reasons 5 6 (by decide) [] nl r) rfl rfl (by simp) (by simp [lk]) (by simp [lk]) ?_
  simp (decide := true) only [TF, q1, checkE_nil, ↓reduceIte, Int.reduceToNat]
  refine hK _ _ ?_; clear hK K
  refine WP.block ?_
  refine WP.rf [2, 5, 6] (fun x => [(7, .int .i64 x), (8, .int .i64 (FL [] r x))]) (fun pre => (5, .box 22 [.slice 6 nl [] none]) :: (6, .box 25 [.str r.user, .str r.client, .str r.tenant, .slice 1 r.ng (r.groups.map fun x => [.str x]) none, .slice 1 r.ns (r.scopes.map fun x => [.str x]) none, .int .i64 r.risk, .bool r.trusted, .int .i64 r.level, .int .i64 r.auth, .int .i64 r.now]) :: (4, .box 4 [.bool false]) :: (3, .box 32 [.int .i64 4, .slice 0 true [] none, .int .i64 0, .int .i64 0, .slice 0 true [] none]) :: (2, .box 32 [.int .i64 0, .slice 0 true [] none, .int .i64 0, .int .i64 0, .slice 0 true [] none]) :: (1, .box 25 [.str r.user, .str r.client, .str r.tenant, .slice 1 r.ng (r.groups.map fun x => [.str x]) none, .slice 1 r.ns (r.scopes.map fun x => [.str x]) none, .int .i64 r.risk, .bool r.trusted, .int .i64 r.level, .int .i64 r.auth, .int .i64 r.now]) :: [(0, .box 22 [.slice 6 nl [] none])]) (fun pre x => (5, .box 22 [.slice 6 nl [] none]) :: (6, .box 25 [.str r.user, .str r.client, .str r.tenant, .slice 1 r.ng (r.groups.map fun x => [.str x]) none, .slice 1 r.ns (r.scopes.map fun x => [.str x]) none, .int .i64 r.risk, .bool r.trusted, .int .i64 r.level, .int .i64 r.auth, .int .i64 r.now]) :: (4, .box 4 [.bool false]) :: (3, .box 32 [.int .i64 4, .slice 0 true [] none, .int .i64 0, .int .i64 0, .slice 0 true [] none]) :: (2, .box 32 [.int .i64 0, .slice 0 true [] none, .int .i64 0, .int .i64 0, .slice 0 true [] none]) :: (1, .box 25 [.str r.user, .str r.client, .str r.tenant, .slice 1 r.ng (r.groups.map fun x => [.str x]) none, .slice 1 r.ns (r.scopes.map fun x => [.str x]) none, .int .i64 r.risk, .bool r.trusted, .int .i64 r.level, .int .i64 r.auth, .int .i64 r.now]) :: [(0, .box 22 [.slice 6 nl [] none])]) (fun pre => True) (dsOf := dsFL [] r) (by simp (decide := true) only [W, ↓reduceIte, Int.reduceToNat]; rfl) (by simp [MK]) rfl (it_reasons [] nl r (by simp) (fun _ => rfl) (by simp) hr) rfl trivial rfl ?_ ?_ ?_ ?_ ?_ ?_ ?_
  · exact fun pre _ _ => capOk2 (CapOk.box 5 22 _ rfl (by simp)) (CapOk.box 6 25 _ rfl (by simp))
  · exact fun _ => ⟨rfl, rfl⟩
  · simp
  · exact dsFL_ok [] r
  · exact fun pre x hpx hI => absurd hpx.length_le (by simp)
  · exact fun pre x hpx hI => absurd hpx.length_le (by simp)
  ·
   intro hI
   show WP _ _ _ _ _ _
   refine WP.seq ?_
   refine WP.sr [2, 3, 4, 5, 41] (by kernel_rfl) fun K hK => ?_
   simp (decide := true) only [TF, q1, checkE_nil, ↓reduceIte, Int.reduceToNat]
   refine hK _ _ ?_; clear hK K
   refine WP.cond (b := _) rfl (fun q2 => ?_) (fun q2 => ?_)
   ·
    cases q2
   ·
    refine WP.skip ?_
    show WP _ _ _ _ _ _
    refine WP.seq ?_
    refine WP.sr [2, 3, 4, 5, 46] (by kernel_rfl) fun K hK => ?_
    simp (decide := true) only [TF, q1, q2, checkE_nil, ↓reduceIte, Int.reduceToNat]
    refine CallK.imp (c_permit0_at 3 nl r hr hrs) rfl rfl (by simp [lk, BClo]) (by simp [lk]) (by simp [lk]) ?_
    simp (decide := true) only [TF, q1, q2, checkE_nil, ↓reduceIte, Int.reduceToNat]
    refine hK _ _ ?_; clear hK K
    refine WP.cond (b := _) rfl (fun q3 => ?_) (fun q3 => ?_)
    ·
     cases q3
    ·
     refine WP.skip ?_
     show WP _ _ _ _ _ _
     refine WP.seq ?_
     refine WP.sr [2, 3, 4, 5, 51] (by kernel_rfl) fun K hK => ?_
     simp (decide := true) only [TF, q1, q2, q3, checkE_nil, ↓reduceIte, Int.reduceToNat]
     refine CallK.imp (c_reasons 7 8 (by decide) [] nl r) rfl rfl (by simp) (by simp [lk]) (by simp [lk]) ?_
     simp (decide := true) only [TF, q1, q2, q3, checkE_nil, ↓reduceIte, Int.reduceToNat]
     refine hK _ _ ?_; clear hK K
     refine WP.block ?_
     refine WP.rf [2, 3, 4, 5] (fun x => [(9, .ref 9 0), (10, .int .i64 (FL [] r x))]) (fun pre => (7, .box 22 [.slice 6 nl [] none]) :: (8, .box 25 [.str r.user, .str r.client, .str r.tenant, .slice 1 r.ng (r.groups.map fun x => [.str x]) none, .slice 1 r.ns (r.scopes.map fun x => [.str x]) none, .int .i64 r.risk, .bool r.trusted, .int .i64 r.level, .int .i64 r.auth, .int .i64 r.now]) :: (3, .box 32 [.int .i64 4, .slice 1 true [] none, .int .i64 0, .int .i64 0, .slice 0 true [] none]) :: (5, .box 22 [.slice 6 nl [] none]) :: (6, .box 25 [.str r.user, .str r.client, .str r.tenant, .slice 1 r.ng (r.groups.map fun x => [.str x]) none, .slice 1 r.ns (r.scopes.map fun x => [.str x]) none, .int .i64 r.risk, .bool r.trusted, .int .i64 r.level, .int .i64 r.auth, .int .i64 r.now]) :: (4, .box 4 [.bool false]) :: (2, .box 32 [.int .i64 0, .slice 0 true [] none, .int .i64 0, .int .i64 0, .slice 0 true [] none]) :: (1, .box 25 [.str r.user, .str r.client, .str r.tenant, .slice 1 r.ng (r.groups.map fun x => [.str x]) none, .slice 1 r.ns (r.scopes.map fun x => [.str x]) none, .int .i64 r.risk, .bool r.trusted, .int .i64 r.level, .int .i64 r.auth, .int .i64 r.now]) :: [(0, .box 22 [.slice 6 nl [] none])]) (fun pre x => (7, .box 22 [.slice 6 nl [] none]) :: (8, .box 25 [.str r.user, .str r.client, .str r.tenant, .slice 1 r.ng (r.groups.map fun x => [.str x]) none, .slice 1 r.ns (r.scopes.map fun x => [.str x]) none, .int .i64 r.risk, .bool r.trusted, .int .i64 r.level, .int .i64 r.auth, .int .i64 r.now]) :: (3, .box 32 [.int .i64 4, .slice 1 true [] none, .int .i64 0, .int .i64 0, .slice 0 true [] none]) :: (5, .box 22 [.slice 6 nl [] none]) :: (6, .box 25 [.str r.user, .str r.client, .str r.tenant, .slice 1 r.ng (r.groups.map fun x => [.str x]) none, .slice 1 r.ns (r.scopes.map fun x => [.str x]) none, .int .i64 r.risk, .bool r.trusted, .int .i64 r.level, .int .i64 r.auth, .int .i64 r.now]) :: (4, .box 4 [.bool false]) :: (2, .box 32 [.int .i64 0, .slice 0 true [] none, .int .i64 0, .int .i64 0, .slice 0 true [] none]) :: (1, .box 25 [.str r.user, .str r.client, .str r.tenant, .slice 1 r.ng (r.groups.map fun x => [.str x]) none, .slice 1 r.ns (r.scopes.map fun x => [.str x]) none, .int .i64 r.risk, .bool r.trusted, .int .i64 r.level, .int .i64 r.auth, .int .i64 r.now]) :: [(0, .box 22 [.slice 6 nl [] none])]) (fun pre => True) (dsOf := dsFL [] r) (by simp (decide := true) only [W, ↓reduceIte, Int.reduceToNat]; rfl) (by simp [MK]) rfl (it_reasons [] nl r (by simp) (fun _ => rfl) (by simp) hr) rfl trivial rfl ?_ ?_ ?_ ?_ ?_ ?_ ?_
     · exact fun pre _ _ => capOk2 (CapOk.box 7 22 _ rfl (by simp)) (CapOk.box 8 25 _ rfl (by simp))
     · exact fun _ => ⟨rfl, rfl⟩
     · simp
     · exact dsFL_ok [] r
     · exact fun pre x hpx hI => absurd hpx.length_le (by simp)
     · exact fun pre x hpx hI => absurd hpx.length_le (by simp)
     ·
      intro hI
      show WP _ _ _ _ _ _
      refine WP.sr [4] (by kernel_rfl) fun K hK => ?_
      simp (decide := true) only [TF, q1, q2, q3, checkE_nil, ↓reduceIte, Int.reduceToNat]
      refine hK _ _ ?_; clear hK K
      refine WP.ret ?_
      exact Ends.pure (.inr rfl) rfl ((by rw [runD_nil]; exact Le.agg ⟨Le.refl _, Le.refl _, Le.refl _, Le.refl _, Le.nil _ _ _, trivial⟩)) (by simp)
end Go.Proofs
