/- A deny rule laid among others denies, or changes nothing. Conditions: none, the given statement. -/
import Derived.Test.YtahpinmifmdpgaaGreatDoorG09
import Derived.Test.YtahpinmifmdpgaaGreatDoorG08
import Derived.Test.YtahpinmifmdpgaaGreatDoorG10
import Derived.Test.YtahpinmifmdpgaaGreatDoorG05
import Derived.ChangeMaps5
set_option linter.unusedSimpArgs false
set_option linter.unusedVariables false
set_option maxRecDepth 10000
namespace Go.Proofs
open Go Go.Id
set_option maxHeartbeats 4000000
theorem c_l_denies (l : List Rule) (nl : Bool) (hn : l.length ≤ 9223372036854775807) (hnl : nl = true → l = []) (hl : ∀ p ∈ l, p.big) (hg : ∀ p ∈ l, p.rng) (p : Rule) (hpb : p.big) (hpg : p.rng) (r : Req) (hr : r.big) (kk : Int) : CallP Pr 7 [.slice 6 nl (l.map Rule.cs) none, .agg [.str p.name, .bool p.deny, .slice 3 p.nc (p.conds.map Cond.cs) none, .slice 1 p.ns (p.scopes.map fun x => [.str x]) none, .int .i64 p.lvl, .int .i64 p.age], .agg [.str r.user, .str r.client, .str r.tenant, .slice 1 r.ng (r.groups.map fun x => [.str x]) none, .slice 1 r.ns (r.scopes.map fun x => [.str x]) none, .int .i64 r.risk, .bool r.trusted, .int .i64 r.level, .int .i64 r.auth, .int .i64 r.now], .int .i64 kk] (.bool true) := by
 refine CallP.of_wp Tryz.func7 rfl (by kernel_rfl) Tryz.ntmps7 (by simp) ?_
 simp only [frameOf, Nat.reduceAdd, Nat.zero_add]
 refine WP.sr [0, 3, 5, 6] (by kernel_rfl) fun K hK => ?_
 simp (decide := true) only [TF, EV, dcsD, cz0, List.map_nil, List.length_nil, ↓reduceIte, Int.reduceToNat]
 refine hK _ _ ?_; clear hK K
 refine WP.seq ?_
 refine WP.sd [0, 3, 5, 6, 37] (by kernel_rfl) (by kernel_rfl) fun K hK => ?_
 refine runOps.take 4 fun J hJ => ?_
 simp (decide := true) only [TF, EV, dcsD, cz0, List.map_nil, List.length_nil, ↓reduceIte, Int.reduceToNat]
 refine hJ _ _ ?_; clear hJ J
 refine runOps.part 15 rfl (fun q1 => ?_) (fun q1 => ?_)
 ·
  simp (decide := true) only [TF, EV, q1, dcsD, cz0, List.map_nil, List.length_nil, ↓reduceIte, Int.reduceToNat]
  refine hK _ _ (by kernel_rfl) ?_
  clear hK K
  refine WP.cond (b := true) (by rfl) (fun _ => ?_) nofun
  refine WP.sr [8] (by kernel_rfl) fun K hK => ?_
  simp (decide := true) only [TF, EV, q1, dcsD, cz0, List.map_nil, List.length_nil, ↓reduceIte, Int.reduceToNat]
  refine CallK.pure (c_live) rfl rfl (by simp [-List.map_take]) ?_
  simp (decide := true) only [TF, EV, q1, dcsD, cz0, List.map_nil, List.length_nil, ↓reduceIte, Int.reduceToNat]
  refine hK _ _ ?_; clear hK K
  refine WP.ret ?_
  exact Ends.pure (.inr rfl) rfl (Le.of_eq (by simp (decide := true) only [St.get, lk, W, q1, ↓reduceIte])) (by simp)
 ·
  have h60 : l.length ≤ 60 := by have := of_decide_eq_false q1; omega
  refine runOps.take 4 fun J hJ => ?_
  simp (decide := true) only [TF, EV, q1, dcsD, cz0, List.map_nil, List.length_nil, ↓reduceIte, Int.reduceToNat]
  refine hJ _ _ ?_; clear hJ J
  refine runOps.part 19 rfl (fun q2 => ?_) (fun q2 => ?_)
  ·
   simp (decide := true) only [TF, EV, q1, q2, dcsD, cz0, List.map_nil, List.length_nil, ↓reduceIte, Int.reduceToNat]
   refine hK _ _ (by kernel_rfl) ?_
   clear hK K
   refine WP.cond (b := true) (by rfl) (fun _ => ?_) nofun
   refine WP.sr [8] (by kernel_rfl) fun K hK => ?_
   simp (decide := true) only [TF, EV, q1, q2, dcsD, cz0, List.map_nil, List.length_nil, ↓reduceIte, Int.reduceToNat]
   refine CallK.pure (c_live) rfl rfl (by simp [-List.map_take]) ?_
   simp (decide := true) only [TF, EV, q1, q2, dcsD, cz0, List.map_nil, List.length_nil, ↓reduceIte, Int.reduceToNat]
   refine hK _ _ ?_; clear hK K
   refine WP.ret ?_
   exact Ends.pure (.inr rfl) rfl (Le.of_eq (by simp (decide := true) only [St.get, lk, W, q1, q2, ↓reduceIte])) (by simp)
  ·
   have hk0 := of_decide_eq_false q2
   refine runOps.take 6 fun J hJ => ?_
   simp (decide := true) only [TF, EV, q1, q2, dcsD, cz0, List.map_nil, List.length_nil, ↓reduceIte, Int.reduceToNat]
   refine hJ _ _ ?_; clear hJ J
   refine runOps.part 25 rfl (fun q3 => ?_) (fun q3 => ?_)
   ·
    simp (decide := true) only [TF, EV, q1, q2, q3, dcsD, cz0, List.map_nil, List.length_nil, ↓reduceIte, Int.reduceToNat]
    refine hK _ _ (by kernel_rfl) ?_
    clear hK K
    refine WP.cond (b := true) (by rfl) (fun _ => ?_) nofun
    refine WP.sr [8] (by kernel_rfl) fun K hK => ?_
    simp (decide := true) only [TF, EV, q1, q2, q3, dcsD, cz0, List.map_nil, List.length_nil, ↓reduceIte, Int.reduceToNat]
    refine CallK.pure (c_live) rfl rfl (by simp [-List.map_take]) ?_
    simp (decide := true) only [TF, EV, q1, q2, q3, dcsD, cz0, List.map_nil, List.length_nil, ↓reduceIte, Int.reduceToNat]
    refine hK _ _ ?_; clear hK K
    refine WP.ret ?_
    exact Ends.pure (.inr rfl) rfl (Le.of_eq (by simp (decide := true) only [St.get, lk, W, q1, q2, q3, ↓reduceIte])) (by simp)
   ·
    have hkl := of_decide_eq_false q3
    refine runOps.take 5 fun J hJ => ?_
    simp (decide := true) only [TF, EV, q1, q2, q3, dcsD, cz0, List.map_nil, List.length_nil, ↓reduceIte, Int.reduceToNat]
    refine hJ _ _ ?_; clear hJ J
    refine runOps.part 30 rfl (fun q4 => ?_) (fun q4 => ?_)
    ·
     simp (decide := true) only [TF, EV, q1, q2, q3, q4, dcsD, cz0, List.map_nil, List.length_nil, ↓reduceIte, Int.reduceToNat]
     repeat (refine ⟨⟨by (try simp only [List.length_append, List.length_map, List.length_take, List.length_drop, List.length_cons, List.length_nil]); omega, by (try simp only [List.length_append, List.length_map, List.length_take, List.length_drop, List.length_cons, List.length_nil]); omega⟩, ?_⟩)
     refine hK _ _ (by kernel_rfl) ?_
     clear hK K
     refine WP.cond (b := true) (by rfl) (fun _ => ?_) nofun
     refine WP.sr [8] (by kernel_rfl) fun K hK => ?_
     simp (decide := true) only [TF, EV, q1, q2, q3, q4, dcsD, cz0, List.map_nil, List.length_nil, ↓reduceIte, Int.reduceToNat]
     refine CallK.pure (c_live) rfl rfl (by simp [-List.map_take]) ?_
     simp (decide := true) only [TF, EV, q1, q2, q3, q4, dcsD, cz0, List.map_nil, List.length_nil, ↓reduceIte, Int.reduceToNat]
     refine hK _ _ ?_; clear hK K
     refine WP.ret ?_
     exact Ends.pure (.inr rfl) rfl (Le.of_eq (by simp (decide := true) only [St.get, lk, W, q1, q2, q3, q4, ↓reduceIte])) (by simp)
    ·
     have hpd : p.deny = true := by simpa using q4
     simp (decide := true) only [TF, EV, q1, q2, q3, q4, dcsD, cz0, List.map_nil, List.length_nil, ↓reduceIte, Int.reduceToNat]
     repeat (refine ⟨⟨by (try simp only [List.length_append, List.length_map, List.length_take, List.length_drop, List.length_cons, List.length_nil]); omega, by (try simp only [List.length_append, List.length_map, List.length_take, List.length_drop, List.length_cons, List.length_nil]); omega⟩, ?_⟩)
     refine CallK.pure (c_great (p :: l) false r (by simp; omega) nofun (by intro x hx; rcases List.mem_cons.1 hx with rfl | hx; exact hpb; exact hl x hx) hr) rfl rfl (by simp [-List.map_take]; exact clo_pcs p) ?_
     simp (decide := true) only [TF, EV, q1, q2, q3, q4, dcsD, cz0, List.map_nil, List.length_nil, ↓reduceIte, Int.reduceToNat]
     refine hK _ _ (by kernel_rfl) ?_
     clear hK K
     refine WP.cond (b := _) rfl (fun q5 => ?_) (fun q5 => ?_)
     ·
      refine WP.sr [8] (by kernel_rfl) fun K hK => ?_
      simp (decide := true) only [TF, EV, q1, q2, q3, q4, q5, dcsD, cz0, List.map_nil, List.length_nil, ↓reduceIte, Int.reduceToNat]
      refine CallK.pure (c_live) rfl rfl (by simp [-List.map_take]) ?_
      simp (decide := true) only [TF, EV, q1, q2, q3, q4, q5, dcsD, cz0, List.map_nil, List.length_nil, ↓reduceIte, Int.reduceToNat]
      refine hK _ _ ?_; clear hK K
      refine WP.ret ?_
      exact Ends.pure (.inr rfl) rfl (Le.of_eq (by simp (decide := true) only [St.get, lk, W, q1, q2, q3, q4, q5, ↓reduceIte])) (by simp)
     ·
      have hN1 := great_no q5 (by intro x hx; rcases List.mem_cons.1 hx with rfl | hx; exact hpb; exact hl x hx) hr
      obtain ⟨m, rfl⟩ : ∃ m : Nat, kk = (m : Int) := ⟨kk.toNat, by omega⟩
      have hm : m ≤ l.length := by omega
      have hN := ng_tail hN1
      have hN2 := ng_put hN1 hm
      have hrk := run_ok hN hg
      have hrk2 := run_ok hN2 (by intro x hx; rcases putR_mem hx with rfl | hx; exact hpg; exact hg x hx)
      have hml : (m ≤ l.length) = True := eq_true hm
      have hpl := putR_len p hm
      refine WP.skip ?_
      show WP _ _ _ _ _ _
      refine WP.sd [0, 6, 9] (by kernel_rfl) (by kernel_rfl) fun K hK => ?_
      simp (decide := true) only [TF, EV, q1, q2, q3, q4, q5, hml, dcsD, cz0, List.map_nil, List.length_nil, ↓reduceIte, Int.reduceToNat]
      repeat (refine ⟨⟨by (try simp only [List.length_append, List.length_map, List.length_take, List.length_drop, List.length_cons, List.length_nil]); omega, by (try simp only [List.length_append, List.length_map, List.length_take, List.length_drop, List.length_cons, List.length_nil]); omega⟩, ?_⟩)
      refine hK _ _ (by kernel_rfl) ?_
      clear hK K
      refine WP.seq ?_
      refine WP.weak (st' := ⟨[(9, .slice 6 false ((putR l m p).map Rule.cs) none), (6, .ref 1 0), (0, .slice 6 nl (l.map Rule.cs) none)], [(1, .box 25 [.str r.user, .str r.client, .str r.tenant, .slice 1 r.ng (r.groups.map fun x => [.str x]) none, .slice 1 r.ns (r.scopes.map fun x => [.str x]) none, .int .i64 r.risk, .bool r.trusted, .int .i64 r.level, .int .i64 r.auth, .int .i64 r.now])]⟩) (Weak.store (fun x hx => ?_) (by simp [lk]) (by simp [lk]) (by simp [BClo, lk]) (by simp)) ?_
      ·
       simp only [List.mem_cons, List.not_mem_nil, or_false] at hx
       rcases hx with rfl | rfl | rfl
       ·
        refine Le.trans (Le.fg _) (Le.of_eq ?_)
        simp [St.get, lk, keep, ins, W, fg, putR_cs, Rule.cs, List.take_of_length_le]
       · simp [St.get, lk, keep, ins, W, Le.refl]
       · simp [St.get, lk, keep, ins, W, Le.refl]
      refine WP.sr [0, 6, 9, 53] (by kernel_rfl) fun K hK => ?_
      simp (decide := true) only [TF, EV, q1, q2, q3, q4, q5, hml, dcsD, cz0, List.map_nil, List.length_nil, ↓reduceIte, Int.reduceToNat]
      refine CallK.pure (c_check l nl (by omega) hnl hN.ok) rfl rfl (by simp [-List.map_take]) ?_
      simp (decide := true) only [TF, EV, q1, q2, q3, q4, q5, hml, dcsD, cz0, List.map_nil, List.length_nil, ↓reduceIte, Int.reduceToNat]
      refine hK _ _ ?_; clear hK K
      refine WP.cond (b := _) rfl (fun q6 => ?_) (fun q6 => ?_)
      ·
       refine WP.sr [8] (by kernel_rfl) fun K hK => ?_
       simp (decide := true) only [TF, EV, q1, q2, q3, q4, q5, hml, q6, dcsD, cz0, List.map_nil, List.length_nil, ↓reduceIte, Int.reduceToNat]
       refine CallK.pure (c_live) rfl rfl (by simp [-List.map_take]) ?_
       simp (decide := true) only [TF, EV, q1, q2, q3, q4, q5, hml, q6, dcsD, cz0, List.map_nil, List.length_nil, ↓reduceIte, Int.reduceToNat]
       refine hK _ _ ?_; clear hK K
       refine WP.ret ?_
       exact Ends.pure (.inr rfl) rfl (Le.of_eq (by simp (decide := true) only [St.get, lk, W, q1, q2, q3, q4, q5, hml, q6, ↓reduceIte])) (by simp)
      ·
       have h0 := q6
       refine WP.skip ?_
       show WP _ _ _ _ _ _
       refine WP.sd [9, 10, 11] (by kernel_rfl) (by kernel_rfl) fun K hK => ?_
       simp (decide := true) only [TF, EV, q1, q2, q3, q4, q5, hml, q6, dcsD, cz0, List.map_nil, List.length_nil, ↓reduceIte, Int.reduceToNat]
       refine CallK.pure (c_run l nl r (by omega) hnl hN.ok hN.rok hN.hrs) rfl rfl (by simp [-List.map_take]) ?_
       simp (decide := true) only [TF, EV, q1, q2, q3, q4, q5, hml, q6, dcsD, cz0, List.map_nil, List.length_nil, ↓reduceIte, Int.reduceToNat]
       refine CallK.pure (c_run (putR l m p) false r (by omega) nofun hN2.ok hN2.rok hN2.hrs) rfl rfl (by simp [-List.map_take]) ?_
       simp (decide := true) only [TF, EV, q1, q2, q3, q4, q5, hml, q6, dcsD, cz0, List.map_nil, List.length_nil, ↓reduceIte, Int.reduceToNat]
       refine hK _ _ (by kernel_rfl) ?_
       clear hK K
       refine WP.seq ?_
       refine WP.sr [10, 11, 68] (by kernel_rfl) fun K hK => ?_
       refine runOps.take 4 fun J hJ => ?_
       simp (decide := true) only [TF, EV, q1, q2, q3, q4, q5, hml, q6, dcsD, cz0, List.map_nil, List.length_nil, ↓reduceIte, Int.reduceToNat]
       refine hJ _ _ ?_; clear hJ J
       refine runOps.part 64 rfl (fun q7 => ?_) (fun q7 => ?_)
       ·
        have hsc := run_no (l := putR l m p) (r := r) (by have h := q7; simp at h; simp [h])
        simp (decide := true) only [TF, EV, q1, q2, q3, q4, q5, hml, q6, q7, hsc, dcsD, cz0, List.map_nil, List.length_nil, ↓reduceIte, Int.reduceToNat]
        refine hK _ _ ?_; clear hK K
        refine WP.cond (b := true) (by rfl) (fun _ => ?_) nofun
        refine WP.sr [8] (by kernel_rfl) fun K hK => ?_
        simp (decide := true) only [TF, EV, q1, q2, q3, q4, q5, hml, q6, q7, hsc, dcsD, cz0, List.map_nil, List.length_nil, ↓reduceIte, Int.reduceToNat]
        refine CallK.pure (c_live) rfl rfl (by simp [-List.map_take]) ?_
        simp (decide := true) only [TF, EV, q1, q2, q3, q4, q5, hml, q6, q7, hsc, dcsD, cz0, List.map_nil, List.length_nil, ↓reduceIte, Int.reduceToNat]
        refine hK _ _ ?_; clear hK K
        refine WP.ret ?_
        exact Ends.pure (.inr rfl) rfl (Le.of_eq (by simp (decide := true) only [St.get, lk, W, q1, q2, q3, q4, q5, hml, q6, q7, hsc, ↓reduceIte])) (by simp)
       ·
        have h2 := q7
        simp (decide := true) only [TF, EV, q1, q2, q3, q4, q5, hml, q6, q7, dcsD, cz0, List.map_nil, List.length_nil, ↓reduceIte, Int.reduceToNat]
        refine CallK.pure (c_check (putR l m p) false (by omega) nofun hN2.ok) rfl rfl (by simp [-List.map_take]) ?_
        simp (decide := true) only [TF, EV, q1, q2, q3, q4, q5, hml, q6, q7, dcsD, cz0, List.map_nil, List.length_nil, ↓reduceIte, Int.reduceToNat]
        refine hK _ _ ?_; clear hK K
        refine WP.cond (b := _) rfl (fun q8 => ?_) (fun q8 => ?_)
        ·
         have hsc : (runD (putR l m p) r).scopes = [] := by rw [runD_1 q8]; rfl
         refine WP.sr [8] (by kernel_rfl) fun K hK => ?_
         simp (decide := true) only [TF, EV, q1, q2, q3, q4, q5, hml, q6, q7, q8, hsc, dcsD, cz0, List.map_nil, List.length_nil, ↓reduceIte, Int.reduceToNat]
         refine CallK.pure (c_live) rfl rfl (by simp [-List.map_take]) ?_
         simp (decide := true) only [TF, EV, q1, q2, q3, q4, q5, hml, q6, q7, q8, hsc, dcsD, cz0, List.map_nil, List.length_nil, ↓reduceIte, Int.reduceToNat]
         refine hK _ _ ?_; clear hK K
         refine WP.ret ?_
         exact Ends.pure (.inr rfl) rfl (Le.of_eq (by simp (decide := true) only [St.get, lk, W, q1, q2, q3, q4, q5, hml, q6, q7, q8, hsc, ↓reduceIte])) (by simp)
        ·
         obtain ⟨e1, e2, e3, e4⟩ := run_put hpd h0 q8 h2
         refine WP.skip ?_
         show WP _ _ _ _ _ _
         refine WP.sr [8] (by kernel_rfl) fun K hK => ?_
         simp (decide := true) only [TF, EV, q1, q2, q3, q4, q5, hml, q6, q7, q8, e1, e2, e3, e4, dcsD, cz0, List.map_nil, List.length_nil, ↓reduceIte, Int.reduceToNat]
         refine CallK.pure (c_same2 (runD l r).scopes (runD l r).scopes (runD (putR l m p) r).ns (runD l r).ns (by have := hrk.1; omega) (fun h => by rw [← e2]; exact hrk2.2.1 h) hrk.2.1) rfl rfl (by simp [-List.map_take]) ?_
         simp (decide := true) only [TF, EV, q1, q2, q3, q4, q5, hml, q6, q7, q8, e1, e2, e3, e4, dcsD, cz0, List.map_nil, List.length_nil, ↓reduceIte, Int.reduceToNat]
         refine CallK.pure (c_live) rfl rfl (by simp [-List.map_take]) ?_
         simp (decide := true) only [TF, EV, q1, q2, q3, q4, q5, hml, q6, q7, q8, e1, e2, e3, e4, dcsD, cz0, List.map_nil, List.length_nil, ↓reduceIte, Int.reduceToNat]
         refine hK _ _ ?_; clear hK K
         refine WP.ret ?_
         exact Ends.pure (.inr rfl) rfl (Le.of_eq (by simp (decide := true) only [St.get, lk, W, q1, q2, q3, q4, q5, hml, q6, q7, q8, e1, e2, e3, e4, ↓reduceIte])) (by simp)
end Go.Proofs
set_option linter.unusedVariables false
set_option maxRecDepth 100000
namespace Go.Proofs.YtahpinmifmdpgaaGreatDoor.RwDenies
open Go Go.Id Go.Proofs Go.ChangeShapes Go.ChangeMaps Go.WideShapes Go.ChangeAt Go.RowKit Go.Proofs.YtahpinmifmdpgaaGreatDoor.Rw
theorem contract (H : Type) (enc : TypeId × Value → H) (W : World) (base : Nat) (args : Array Value) (ds gs : List (DataW H)) (before : List MemPlace)
    (hval : ∀ (j : Nat) t v, Tryz.f7.params[j]? = some t → args[j]? = some v → Value.okWide Tryz.prog W .any base t v)
    (hW : DataW.Whole enc Tryz.prog Tryz.f7.params.toList Rows.decideDeniesSpec.vars false W args.toList ds gs before) (hL : laidMetH Tryz.prog laidL W) (hS : W.ShapedOpen Tryz.prog) :
    Calls Tryz.prog 7 args W fun e W' => ∃ v, e = .returned v ∧ Rows.decideDeniesSpec.post enc Tryz.prog Tryz.f7 false true false false W args v W' := by
  have hW' := hW
  obtain ⟨p, q, hA0, hV, rfl, hfz, hnd⟩ := hW
  have hA : DataW.TrodAll enc Tryz.prog W 0 (fun _ => true) true Tryz.f7.params.toList args.toList ds p := hA0
  rw [Tryz.params7] at hA hval
  obtain ⟨al⟩ := args
  dsimp only at hA
  obtain ⟨v0, _, d0, _, p_0, _, rfl, rfl, rfl, h0, hA⟩ := trodAll_cons hA
  obtain ⟨v1, _, d1, _, p_1, _, rfl, rfl, rfl, h1, hA⟩ := trodAll_cons hA
  obtain ⟨v2, _, d2, _, p_2, _, rfl, rfl, rfl, h2, hA⟩ := trodAll_cons hA
  obtain ⟨v3, _, d3, _, p_3, _, rfl, rfl, rfl, h3, hA⟩ := trodAll_cons hA
  obtain ⟨rfl, rfl, rfl⟩ := trodAll_nil hA
  obtain ⟨rfl, rfl⟩ := trodVars_none hV
  obtain ⟨l0, nl0, hn0, hnl0, hb0, hr0, r0⟩ := arg_rules (hval 0 22 v0 rfl rfl) h0
  obtain ⟨p1, hb1, hr1, r1⟩ := arg_rule (hval 1 44 v1 rfl rfl) h1
  obtain ⟨q2, hb2, r2⟩ := arg_req (hval 2 25 v2 rfl rfl) h2
  obtain ⟨n3, r3⟩ := arg_int (hval 3 3 v3 rfl rfl) h3
  refine (CallP.run (c_l_denies l0 nl0 hn0 hnl0 hb0 hr0 p1 hb1 hr1 q2 hb2 n3) W (polI_of hL hS) (heap_of hS) [v0, v1, v2, v3] rfl (Rw.consR r0 (Rw.consR r1 (Rw.consR r2 (Rw.one r3))))).mono ?_
  rintro e W' ⟨v, rfl, hr, hb⟩
  cases hr
  exact ⟨_, rfl, post_all hW' rfl hb (of_decide_eq_true (by kernel_rfl)) (by kernel_rfl) rfl rfl rfl⟩
abbrev wit : Array Value := #[.slice none 0 0, .agg #[.string ⟨#[]⟩, .bool false, .slice none 0 0, .slice none 0 0, .int .i64 0, .int .i64 0], .agg #[.string ⟨#[]⟩, .string ⟨#[]⟩, .string ⟨#[]⟩, .slice none 0 0, .slice none 0 0, .int .i64 0, .bool false, .int .i64 0, .int .i64 0, .int .i64 0], .int .i64 0]
theorem reads (os : Os) {H : Type} (enc : TypeId × Value → H) : (DataW.whole enc Tryz.prog (memW os wit) Tryz.f7.params.toList Rows.decideDeniesSpec.vars false wit.toList 8).map (fun x => (x.1, x.2.1)) = some ([.nil, .agg [.lit (.string []), .lit (.bool false), .nil, .nil, .lit (.int .i64 0), .lit (.int .i64 0)], .agg [.lit (.string []), .lit (.string []), .lit (.string []), .nil, .nil, .lit (.int .i64 0), .lit (.bool false), .lit (.int .i64 0), .lit (.int .i64 0), .lit (.int .i64 0)], .lit (.int .i64 0)], []) := by kernel_rfl
theorem lifted (os : Os) (started : os.Started) (H : Type) (enc : TypeId × Value → H) (F : Stop.Interp) :
    ReturnsInHanded {} Tryz.checked os 7 .any ((OpenSpec.ofChange Rows.decideDeniesSpec).preRow enc Tryz.prog Tryz.f7 Rows.decideDeniesRow.domain false Rows.decideDeniesRow.laid) (((OpenSpec.ofChange Rows.decideDeniesSpec).at F).post enc Tryz.prog Tryz.f7 false true false false) := by
  obtain ⟨⟨x1, x2, x3⟩, hx, hx1⟩ := Option.map_eq_some_iff.1 (reads os enc)
  simp only [Prod.mk.injEq] at hx1
  obtain ⟨rfl, rfl⟩ := hx1
  refine returnsInHanded_of_row (C := Tryz.checked) (s := OpenSpec.ofChange Rows.decideDeniesSpec) own started (by kernel_rfl) Tryz.func7
    (witness_row_atRef (enc := enc) (C := Tryz.checked) false (laidWorld os) wit rfl (by kernel_rfl) (by kernel_rfl) (by kernel_rfl)
      (OpenSpec.preRow_of_cond 8 hx (by kernel_rfl) (fun k hk => by cases hk) (by kernel_rfl) (laid_met os _))) ?_
  intro W base args ds gs before hval hW _ _ _ hL hS _
  exact contract H enc W base args ds gs before hval hW hL hS
theorem said : Rows.DecideDeniesSaid :=
  OpenClaim.holds_of_cond 7 Tryz.f7 rfl rfl rfl rfl rfl rfl rfl ⟨rfl, rfl, rfl, rfl, rfl⟩ rfl rfl rfl rfl rfl (by kernel_rfl) Tryz.func7 (by kernel_rfl)
    (of_decide_eq_true (by kernel_rfl)) (by unfold Func.isWrapper; first | (rw [if_pos (by decide +kernel)]; kernel_rfl) | (rw [if_neg (by decide +kernel)]; exact ⟨rfl, rfl⟩))
    (fun os started H enc _ F => by rw [OpenClaim.pre_eq_preRow]; exact lifted os started H enc F)
theorem plain (f : FuncId) (fn : Func) (hf : Tryz.pinned.checked.prog.funcNamed Rows.decideDeniesRow.func = some f) (hfn : Tryz.pinned.checked.prog.funcs[f]? = some fn) :
    true = Tryz.pinned.checked.prog.looks [] ∧ ∀ (j : Nat) t, fn.params[j]? = some t → Tryz.pinned.checked.prog.wantsStandIn t = false := by
  obtain rfl : f = 7 := Option.some.inj ((show Tryz.prog.funcNamed Rows.decideDeniesRow.func = some 7 by kernel_rfl).symm.trans hf) |>.symm
  obtain rfl : fn = Tryz.f7 := (Option.some.inj (Tryz.func7.symm.trans hfn)).symm
  refine ⟨by kernel_rfl, fun j t ht => ?_⟩
  have hall : (Tryz.f7.params.toList.all fun t => Tryz.prog.wantsStandIn t == false) = true := by kernel_rfl
  exact eq_of_beq (List.all_eq_true.1 hall t (by simpa using Array.mem_of_getElem? ht))
theorem card : Rows.DecideDeniesCardSaid :=
  Claim7.holds_tied_plain_at .later [] _ _ _ _ said (fun _ h => by cases h) (by kernel_rfl) (fun _ h => by cases h) decideDenies_row_tie rfl ⟨rfl, rfl⟩ (by kernel_rfl) rfl plain (by kernel_rfl)
end Go.Proofs.YtahpinmifmdpgaaGreatDoor.RwDenies
#print axioms Go.Proofs.YtahpinmifmdpgaaGreatDoor.RwDenies.card
