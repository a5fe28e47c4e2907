import Derived.Test.YthepmnlpfhmddaaGreatDoorG11
import Derived.Test.YthepmnlpfhmddaaGreatDoorG10
import Derived.Test.YthepmnlpfhmddaaGreatDoorG04
import Derived.ChangeMaps5
set_option linter.unusedVariables false
set_option linter.unusedSimpArgs false
set_option maxRecDepth 10000
namespace Go.Proofs
open Go Go.Id
set_option maxHeartbeats 16000000
set_option maxRecDepth 100000
theorem c_l_updates (l : List Opd) (nl : Bool) (hn : l.length ≤ 9223372036854775807) (hnl : nl = true → l = []) (hb : ∀ o ∈ l, o.big) (p : Par) (hpn : p.keys.length ≤ 9223372036854775807) (hpl : p.nk = true → p.keys = []) (q : Par) (hqn : q.keys.length ≤ 9223372036854775807) (hql : q.nk = true → q.keys = []) (r : Par) (hrn : r.keys.length ≤ 9223372036854775807) (hrl : r.nk = true → r.keys = []) (now : Int) : CallP Pr 8 [.slice 12 nl (l.map Opd.cs) none, .agg [.str p.id, .str p.addr, .slice 6 p.nk (p.keys.map Key.cs) none, .int .i64 p.f, .int .i64 p.u], .agg [.str q.id, .str q.addr, .slice 6 q.nk (q.keys.map Key.cs) none, .int .i64 q.f, .int .i64 q.u], .agg [.str r.id, .str r.addr, .slice 6 r.nk (r.keys.map Key.cs) none, .int .i64 r.f, .int .i64 r.u], .int .i64 now] (.bool true) := by
 refine CallP.of_wp Tryz.func8 rfl (by kernel_rfl) Tryz.ntmps8 (by simp) ?_
 simp only [frameOf, Nat.reduceAdd, Nat.zero_add]
 refine WP.sr [0, 4, 6, 7, 8] (by kernel_rfl) fun K hK => ?_
 simp (decide := true) only [TF, EV, Par.cs, ↓reduceIte, Int.reduceToNat]
 refine hK _ _ ?_; clear hK K
 refine WP.seq ?_
 refine WP.sr [0, 4, 6, 7, 8, 27] (by kernel_rfl) fun K hK => ?_
 simp (decide := true) only [TF, EV, Par.cs, ↓reduceIte, Int.reduceToNat]
 refine CallK.pure (c_live) rfl rfl (by simp [-List.map_take]) ?_
 simp (decide := true) only [TF, EV, Par.cs, ↓reduceIte, Int.reduceToNat]
 refine hK _ _ ?_; clear hK K
 refine WP.cond (b := false) (by rfl) nofun (fun _ => ?_)
 refine WP.skip ?_
 show WP _ _ _ _ _ _
 refine WP.seq ?_
 refine WP.sr [0, 4, 6, 7, 8, 41] (by kernel_rfl) fun K hK => ?_
 simp (decide := true) only [TF, EV, Par.cs, ↓reduceIte, Int.reduceToNat]
 refine CallK.pure (c_long l nl hn hnl hb 10 (by decide)) rfl rfl (by simp [-List.map_take]) ?_
 refine runOps.take 1 fun J hJ => ?_
 simp (decide := true) only [TF, EV, Par.cs, ↓reduceIte, Int.reduceToNat]
 refine hJ _ _ ?_; clear hJ J
 refine runOps.part 30 rfl (fun q1 => ?_) (fun q1 => ?_)
 ·
  simp (decide := true) only [TF, EV, q1, Par.cs, ↓reduceIte, Int.reduceToNat]
  refine hK _ _ ?_; clear hK K
  refine WP.cond (b := true) (by rfl) (fun _ => ?_) nofun
  refine WP.sr [10] (by kernel_rfl) fun K hK => ?_
  simp (decide := true) only [TF, EV, q1, Par.cs, ↓reduceIte, Int.reduceToNat]
  refine hK _ _ ?_; clear hK K
  refine WP.ret ?_
  exact Ends.pure (.inr rfl) rfl (Le.of_eq (by simp (decide := true) only [St.get, lk, W, q1, ↓reduceIte])) (by simp)
 ·
  have hlg : longB l 10 = false := by simpa using q1
  obtain ⟨hl10, hlo⟩ := longB_no hb hlg
  have hl1k : l.length ≤ 1000 := by omega
  obtain ⟨hr1, hr2⟩ := run_ok l ([], 0) TOk.nil hlo
  simp (decide := true) only [TF, EV, q1, Par.cs, ↓reduceIte, Int.reduceToNat]
  refine CallK.pure (c_r_great43 p hpn hpl) rfl rfl (by simp [-List.map_take]) ?_
  refine runOps.take 2 fun J hJ => ?_
  simp (decide := true) only [TF, EV, q1, Par.cs, ↓reduceIte, Int.reduceToNat]
  refine hJ _ _ ?_; clear hJ J
  refine runOps.part 34 rfl (fun q2 => ?_) (fun q2 => ?_)
  ·
   simp (decide := true) only [TF, EV, q1, q2, Par.cs, ↓reduceIte, Int.reduceToNat]
   refine hK _ _ ?_; clear hK K
   refine WP.cond (b := true) (by rfl) (fun _ => ?_) nofun
   refine WP.sr [10] (by kernel_rfl) fun K hK => ?_
   simp (decide := true) only [TF, EV, q1, q2, Par.cs, ↓reduceIte, Int.reduceToNat]
   refine hK _ _ ?_; clear hK K
   refine WP.ret ?_
   exact Ends.pure (.inr rfl) rfl (Le.of_eq (by simp (decide := true) only [St.get, lk, W, q1, q2, ↓reduceIte])) (by simp)
  ·
   have hgp : greatP p = false := by simpa using q2
   obtain ⟨hp, hip, hadp, hkp⟩ := great_p hpl hgp
   obtain ⟨ha1, ha2⟩ := hr1.anch hp now
   simp (decide := true) only [TF, EV, q1, q2, Par.cs, ↓reduceIte, Int.reduceToNat]
   refine CallK.pure (c_r_great43 q hqn hql) rfl rfl (by simp [-List.map_take]) ?_
   refine runOps.take 2 fun J hJ => ?_
   simp (decide := true) only [TF, EV, q1, q2, Par.cs, ↓reduceIte, Int.reduceToNat]
   refine hJ _ _ ?_; clear hJ J
   refine runOps.part 38 rfl (fun q3 => ?_) (fun q3 => ?_)
   ·
    simp (decide := true) only [TF, EV, q1, q2, q3, Par.cs, ↓reduceIte, Int.reduceToNat]
    refine hK _ _ ?_; clear hK K
    refine WP.cond (b := true) (by rfl) (fun _ => ?_) nofun
    refine WP.sr [10] (by kernel_rfl) fun K hK => ?_
    simp (decide := true) only [TF, EV, q1, q2, q3, Par.cs, ↓reduceIte, Int.reduceToNat]
    refine hK _ _ ?_; clear hK K
    refine WP.ret ?_
    exact Ends.pure (.inr rfl) rfl (Le.of_eq (by simp (decide := true) only [St.get, lk, W, q1, q2, q3, ↓reduceIte])) (by simp)
   ·
    have hgq : greatP q = false := by simpa using q3
    obtain ⟨hq, hiq, hadq, hkq⟩ := great_p hql hgq
    simp (decide := true) only [TF, EV, q1, q2, q3, Par.cs, ↓reduceIte, Int.reduceToNat]
    refine CallK.pure (c_r_great43 r hrn hrl) rfl rfl (by simp [-List.map_take]) ?_
    simp (decide := true) only [TF, EV, q1, q2, q3, Par.cs, ↓reduceIte, Int.reduceToNat]
    refine hK _ _ ?_; clear hK K
    refine WP.cond (b := _) rfl (fun q4 => ?_) (fun q4 => ?_)
    ·
     refine WP.sr [10] (by kernel_rfl) fun K hK => ?_
     simp (decide := true) only [TF, EV, q1, q2, q3, q4, Par.cs, ↓reduceIte, Int.reduceToNat]
     refine hK _ _ ?_; clear hK K
     refine WP.ret ?_
     exact Ends.pure (.inr rfl) rfl (Le.of_eq (by simp (decide := true) only [St.get, lk, W, q1, q2, q3, q4, ↓reduceIte])) (by simp)
    ·
     have hgr : greatP r = false := by assumption
     obtain ⟨hr, hir, hadr, hkr⟩ := great_p hrl hgr
     have htq := text_len q
     have htr := text_len r
     have hsq := sign_len (l := p.keys) (s := (textP q).1) (now := now) (great_ids hgp)
     have hsr := sign_len (l := p.keys) (s := (textP r).1) (now := now) (great_ids hgp)
     refine WP.skip ?_
     show WP _ _ _ _ _ _
     refine WP.sr [4, 6, 7, 8, 11] (by kernel_rfl) fun K hK => ?_
     simp (decide := true) only [TF, EV, q1, q2, q3, q4, Par.cs, ↓reduceIte, Int.reduceToNat]
     refine CallK.imp (c_run_at 3 4 (by decide) l nl hl1k hnl hlo) rfl rfl (by simp [lk, BClo]) (by simp [lk]) (by simp [lk, fg]) ?_
     simp (decide := true) only [TF, EV, q1, q2, q3, q4, Par.cs, ↓reduceIte, Int.reduceToNat]
     refine hK _ _ ?_; clear hK K
     refine WP.sr [4, 6, 7, 8, 11, 12, 13] (by kernel_rfl) fun K hK => ?_
     simp (decide := true) only [TF, EV, q1, q2, q3, q4, Par.cs, ↓reduceIte, Int.reduceToNat]
     refine CallK.pure (c_m_text q hq) rfl rfl (by simp [-List.map_take]) ?_
     simp (decide := true) only [TF, EV, q1, q2, q3, q4, Par.cs, ↓reduceIte, Int.reduceToNat]
     refine hK _ _ ?_; clear hK K
     refine WP.sr [4, 6, 7, 8, 11, 12, 13, 14, 15] (by kernel_rfl) fun K hK => ?_
     simp (decide := true) only [TF, EV, q1, q2, q3, q4, Par.cs, ↓reduceIte, Int.reduceToNat]
     refine CallK.pure (c_m_sign p.keys p.nk hp.2.2.1 hp.2.2.2.1 hp.2.2.2.2 (textP q).1 (by omega) now) rfl rfl (by simp [-List.map_take]) ?_
     simp (decide := true) only [TF, EV, q1, q2, q3, q4, Par.cs, ↓reduceIte, Int.reduceToNat]
     refine hK _ _ ?_; clear hK K
     refine WP.seq ?_
     refine WP.sr [4, 6, 7, 8, 11, 12, 14, 76] (by kernel_rfl) fun K hK => ?_
     simp (decide := true) only [TF, EV, q1, q2, q3, q4, Par.cs, ↓reduceIte, Int.reduceToNat]
     refine CallK.imp (c_anchor_at 3 4 (by decide) (runS l ([], 0)).1 (runS l ([], 0)).2 hr1.ok p hp now) rfl rfl (by simp [lk, BClo]) (by simp [lk]) (by simp [lk, fg]) ?_
     refine runOps.take 2 fun J hJ => ?_
     simp (decide := true) only [TF, EV, q1, q2, q3, q4, Par.cs, ↓reduceIte, Int.reduceToNat]
     refine hJ _ _ ?_; clear hJ J
     refine runOps.part 62 rfl (fun q5 => ?_) (fun q5 => ?_)
     ·
      simp (decide := true) only [TF, EV, q1, q2, q3, q4, q5, Par.cs, ↓reduceIte, Int.reduceToNat]
      refine hK _ _ ?_; clear hK K
      refine WP.cond (b := true) (by rfl) (fun _ => ?_) nofun
      refine WP.sr [10] (by kernel_rfl) fun K hK => ?_
      simp (decide := true) only [TF, EV, q1, q2, q3, q4, q5, Par.cs, ↓reduceIte, Int.reduceToNat]
      refine hK _ _ ?_; clear hK K
      refine WP.ret ?_
      exact Ends.pure (.inr rfl) rfl (Le.of_eq (by simp (decide := true) only [St.get, lk, W, q1, q2, q3, q4, q5, ↓reduceIte])) (by simp)
     ·
      have hA : (anch (runS l ([], 0)).1 (runS l ([], 0)).2 p now).1 = 0 := by simpa using (by assumption : ((anch (runS l ([], 0)).1 (runS l ([], 0)).2 p now).1 != 0) = false)
      refine runOps.take 4 fun J hJ => ?_
      simp (decide := true) only [TF, EV, q1, q2, q3, q4, q5, Par.cs, ↓reduceIte, Int.reduceToNat]
      refine hJ _ _ ?_; clear hJ J
      refine runOps.part 66 rfl (fun q6 => ?_) (fun q6 => ?_)
      ·
       simp (decide := true) only [TF, EV, q1, q2, q3, q4, q5, q6, Par.cs, ↓reduceIte, Int.reduceToNat]
       refine hK _ _ ?_; clear hK K
       refine WP.cond (b := true) (by rfl) (fun _ => ?_) nofun
       refine WP.sr [10] (by kernel_rfl) fun K hK => ?_
       simp (decide := true) only [TF, EV, q1, q2, q3, q4, q5, q6, Par.cs, ↓reduceIte, Int.reduceToNat]
       refine hK _ _ ?_; clear hK K
       refine WP.ret ?_
       exact Ends.pure (.inr rfl) rfl (Le.of_eq (by simp (decide := true) only [St.get, lk, W, q1, q2, q3, q4, q5, q6, ↓reduceIte])) (by simp)
      ·
       have hT : (textP q).2 = 0 := by simpa using (by assumption : ((textP q).2 != 0) = false)
       refine runOps.take 4 fun J hJ => ?_
       simp (decide := true) only [TF, EV, q1, q2, q3, q4, q5, q6, Par.cs, ↓reduceIte, Int.reduceToNat]
       refine hJ _ _ ?_; clear hJ J
       refine runOps.part 70 rfl (fun q7 => ?_) (fun q7 => ?_)
       ·
        simp (decide := true) only [TF, EV, q1, q2, q3, q4, q5, q6, q7, Par.cs, ↓reduceIte, Int.reduceToNat]
        refine hK _ _ ?_; clear hK K
        refine WP.cond (b := true) (by rfl) (fun _ => ?_) nofun
        refine WP.sr [10] (by kernel_rfl) fun K hK => ?_
        simp (decide := true) only [TF, EV, q1, q2, q3, q4, q5, q6, q7, Par.cs, ↓reduceIte, Int.reduceToNat]
        refine hK _ _ ?_; clear hK K
        refine WP.ret ?_
        exact Ends.pure (.inr rfl) rfl (Le.of_eq (by simp (decide := true) only [St.get, lk, W, q1, q2, q3, q4, q5, q6, q7, ↓reduceIte])) (by simp)
       ·
        have hS : (signP p.keys (textP q).1 now).2 = 0 := by simpa using (by assumption : ((signP p.keys (textP q).1 now).2 != 0) = false)
        simp (decide := true) only [TF, EV, q1, q2, q3, q4, q5, q6, q7, Par.cs, ↓reduceIte, Int.reduceToNat]
        refine hK _ _ ?_; clear hK K
        refine WP.cond (b := _) rfl (fun q8 => ?_) (fun q8 => ?_)
        ·
         refine WP.sr [10] (by kernel_rfl) fun K hK => ?_
         simp (decide := true) only [TF, EV, q1, q2, q3, q4, q5, q6, q7, q8, Par.cs, ↓reduceIte, Int.reduceToNat]
         refine hK _ _ ?_; clear hK K
         refine WP.ret ?_
         exact Ends.pure (.inr rfl) rfl (Le.of_eq (by simp (decide := true) only [St.get, lk, W, q1, q2, q3, q4, q5, q6, q7, q8, ↓reduceIte])) (by simp)
        ·
         have hid : q.id = p.id := by simp_all
         obtain ⟨hz, hsg⟩ := sign_done hS
         have hw := sgK_word hz
         obtain ⟨hA1, hA2⟩ := anch_find hA
         have hf : findT (anch (runS l ([], 0)).1 (runS l ([], 0)).2 p now).2.1 q.id = some p := by rw [hA2, hid]; exact find_put _ _ _ _
         have hU := upd_signed (c := (anch (runS l ([], 0)).1 (runS l ([], 0)).2 p now).2.2) hf hT hS hw
         obtain ⟨hTp, hTc⟩ := text_done hT
         refine WP.skip ?_
         show WP _ _ _ _ _ _
         refine WP.sr [4, 6, 7, 8, 11, 16] (by kernel_rfl) fun K hK => ?_
         simp (decide := true) only [TF, EV, q1, q2, q3, q4, q5, q6, q7, q8, Par.cs, ↓reduceIte, Int.reduceToNat]
         refine CallK.imp (c_update_at 3 4 (by decide) (anch (runS l ([], 0)).1 (runS l ([], 0)).2 p now).2.1 (anch (runS l ([], 0)).1 (runS l ([], 0)).2 p now).2.2 ha1.ok (textP q).1 (signP p.keys (textP q).1 now).1 (by omega) (by omega) now) rfl rfl (by simp [lk, BClo]) (by simp [lk]) (by simp [lk, fg]) ?_
         simp (decide := true) only [TF, EV, q1, q2, q3, q4, q5, q6, q7, q8, Par.cs, ↓reduceIte, Int.reduceToNat]
         refine hK _ _ ?_; clear hK K
         refine WP.seq ?_
         refine WP.sr [4, 6, 7, 8, 11, 16, 88] (by kernel_rfl) fun K hK => ?_
         simp (decide := true) only [TF, EV, q1, q2, q3, q4, q5, q6, q7, q8, Par.cs, ↓reduceIte, Int.reduceToNat]
         refine hK _ _ ?_; clear hK K
         refine WP.cond (b := _) rfl (fun q9 => ?_) (fun q9 => ?_)
         ·
          rw [if_pos (by simpa using q9)] at hU
          refine WP.sr [10] (by kernel_rfl) fun K hK => ?_
          simp (decide := true) only [TF, EV, q1, q2, q3, q4, q5, q6, q7, q8, q9, hU, Par.cs, ↓reduceIte, Int.reduceToNat]
          refine hK _ _ ?_; clear hK K
          refine WP.ret ?_
          exact Ends.pure (.inr rfl) rfl (Le.of_eq (by simp (decide := true) only [St.get, lk, W, q1, q2, q3, q4, q5, q6, q7, q8, q9, hU, ↓reduceIte])) (by simp)
         ·
          rw [if_neg (by simpa using q9)] at hU
          have hM := (ha1.put q.id (x := { q with nk := false }) ⟨nk_ok hq, check_keys (p := q) (by rw [hTc]; rfl)⟩).1
          have hpp := part_put (ms := (anch (runS l ([], 0)).1 (runS l ([], 0)).2 p now).2.1) (c := (anch (runS l ([], 0)).1 (runS l ([], 0)).2 p now).2.2) hTc
          have hsm := same_nk q
          refine WP.skip ?_
          show WP _ _ _ _ _ _
          refine WP.seq ?_
          refine WP.sr [4, 6, 7, 8, 11, 92] (by kernel_rfl) fun K hK => ?_
          simp (decide := true) only [TF, EV, q1, q2, q3, q4, q5, q6, q7, q8, q9, hU, hsm, Par.cs, ↓reduceIte, Int.reduceToNat]
          refine hK _ _ ?_; clear hK K
          refine WP.cond (b := false) (by rfl) nofun (fun _ => ?_)
          refine WP.skip ?_
          show WP _ _ _ _ _ _
          refine WP.sr [4, 6, 7, 8, 11, 17, 18] (by kernel_rfl) fun K hK => ?_
          simp (decide := true) only [TF, EV, q1, q2, q3, q4, q5, q6, q7, q8, q9, hU, hsm, Par.cs, ↓reduceIte, Int.reduceToNat]
          refine CallK.imp (c_tpart_at 3 4 (by decide) (putT (anch (runS l ([], 0)).1 (runS l ([], 0)).2 p now).2.1 (anch (runS l ([], 0)).1 (runS l ([], 0)).2 p now).2.2 q.id { q with nk := false }) (putTC (anch (runS l ([], 0)).1 (runS l ([], 0)).2 p now).2.1 (anch (runS l ([], 0)).1 (runS l ([], 0)).2 p now).2.2 q.id) hM.ok q.id q.f _ hpp (fun f => ren_par f _ _ rfl)) rfl rfl (by simp [lk, BClo]) (by simp [lk]) (by simp [lk, fg]) ?_
          simp (decide := true) only [TF, EV, q1, q2, q3, q4, q5, q6, q7, q8, q9, hU, hsm, Par.cs, ↓reduceIte, Int.reduceToNat]
          refine hK _ _ ?_; clear hK K
          refine WP.sr [4, 6, 7, 8, 11, 17, 18, 19, 20] (by kernel_rfl) fun K hK => ?_
          simp (decide := true) only [TF, EV, q1, q2, q3, q4, q5, q6, q7, q8, q9, hU, hsm, Par.cs, ↓reduceIte, Int.reduceToNat]
          refine CallK.pure (c_m_text r hr) rfl rfl (by simp [-List.map_take]) ?_
          simp (decide := true) only [TF, EV, q1, q2, q3, q4, q5, q6, q7, q8, q9, hU, hsm, Par.cs, ↓reduceIte, Int.reduceToNat]
          refine hK _ _ ?_; clear hK K
          refine WP.sr [4, 6, 7, 8, 11, 17, 18, 19, 20, 21, 22] (by kernel_rfl) fun K hK => ?_
          simp (decide := true) only [TF, EV, q1, q2, q3, q4, q5, q6, q7, q8, q9, hU, hsm, Par.cs, ↓reduceIte, Int.reduceToNat]
          refine CallK.pure (c_m_sign p.keys p.nk hp.2.2.1 hp.2.2.2.1 hp.2.2.2.2 (textP r).1 (by omega) now) rfl rfl (by simp [-List.map_take]) ?_
          simp (decide := true) only [TF, EV, q1, q2, q3, q4, q5, q6, q7, q8, q9, hU, hsm, Par.cs, ↓reduceIte, Int.reduceToNat]
          refine hK _ _ ?_; clear hK K
          refine WP.seq ?_
          refine WP.sr [4, 6, 7, 11, 17, 18, 19, 21, 138] (by kernel_rfl) fun K hK => ?_
          simp (decide := true) only [TF, EV, q1, q2, q3, q4, q5, q6, q7, q8, q9, hU, hsm, Par.cs, ↓reduceIte, Int.reduceToNat]
          refine CallK.pure (c_r_same43 { q with nk := false } q (nk_ok hq) hq) rfl rfl (by simp [-List.map_take]) ?_
          refine runOps.take 7 fun J hJ => ?_
          simp (decide := true) only [TF, EV, q1, q2, q3, q4, q5, q6, q7, q8, q9, hU, hsm, Par.cs, ↓reduceIte, Int.reduceToNat]
          refine hJ _ _ ?_; clear hJ J
          refine runOps.part 128 rfl (fun q10 => ?_) (fun q10 => ?_)
          ·
           simp (decide := true) only [TF, EV, q1, q2, q3, q4, q5, q6, q7, q8, q9, hU, hsm, q10, Par.cs, ↓reduceIte, Int.reduceToNat]
           refine hK _ _ ?_; clear hK K
           refine WP.cond (b := true) (by rfl) (fun _ => ?_) nofun
           refine WP.sr [10] (by kernel_rfl) fun K hK => ?_
           simp (decide := true) only [TF, EV, q1, q2, q3, q4, q5, q6, q7, q8, q9, hU, hsm, q10, Par.cs, ↓reduceIte, Int.reduceToNat]
           refine CallK.pure (c_r_same43 { q with nk := false } q (nk_ok hq) hq) rfl rfl (by simp [-List.map_take]) ?_
           simp (decide := true) only [TF, EV, q1, q2, q3, q4, q5, q6, q7, q8, q9, hU, hsm, q10, Par.cs, ↓reduceIte, Int.reduceToNat]
           refine hK _ _ ?_; clear hK K
           refine WP.ret ?_
           exact Ends.pure (.inr rfl) rfl (Le.of_eq (by simp (decide := true) only [St.get, lk, W, q1, q2, q3, q4, q5, q6, q7, q8, q9, hU, hsm, q10, ↓reduceIte])) (by simp)
          ·
           have hT3 : (textP r).2 = 0 := by simpa using (by assumption : ((textP r).2 != 0) = false)
           refine runOps.take 4 fun J hJ => ?_
           simp (decide := true) only [TF, EV, q1, q2, q3, q4, q5, q6, q7, q8, q9, hU, hsm, q10, Par.cs, ↓reduceIte, Int.reduceToNat]
           refine hJ _ _ ?_; clear hJ J
           refine runOps.part 132 rfl (fun q11 => ?_) (fun q11 => ?_)
           ·
            simp (decide := true) only [TF, EV, q1, q2, q3, q4, q5, q6, q7, q8, q9, hU, hsm, q10, q11, Par.cs, ↓reduceIte, Int.reduceToNat]
            refine hK _ _ ?_; clear hK K
            refine WP.cond (b := true) (by rfl) (fun _ => ?_) nofun
            refine WP.sr [10] (by kernel_rfl) fun K hK => ?_
            simp (decide := true) only [TF, EV, q1, q2, q3, q4, q5, q6, q7, q8, q9, hU, hsm, q10, q11, Par.cs, ↓reduceIte, Int.reduceToNat]
            refine CallK.pure (c_r_same43 { q with nk := false } q (nk_ok hq) hq) rfl rfl (by simp [-List.map_take]) ?_
            simp (decide := true) only [TF, EV, q1, q2, q3, q4, q5, q6, q7, q8, q9, hU, hsm, q10, q11, Par.cs, ↓reduceIte, Int.reduceToNat]
            refine hK _ _ ?_; clear hK K
            refine WP.ret ?_
            exact Ends.pure (.inr rfl) rfl (Le.of_eq (by simp (decide := true) only [St.get, lk, W, q1, q2, q3, q4, q5, q6, q7, q8, q9, hU, hsm, q10, q11, ↓reduceIte])) (by simp)
           ·
            have hS3 : (signP p.keys (textP r).1 now).2 = 0 := by simpa using (by assumption : ((signP p.keys (textP r).1 now).2 != 0) = false)
            simp (decide := true) only [TF, EV, q1, q2, q3, q4, q5, q6, q7, q8, q9, hU, hsm, q10, q11, Par.cs, ↓reduceIte, Int.reduceToNat]
            refine hK _ _ ?_; clear hK K
            refine WP.cond (b := _) rfl (fun q12 => ?_) (fun q12 => ?_)
            ·
             refine WP.sr [10] (by kernel_rfl) fun K hK => ?_
             simp (decide := true) only [TF, EV, q1, q2, q3, q4, q5, q6, q7, q8, q9, hU, hsm, q10, q11, q12, Par.cs, ↓reduceIte, Int.reduceToNat]
             refine CallK.pure (c_r_same43 { q with nk := false } q (nk_ok hq) hq) rfl rfl (by simp [-List.map_take]) ?_
             simp (decide := true) only [TF, EV, q1, q2, q3, q4, q5, q6, q7, q8, q9, hU, hsm, q10, q11, q12, Par.cs, ↓reduceIte, Int.reduceToNat]
             refine hK _ _ ?_; clear hK K
             refine WP.ret ?_
             exact Ends.pure (.inr rfl) rfl (Le.of_eq (by simp (decide := true) only [St.get, lk, W, q1, q2, q3, q4, q5, q6, q7, q8, q9, hU, hsm, q10, q11, q12, ↓reduceIte])) (by simp)
            ·
             have hid3 : r.id = p.id := by simp_all
             have hf3 : findT (putT (anch (runS l ([], 0)).1 (runS l ([], 0)).2 p now).2.1 (anch (runS l ([], 0)).1 (runS l ([], 0)).2 p now).2.2 q.id { q with nk := false }) r.id = some { q with nk := false } := by rw [hid3, ← hid]; exact find_put _ _ _ _
             refine WP.skip ?_
             show WP _ _ _ _ _ _
             refine WP.sr [4, 7, 11, 19, 21, 23] (by kernel_rfl) fun K hK => ?_
             simp (decide := true) only [TF, EV, q1, q2, q3, q4, q5, q6, q7, q8, q9, hU, hsm, q10, q11, q12, Par.cs, ↓reduceIte, Int.reduceToNat]
             refine CallK.pure (c_signing p.keys p.nk now hp.2.2.1 hp.2.2.2.1 hp.2.2.2.2) rfl rfl (by simp [-List.map_take]) ?_
             simp (decide := true) only [TF, EV, q1, q2, q3, q4, q5, q6, q7, q8, q9, hU, hsm, q10, q11, q12, Par.cs, ↓reduceIte, Int.reduceToNat]
             refine hK _ _ ?_; clear hK K
             refine WP.seq ?_
             refine WP.sr [4, 7, 11, 19, 21, 23, 155, 156] (by kernel_rfl) fun K hK => ?_
             simp (decide := true) only [TF, EV, q1, q2, q3, q4, q5, q6, q7, q8, q9, hU, hsm, q10, q11, q12, Par.cs, ↓reduceIte, Int.reduceToNat]
             refine hK _ _ ?_; clear hK K
             refine WP.block ?_
             refine WP.lp [4, 7, 11, 19, 21, 23, 155] (X := {k : Nat // k ≤ q.keys.length ∧ ∀ x ∈ q.keys.take k, x.id ≠ (sgK p.keys now).id}) (fun x => match x with | ⟨(k), _⟩ => [(156, .int .i64 k)]) (fun x => match x with | ⟨(k), _⟩ => [(3, .map (tsE (putT (anch (runS l ([], 0)).1 (runS l ([], 0)).2 p now).2.1 (anch (runS l ([], 0)).1 (runS l ([], 0)).2 p now).2.2 q.id { q with nk := false })) (putTC (anch (runS l ([], 0)).1 (runS l ([], 0)).2 p now).2.1 (anch (runS l ([], 0)).1 (runS l ([], 0)).2 p now).2.2 q.id)), (4, .box 91 [.map 3]), (1, .box 26 [.str q.id, .str q.addr, .slice 6 q.nk (q.keys.map Key.cs) none, .int .i64 q.f, .int .i64 q.u]), (6, .box 39 [.str (sgK p.keys now).id, .str (sgK p.keys now).sec, .int .i64 (sgK p.keys now).sf, .int .i64 (sgK p.keys now).su, .int .i64 (sgK p.keys now).af, .int .i64 (sgK p.keys now).au])]) (fun x => match x with | ⟨(k), _⟩ => q.keys.length - k) (by simp (decide := true) only [W, ↓reduceIte, Int.reduceToNat]; rfl) ?_ ⟨(0), ⟨Nat.zero_le _, by simp⟩⟩ ?_
             rotate_left
             · exact Weak.store (by simp [St.get, lk, W, Le.refl, q1, q2, q3, q4, q5, q6, q7, q8, q9, hU, hsm, q10, q11, q12]) (by simp [lk, W, q1, q2, q3, q4, q5, q6, q7, q8, q9, hU, hsm, q10, q11, q12]) (by simp [lk, W]) (by simp [BClo, lk]) (by simp [lk])
             rintro ⟨k, hk, hI⟩
             dsimp only
             simp only [List.cons_append, List.nil_append]
             refine WP.sr [4, 7, 11, 19, 21, 23, 155, 156, 157] (by kernel_rfl) fun K hK => ?_
             simp (decide := true) only [TF, EV, q1, q2, q3, q4, q5, q6, q7, q8, q9, hU, hsm, q10, q11, q12, hk, Par.cs, ↓reduceIte, Int.reduceToNat]
             refine hK _ _ ?_; clear hK K
             refine WP.seq ?_
             refine WP.cond (b := _) rfl (fun q13 => ?_) (fun q13 => ?_)
             ·
              have hlt := lt_of_q q13
              have hg : (q.keys.map Key.cs)[k]? = some [.str q.keys[k].id, .str q.keys[k].sec, .int .i64 q.keys[k].sf, .int .i64 q.keys[k].su, .int .i64 q.keys[k].af, .int .i64 q.keys[k].au] := getM hlt
              have hnf := nl_false hql hlt
              refine WP.skip ?_
              show WP _ _ _ _ _ _
              refine WP.seq ?_
              refine WP.block ?_
              refine WP.sr [4, 7, 11, 19, 21, 23, 25, 155, 156] (by kernel_rfl) fun K hK => ?_
              simp (decide := true) only [TF, EV, q1, q2, q3, q4, q5, q6, q7, q8, q9, hU, hsm, q10, q11, q12, hk, q13, hg, hnf, Par.cs, ↓reduceIte, Int.reduceToNat]
              refine hK _ _ ?_; clear hK K
              refine WP.sd [4, 7, 11, 19, 21, 23, 155, 156, 167] (by kernel_rfl) (by kernel_rfl) fun K hK => ?_
              simp (decide := true) only [TF, EV, q1, q2, q3, q4, q5, q6, q7, q8, q9, hU, hsm, q10, q11, q12, hk, q13, hg, hnf, Par.cs, ↓reduceIte, Int.reduceToNat]
              refine hK _ _ (by kernel_rfl) ?_
              clear hK K
              refine WP.cond (b := _) rfl (fun q14 => ?_) (fun q14 => ?_)
              ·
               refine WP.sr [10] (by kernel_rfl) fun K hK => ?_
               simp (decide := true) only [TF, EV, q1, q2, q3, q4, q5, q6, q7, q8, q9, hU, hsm, q10, q11, q12, hk, q13, hg, hnf, q14, Par.cs, ↓reduceIte, Int.reduceToNat]
               refine hK _ _ ?_; clear hK K
               refine WP.ret ?_
               exact Ends.pure (.inr rfl) rfl (Le.of_eq (by simp (decide := true) only [St.get, lk, W, q1, q2, q3, q4, q5, q6, q7, q8, q9, hU, hsm, q10, q11, q12, hk, q13, hg, hnf, q14, hI, ↓reduceIte])) (by simp)
              ·
               have hne : q.keys[k].id ≠ (sgK p.keys now).id := by simpa using q14
               refine WP.skip ?_
               show WP _ _ _ _ _ _
               refine WP.region (by kernel_rfl) fun K hK => ?_
               simp (decide := true) only [TF, EV, q1, q2, q3, q4, q5, q6, q7, q8, q9, hU, hsm, q10, q11, q12, hk, q13, hg, hnf, q14, Par.cs, ↓reduceIte, Int.reduceToNat]
               refine hK _ _ ?_; clear hK K
               show ∃ y, _ ∧ Weak _ _ _
               refine ⟨⟨k + 1, ?_⟩, ?_, ?_⟩
               ·
                refine ⟨by omega, fun x hx => ?_⟩
                rw [← List.take_append_getElem hlt] at hx
                rcases List.mem_append.1 hx with hx | hx
                · exact hI x hx
                · rw [List.mem_singleton.1 hx]; exact hne
               · dsimp only; omega
               · exact Weak.store (by simp [St.get, lk, W, Le.refl, q1, q2, q3, q4, q5, q6, q7, q8, q9, hU, hsm, q10, q11, q12, hk, q13, hg, hnf, q14, wrapS hlt (show q.keys.length ≤ 140737488355328 by omega)]) (by simp [lk, W, q1, q2, q3, q4, q5, q6, q7, q8, q9, hU, hsm, q10, q11, q12, hk, q13, hg, hnf, q14]) (by simp [lk, W]) (by simp [BClo, lk]) (by simp [lk])
             ·
              have hge := ge_of_q q13
              have hno : ∀ x ∈ q.keys, x.id ≠ (sgK p.keys now).id := by rw [List.take_of_length_le (ge_of_q q13)] at hI; exact hI
              have h26 := upd_old (c := (putTC (anch (runS l ([], 0)).1 (runS l ([], 0)).2 p now).2.1 (anch (runS l ([], 0)).1 (runS l ([], 0)).2 p now).2.2 q.id)) hf3 hT3 hS3 hw hno
              refine WP.exit ?_
              show WP _ _ _ _ _ _
              refine WP.sr [10] (by kernel_rfl) fun K hK => ?_
              simp (decide := true) only [TF, EV, q1, q2, q3, q4, q5, q6, q7, q8, q9, hU, hsm, q10, q11, q12, hk, q13, h26, Par.cs, ↓reduceIte, Int.reduceToNat]
              refine CallK.imp (c_update_at 3 4 (by decide) (putT (anch (runS l ([], 0)).1 (runS l ([], 0)).2 p now).2.1 (anch (runS l ([], 0)).1 (runS l ([], 0)).2 p now).2.2 q.id { q with nk := false }) (putTC (anch (runS l ([], 0)).1 (runS l ([], 0)).2 p now).2.1 (anch (runS l ([], 0)).1 (runS l ([], 0)).2 p now).2.2 q.id) hM.ok (textP r).1 (signP p.keys (textP r).1 now).1 (by omega) (by omega) now) rfl rfl (by simp [lk, BClo]) (by simp [lk]) (by simp [lk, fg]) ?_
              simp (decide := true) only [TF, EV, q1, q2, q3, q4, q5, q6, q7, q8, q9, hU, hsm, q10, q11, q12, hk, q13, h26, Par.cs, ↓reduceIte, Int.reduceToNat]
              refine hK _ _ ?_; clear hK K
              refine WP.ret ?_
              exact Ends.pure (.inr rfl) rfl (Le.of_eq (by simp (decide := true) only [St.get, lk, W, q1, q2, q3, q4, q5, q6, q7, q8, q9, hU, hsm, q10, q11, q12, hk, q13, h26, hI, ↓reduceIte])) (by simp)
end Go.Proofs
set_option maxRecDepth 100000
namespace Go.Proofs.YthepmnlpfhmddaaGreatDoor.RwUpdates
open Go Go.Id Go.Proofs Go.ChangeShapes Go.ChangeMaps Go.WideShapes Go.ChangeAt Go.RowKit Go.Proofs.YthepmnlpfhmddaaGreatDoor.Rw
theorem contract (H : Type) (enc : TypeId × Value → H) (W : World) (base : Nat) (args : Array Value) (ds gs : List (DataW H)) (before : List MemPlace)
    (hval : ∀ (j : Nat) t v, Tryz.f8.params[j]? = some t → args[j]? = some v → Value.okWide Tryz.prog W .any base t v)
    (hW : DataW.Whole enc Tryz.prog Tryz.f8.params.toList Rows.metadataUpdatesSpec.vars false W args.toList ds gs before) (hL : laidMetH Tryz.prog laidL W) (hS : W.ShapedOpen Tryz.prog) :
    Calls Tryz.prog 8 args W fun e W' => ∃ v, e = .returned v ∧ Rows.metadataUpdatesSpec.post enc Tryz.prog Tryz.f8 false true false false W args v W' := by
  have hW' := hW
  obtain ⟨p, q, hA0, hV, rfl, hfz, hnd⟩ := hW
  have hA : DataW.TrodAll enc Tryz.prog W 0 (fun _ => true) true Tryz.f8.params.toList args.toList ds p := hA0
  rw [Tryz.params8] at hA hval
  obtain ⟨al⟩ := args
  dsimp only at hA
  obtain ⟨v0, _, d0, _, p_0, _, rfl, rfl, rfl, h0, hA⟩ := trodAll_cons hA
  obtain ⟨v1, _, d1, _, p_1, _, rfl, rfl, rfl, h1, hA⟩ := trodAll_cons hA
  obtain ⟨v2, _, d2, _, p_2, _, rfl, rfl, rfl, h2, hA⟩ := trodAll_cons hA
  obtain ⟨v3, _, d3, _, p_3, _, rfl, rfl, rfl, h3, hA⟩ := trodAll_cons hA
  obtain ⟨v4, _, d4, _, p_4, _, rfl, rfl, rfl, h4, hA⟩ := trodAll_cons hA
  obtain ⟨rfl, rfl, rfl⟩ := trodAll_nil hA
  obtain ⟨rfl, rfl⟩ := trodVars_none hV
  obtain ⟨l0, nl0, hn0, hnl0, hb0, r0⟩ := arg_ops (hval 0 44 v0 rfl rfl) h0
  obtain ⟨p1, hn1, hnl1, r1⟩ := arg_par (hval 1 26 v1 rfl rfl) h1
  obtain ⟨p2, hn2, hnl2, r2⟩ := arg_par (hval 2 26 v2 rfl rfl) h2
  obtain ⟨p3, hn3, hnl3, r3⟩ := arg_par (hval 3 26 v3 rfl rfl) h3
  obtain ⟨n4, r4⟩ := arg_int (hval 4 3 v4 rfl rfl) h4
  refine (CallP.run (c_l_updates l0 nl0 hn0 hnl0 hb0 p1 hn1 hnl1 p2 hn2 hnl2 p3 hn3 hnl3 n4) W (polI_of hL hS) (heap_of hS) [v0, v1, v2, v3, v4] rfl (Rw.consR r0 (Rw.consR r1 (Rw.consR r2 (Rw.consR r3 (Rw.one r4)))))).mono ?_
  rintro e W' ⟨v, rfl, hr, hb⟩
  cases hr
  exact ⟨_, rfl, post_all hW' rfl hb (of_decide_eq_true (by kernel_rfl)) (by kernel_rfl) rfl rfl rfl⟩
abbrev wit : Array Value := #[.slice none 0 0, .agg #[.string ⟨#[]⟩, .string ⟨#[]⟩, .slice none 0 0, .int .i64 0, .int .i64 0], .agg #[.string ⟨#[]⟩, .string ⟨#[]⟩, .slice none 0 0, .int .i64 0, .int .i64 0], .agg #[.string ⟨#[]⟩, .string ⟨#[]⟩, .slice none 0 0, .int .i64 0, .int .i64 0], .int .i64 0]
theorem reads (os : Os) {H : Type} (enc : TypeId × Value → H) : (DataW.whole enc Tryz.prog (memW os wit) Tryz.f8.params.toList Rows.metadataUpdatesSpec.vars false wit.toList 8).map (fun x => (x.1, x.2.1)) = some ([.nil, .agg [.lit (.string []), .lit (.string []), .nil, .agg [.lit (.int .i64 0), .lit (.int .i64 0)]], .agg [.lit (.string []), .lit (.string []), .nil, .agg [.lit (.int .i64 0), .lit (.int .i64 0)]], .agg [.lit (.string []), .lit (.string []), .nil, .agg [.lit (.int .i64 0), .lit (.int .i64 0)]], .lit (.int .i64 0)], []) := by kernel_rfl
theorem lifted (os : Os) (started : os.Started) (H : Type) (enc : TypeId × Value → H) (F : Stop.Interp) :
    ReturnsInHanded {} Tryz.checked os 8 .any ((OpenSpec.ofChange Rows.metadataUpdatesSpec).preRow enc Tryz.prog Tryz.f8 Rows.metadataUpdatesRow.domain false Rows.metadataUpdatesRow.laid) (((OpenSpec.ofChange Rows.metadataUpdatesSpec).at F).post enc Tryz.prog Tryz.f8 false true false false) := by
  obtain ⟨⟨x1, x2, x3⟩, hx, hx1⟩ := Option.map_eq_some_iff.1 (reads os enc)
  simp only [Prod.mk.injEq] at hx1
  obtain ⟨rfl, rfl⟩ := hx1
  refine returnsInHanded_of_row (C := Tryz.checked) (s := OpenSpec.ofChange Rows.metadataUpdatesSpec) own started (by kernel_rfl) Tryz.func8
    (witness_row_atRef (enc := enc) (C := Tryz.checked) false (laidWorld os) wit rfl (by kernel_rfl) (by kernel_rfl) (by kernel_rfl)
      (OpenSpec.preRow_of_cond 8 hx (by kernel_rfl) (fun k hk => by cases hk) (by kernel_rfl) (laid_met os _))) ?_
  intro W base args ds gs before hval hW _ _ _ hL hS _
  exact contract H enc W base args ds gs before hval hW hL hS
theorem said : Rows.MetadataUpdatesSaid :=
  OpenClaim.holds_of_cond 8 Tryz.f8 rfl rfl rfl rfl rfl rfl rfl ⟨rfl, rfl, rfl, rfl, rfl⟩ rfl rfl rfl rfl rfl (by kernel_rfl) Tryz.func8 (by kernel_rfl)
    (of_decide_eq_true (by kernel_rfl)) (by unfold Func.isWrapper; first | (rw [if_pos (by decide +kernel)]; kernel_rfl) | (rw [if_neg (by decide +kernel)]; exact ⟨rfl, rfl⟩))
    (fun os started H enc _ F => by rw [OpenClaim.pre_eq_preRow]; exact lifted os started H enc F)
theorem plain (f : FuncId) (fn : Func) (hf : Tryz.pinned.checked.prog.funcNamed Rows.metadataUpdatesRow.func = some f) (hfn : Tryz.pinned.checked.prog.funcs[f]? = some fn) :
    true = Tryz.pinned.checked.prog.looks [] ∧ ∀ (j : Nat) t, fn.params[j]? = some t → Tryz.pinned.checked.prog.wantsStandIn t = false := by
  obtain rfl : f = 8 := Option.some.inj ((show Tryz.prog.funcNamed Rows.metadataUpdatesRow.func = some 8 by kernel_rfl).symm.trans hf) |>.symm
  obtain rfl : fn = Tryz.f8 := (Option.some.inj (Tryz.func8.symm.trans hfn)).symm
  refine ⟨by kernel_rfl, fun j t ht => ?_⟩
  have hall : (Tryz.f8.params.toList.all fun t => Tryz.prog.wantsStandIn t == false) = true := by kernel_rfl
  exact eq_of_beq (List.all_eq_true.1 hall t (by simpa using Array.mem_of_getElem? ht))
theorem card : Rows.MetadataUpdatesCardSaid :=
  Claim7.holds_tied_plain_at .later [] _ _ _ _ said (fun _ h => by cases h) (by kernel_rfl) (fun _ h => by cases h) metadataUpdates_row_tie rfl ⟨rfl, rfl⟩ (by kernel_rfl) rfl plain (by kernel_rfl)
end Go.Proofs.YthepmnlpfhmddaaGreatDoor.RwUpdates
#print axioms Go.Proofs.YthepmnlpfhmddaaGreatDoor.RwUpdates.card
