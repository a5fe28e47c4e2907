import Derived.Test.YthepmnlpfhmddaaGreatDoorG11
import Derived.Test.YthepmnlpfhmddaaGreatDoorG10
import Derived.Test.YthepmnlpfhmddaaGreatDoorG04
import Derived.ChangeMaps5
set_option linter.unusedVariables false
set_option linter.unusedSimpArgs false
set_option maxRecDepth 10000
namespace Go.Proofs
open Go Go.Id
set_option maxHeartbeats 16000000
set_option maxRecDepth 100000
theorem c_l_newer (l : List Opd) (nl : Bool) (hn : l.length ≤ 9223372036854775807) (hnl : nl = true → l = []) (hb : ∀ o ∈ l, o.big) (l2 : List Opd) (nk2 : Bool) (hn2 : l2.length ≤ 9223372036854775807) (hnl2 : nk2 = true → l2 = []) (hb2 : ∀ o ∈ l2, o.big) (p : Par) (hpn : p.keys.length ≤ 9223372036854775807) (hpl : p.nk = true → p.keys = []) (now : Int) : CallP Pr 9 [.slice 12 nl (l.map Opd.cs) none, .slice 12 nk2 (l2.map Opd.cs) none, .agg [.str p.id, .str p.addr, .slice 6 p.nk (p.keys.map Key.cs) none, .int .i64 p.f, .int .i64 p.u], .int .i64 now] (.bool true) := by
 refine CallP.of_wp Tryz.func9 rfl (by kernel_rfl) Tryz.ntmps9 (by simp) ?_
 simp only [frameOf, Nat.reduceAdd, Nat.zero_add]
 refine WP.sr [0, 1, 3, 6] (by kernel_rfl) fun K hK => ?_
 simp (decide := true) only [TF, EV, Par.cs, zpD, ↓reduceIte, Int.reduceToNat]
 refine hK _ _ ?_; clear hK K
 refine WP.seq ?_
 refine WP.sr [0, 1, 3, 6, 16] (by kernel_rfl) fun K hK => ?_
 simp (decide := true) only [TF, EV, Par.cs, zpD, ↓reduceIte, Int.reduceToNat]
 refine CallK.pure (c_live) rfl rfl (by simp [-List.map_take]) ?_
 simp (decide := true) only [TF, EV, Par.cs, zpD, ↓reduceIte, Int.reduceToNat]
 refine hK _ _ ?_; clear hK K
 refine WP.cond (b := false) (by rfl) nofun (fun _ => ?_)
 refine WP.skip ?_
 show WP _ _ _ _ _ _
 refine WP.seq ?_
 refine WP.sr [0, 1, 3, 6, 26] (by kernel_rfl) fun K hK => ?_
 simp (decide := true) only [TF, EV, Par.cs, zpD, ↓reduceIte, Int.reduceToNat]
 refine CallK.pure (c_long l nl hn hnl hb 10 (by decide)) rfl rfl (by simp [-List.map_take]) ?_
 refine runOps.take 1 fun J hJ => ?_
 simp (decide := true) only [TF, EV, Par.cs, zpD, ↓reduceIte, Int.reduceToNat]
 refine hJ _ _ ?_; clear hJ J
 refine runOps.part 19 rfl (fun q1 => ?_) (fun q1 => ?_)
 ·
  simp (decide := true) only [TF, EV, q1, Par.cs, zpD, ↓reduceIte, Int.reduceToNat]
  refine hK _ _ ?_; clear hK K
  refine WP.cond (b := true) (by rfl) (fun _ => ?_) nofun
  refine WP.sr [8] (by kernel_rfl) fun K hK => ?_
  simp (decide := true) only [TF, EV, q1, Par.cs, zpD, ↓reduceIte, Int.reduceToNat]
  refine hK _ _ ?_; clear hK K
  refine WP.ret ?_
  exact Ends.pure (.inr rfl) rfl (Le.of_eq (by simp (decide := true) only [St.get, lk, W, q1, ↓reduceIte])) (by simp)
 ·
  have hlg : longB l 10 = false := by simpa using q1
  obtain ⟨hl10, hlo⟩ := longB_no hb hlg
  have hl1k : l.length ≤ 1000 := by omega
  obtain ⟨hr1, hr2⟩ := run_ok l ([], 0) TOk.nil hlo
  simp (decide := true) only [TF, EV, q1, Par.cs, zpD, ↓reduceIte, Int.reduceToNat]
  refine CallK.pure (c_long l2 nk2 hn2 hnl2 hb2 10 (by decide)) rfl rfl (by simp [-List.map_take]) ?_
  refine runOps.take 2 fun J hJ => ?_
  simp (decide := true) only [TF, EV, q1, Par.cs, zpD, ↓reduceIte, Int.reduceToNat]
  refine hJ _ _ ?_; clear hJ J
  refine runOps.part 23 rfl (fun q2 => ?_) (fun q2 => ?_)
  ·
   simp (decide := true) only [TF, EV, q1, q2, Par.cs, zpD, ↓reduceIte, Int.reduceToNat]
   refine hK _ _ ?_; clear hK K
   refine WP.cond (b := true) (by rfl) (fun _ => ?_) nofun
   refine WP.sr [8] (by kernel_rfl) fun K hK => ?_
   simp (decide := true) only [TF, EV, q1, q2, Par.cs, zpD, ↓reduceIte, Int.reduceToNat]
   refine hK _ _ ?_; clear hK K
   refine WP.ret ?_
   exact Ends.pure (.inr rfl) rfl (Le.of_eq (by simp (decide := true) only [St.get, lk, W, q1, q2, ↓reduceIte])) (by simp)
  ·
   have hlg2 : longB l2 10 = false := by assumption
   obtain ⟨hl20, hlo2⟩ := longB_no hb2 hlg2
   simp (decide := true) only [TF, EV, q1, q2, Par.cs, zpD, ↓reduceIte, Int.reduceToNat]
   refine CallK.pure (c_r_great43 p hpn hpl) rfl rfl (by simp [-List.map_take]) ?_
   simp (decide := true) only [TF, EV, q1, q2, Par.cs, zpD, ↓reduceIte, Int.reduceToNat]
   refine hK _ _ ?_; clear hK K
   refine WP.cond (b := _) rfl (fun q3 => ?_) (fun q3 => ?_)
   ·
    refine WP.sr [8] (by kernel_rfl) fun K hK => ?_
    simp (decide := true) only [TF, EV, q1, q2, q3, Par.cs, zpD, ↓reduceIte, Int.reduceToNat]
    refine hK _ _ ?_; clear hK K
    refine WP.ret ?_
    exact Ends.pure (.inr rfl) rfl (Le.of_eq (by simp (decide := true) only [St.get, lk, W, q1, q2, q3, ↓reduceIte])) (by simp)
   ·
    have hgr : greatP p = false := by assumption
    obtain ⟨hp, hid, had, hkl⟩ := great_p hpl hgr
    obtain ⟨ha1, ha2⟩ := hr1.anch hp now
    refine WP.skip ?_
    show WP _ _ _ _ _ _
    refine WP.sr [1, 3, 6, 9] (by kernel_rfl) fun K hK => ?_
    simp (decide := true) only [TF, EV, q1, q2, q3, Par.cs, zpD, ↓reduceIte, Int.reduceToNat]
    refine CallK.imp (c_run_at 1 2 (by decide) l nl hl1k hnl hlo) rfl rfl (by simp [lk, BClo]) (by simp [lk]) (by simp [lk, fg]) ?_
    simp (decide := true) only [TF, EV, q1, q2, q3, Par.cs, zpD, ↓reduceIte, Int.reduceToNat]
    refine hK _ _ ?_; clear hK K
    refine WP.seq ?_
    refine WP.sr [1, 6, 9, 33] (by kernel_rfl) fun K hK => ?_
    simp (decide := true) only [TF, EV, q1, q2, q3, Par.cs, zpD, ↓reduceIte, Int.reduceToNat]
    refine CallK.imp (c_anchor_at 1 2 (by decide) (runS l ([], 0)).1 (runS l ([], 0)).2 hr1.ok p hp now) rfl rfl (by simp [lk, BClo]) (by simp [lk]) (by simp [lk, fg]) ?_
    simp (decide := true) only [TF, EV, q1, q2, q3, Par.cs, zpD, ↓reduceIte, Int.reduceToNat]
    refine hK _ _ ?_; clear hK K
    refine WP.cond (b := _) rfl (fun q4 => ?_) (fun q4 => ?_)
    ·
     refine WP.sr [8] (by kernel_rfl) fun K hK => ?_
     simp (decide := true) only [TF, EV, q1, q2, q3, q4, Par.cs, zpD, ↓reduceIte, Int.reduceToNat]
     refine hK _ _ ?_; clear hK K
     refine WP.ret ?_
     exact Ends.pure (.inr rfl) rfl (Le.of_eq (by simp (decide := true) only [St.get, lk, W, q1, q2, q3, q4, ↓reduceIte])) (by simp)
    ·
     have hA : (anch (runS l ([], 0)).1 (runS l ([], 0)).2 p now).1 = 0 := by simpa using q4
     have hfp : findT (anch (runS l ([], 0)).1 (runS l ([], 0)).2 p now).2.1 p.id = some p := by rw [(anch_find hA).2]; exact find_put _ _ _ _
     have hln0 : (anch (runS l ([], 0)).1 (runS l ([], 0)).2 p now).2.1.length ≤ 20 + 0 := by simp only [List.length_nil] at hr2; omega
     refine WP.skip ?_
     show WP _ _ _ _ _ _
     refine WP.sr [1, 6, 9, 10] (by kernel_rfl) fun K hK => ?_
     simp (decide := true) only [TF, EV, q1, q2, q3, q4, Par.cs, zpD, ↓reduceIte, Int.reduceToNat]
     refine hK _ _ ?_; clear hK K
     refine WP.seq ?_
     refine WP.sr [1, 6, 9, 10, 38, 39] (by kernel_rfl) fun K hK => ?_
     simp (decide := true) only [TF, EV, q1, q2, q3, q4, Par.cs, zpD, ↓reduceIte, Int.reduceToNat]
     refine hK _ _ ?_; clear hK K
     refine WP.block ?_
     refine WP.lp [1, 6, 9, 38] (X := {x : (Nat) × (Int) × (TS × Nat) // match x with | (k, v, w) => k ≤ l2.length ∧ TOk w.1 w.2 ∧ w.1.length ≤ 20 + k ∧ ∃ a, findT w.1 p.id = some a ∧ v ≤ a.f}) (fun x => match x with | ⟨(k, v, w), _⟩ => [(10, .int .i64 v), (39, .int .i64 k)]) (fun x => match x with | ⟨(k, v, w), _⟩ => [(0, .box 26 [.str p.id, .str p.addr, .slice 6 p.nk (p.keys.map Key.cs) none, .int .i64 p.f, .int .i64 p.u]), (1, .map (tsE w.1) w.2), (2, .box 91 [.map 1])]) (fun x => match x with | ⟨(k, v, w), _⟩ => l2.length - k) (by simp (decide := true) only [W, ↓reduceIte, Int.reduceToNat]; rfl) ?_ ⟨(0, p.f, (anch (runS l ([], 0)).1 (runS l ([], 0)).2 p now).2), ⟨Nat.zero_le _, ha1, hln0, p, hfp, Int.le_refl _⟩⟩ ?_
     rotate_left
     · exact Weak.store (by simp [St.get, lk, W, Le.refl, q1, q2, q3, q4]) (by simp [lk, W, q1, q2, q3, q4]) (by simp [lk, W]) (by simp [BClo, lk]) (by simp [lk])
     rintro ⟨⟨k, v, w⟩, ⟨hk, hq, hlq, a, hfa, hva⟩⟩
     dsimp only
     simp only [List.cons_append, List.nil_append]
     refine WP.sr [1, 6, 9, 10, 38, 39, 40] (by kernel_rfl) fun K hK => ?_
     simp (decide := true) only [TF, EV, q1, q2, q3, q4, hk, Par.cs, zpD, ↓reduceIte, Int.reduceToNat]
     refine hK _ _ ?_; clear hK K
     refine WP.seq ?_
     refine WP.cond (b := _) rfl (fun q5 => ?_) (fun q5 => ?_)
     ·
      have hlt := lt_of_q q5
      have hg : (l2.map Opd.cs)[k]? = some [.int .i64 l2[k].kind, .str l2[k].p.id, .str l2[k].p.addr, .slice 6 l2[k].p.nk (l2[k].p.keys.map Key.cs) none, .int .i64 l2[k].p.f, .int .i64 l2[k].p.u, .slice 6 l2[k].nk (l2[k].ks.map Key.cs) none, .str l2[k].text, .str l2[k].sig, .str l2[k].id, .int .i64 l2[k].at_, .int .i64 l2[k].now] := getM hlt
      have hnf := nl_false hnl2 hlt
      refine WP.skip ?_
      show WP _ _ _ _ _ _
      refine WP.seq ?_
      refine WP.block ?_
      refine WP.sr [1, 6, 9, 10, 11, 38, 39] (by kernel_rfl) fun K hK => ?_
      simp (decide := true) only [TF, EV, q1, q2, q3, q4, hk, q5, hg, hnf, Par.cs, zpD, ↓reduceIte, Int.reduceToNat]
      refine hK _ _ ?_; clear hK K
      refine WP.seq ?_
      refine WP.sd [1, 6, 9, 10, 11, 38, 39, 57] (by kernel_rfl) (by kernel_rfl) fun K hK => ?_
      refine runOps.take 7 fun J hJ => ?_
      simp (decide := true) only [TF, EV, q1, q2, q3, q4, hk, q5, hg, hnf, Par.cs, zpD, ↓reduceIte, Int.reduceToNat]
      refine hJ _ _ ?_; clear hJ J
      refine runOps.part 48 rfl (fun q6 => ?_) (fun q6 => ?_)
      ·
       simp (decide := true) only [TF, EV, q1, q2, q3, q4, hk, q5, hg, hnf, q6, Par.cs, zpD, ↓reduceIte, Int.reduceToNat]
       refine hK _ _ (by kernel_rfl) ?_
       clear hK K
       refine WP.cond (b := _) rfl (fun q7 => ?_) (fun q7 => ?_)
       ·
        refine WP.sr [8] (by kernel_rfl) fun K hK => ?_
        simp (decide := true) only [TF, EV, q1, q2, q3, q4, hk, q5, hg, hnf, q6, q7, Par.cs, zpD, ↓reduceIte, Int.reduceToNat]
        refine hK _ _ ?_; clear hK K
        refine WP.ret ?_
        exact Ends.pure (.inr rfl) rfl (Le.of_eq (by simp (decide := true) only [St.get, lk, W, q1, q2, q3, q4, hk, q5, hg, hnf, q6, q7, ↓reduceIte])) (by simp)
       ·
        have hno : ((l2[k].kind == 5) && (l2[k].id == p.id)) = false := by simp_all
        obtain ⟨b, hfb, hab⟩ := step_f (c := w.2) (o := l2[k]) hfa hno
        obtain ⟨hs1, hs2⟩ := hq.step (hlo2 _ (List.getElem_mem hlt))
        refine WP.skip ?_
        show WP _ _ _ _ _ _
        refine WP.sr [1, 6, 9, 10, 38, 39] (by kernel_rfl) fun K hK => ?_
        simp (decide := true) only [TF, EV, q1, q2, q3, q4, hk, q5, hg, hnf, q6, q7, Par.cs, zpD, ↓reduceIte, Int.reduceToNat]
        refine CallK.imp (c_doJ_at 1 2 (by decide) w.1 w.2 hq.ok hq.es (by omega) l2[k] (hlo2 _ (List.getElem_mem hlt))) rfl rfl (by simp [lk, BClo]) (by simp [lk]) (by simp [lk, fg]) ?_
        simp (decide := true) only [TF, EV, q1, q2, q3, q4, hk, q5, hg, hnf, q6, q7, Par.cs, zpD, ↓reduceIte, Int.reduceToNat]
        refine hK _ _ ?_; clear hK K
        refine WP.sr [1, 6, 9, 10, 38, 39, 65, 66] (by kernel_rfl) fun K hK => ?_
        simp (decide := true) only [TF, EV, q1, q2, q3, q4, hk, q5, hg, hnf, q6, q7, Par.cs, zpD, ↓reduceIte, Int.reduceToNat]
        refine hK _ _ ?_; clear hK K
        refine WP.block ?_
        refine WP.lp [1, 6, 9, 38, 39, 65] (X := {x : (Nat) × (Int) // match x with | (j, v2) => j ≤ l2.length ∧ ∃ b, findT (doS w.1 w.2 l2[k]).1 p.id = some b ∧ v2 ≤ b.f}) (fun x => match x with | ⟨(j, v2), _⟩ => [(10, .int .i64 v2), (66, .int .i64 j)]) (fun x => match x with | ⟨(j, v2), _⟩ => [(0, .box 26 [.str p.id, .str p.addr, .slice 6 p.nk (p.keys.map Key.cs) none, .int .i64 p.f, .int .i64 p.u]), (1, .map (tsE (doS w.1 w.2 l2[k]).1) (doS w.1 w.2 l2[k]).2), (2, .box 91 [.map 1])]) (fun x => match x with | ⟨(j, v2), _⟩ => l2.length - j) (by simp (decide := true) only [W, ↓reduceIte, Int.reduceToNat]; rfl) ?_ ⟨(0, v), ⟨Nat.zero_le _, b, hfb, by omega⟩⟩ ?_
        rotate_left
        · exact Weak.store (by simp [St.get, lk, W, Le.refl, q1, q2, q3, q4, hk, q5, hg, hnf, q6, q7]) (by simp [lk, W, q1, q2, q3, q4, hk, q5, hg, hnf, q6, q7]) (by simp [lk, W]) (by simp [BClo, lk]) (by simp [lk])
        rintro ⟨⟨j, v2⟩, ⟨hj, b2, hb2, hv2⟩⟩
        dsimp only
        simp only [List.cons_append, List.nil_append]
        refine WP.sr [1, 6, 9, 10, 38, 39, 65, 66, 67] (by kernel_rfl) fun K hK => ?_
        simp (decide := true) only [TF, EV, q1, q2, q3, q4, hk, q5, hg, hnf, q6, q7, hj, Par.cs, zpD, ↓reduceIte, Int.reduceToNat]
        refine hK _ _ ?_; clear hK K
        refine WP.seq ?_
        refine WP.cond (b := _) rfl (fun q8 => ?_) (fun q8 => ?_)
        ·
         have hjl := lt_of_q q8
         have hgj : (l2.map Opd.cs)[j]? = some [.int .i64 l2[j].kind, .str l2[j].p.id, .str l2[j].p.addr, .slice 6 l2[j].p.nk (l2[j].p.keys.map Key.cs) none, .int .i64 l2[j].p.f, .int .i64 l2[j].p.u, .slice 6 l2[j].nk (l2[j].ks.map Key.cs) none, .str l2[j].text, .str l2[j].sig, .str l2[j].id, .int .i64 l2[j].at_, .int .i64 l2[j].now] := getM hjl
         have hnfj := nl_false hnl2 hjl
         refine WP.skip ?_
         show WP _ _ _ _ _ _
         refine WP.seq ?_
         refine WP.block ?_
         refine WP.sr [1, 6, 9, 10, 12, 38, 39, 65, 66] (by kernel_rfl) fun K hK => ?_
         simp (decide := true) only [TF, EV, q1, q2, q3, q4, hk, q5, hg, hnf, q6, q7, hj, q8, hgj, hnfj, Par.cs, zpD, ↓reduceIte, Int.reduceToNat]
         refine hK _ _ ?_; clear hK K
         rcases part_f l2[j].p.f hb2 with ⟨e, he, hP⟩ | hP
         ·
          have he0 : (e == 0) = false := by simpa using he
          refine WP.sd [1, 6, 9, 10, 13, 14, 38, 39, 65, 66] (by kernel_rfl) (by kernel_rfl) fun K hK => ?_
          simp (decide := true) only [TF, EV, q1, q2, q3, q4, hk, q5, hg, hnf, q6, q7, hj, q8, hgj, hnfj, he0, Par.cs, zpD, ↓reduceIte, Int.reduceToNat]
          refine CallK.imp (c_tpart_at 1 2 (by decide) (doS w.1 w.2 l2[k]).1 (doS w.1 w.2 l2[k]).2 hs1.ok p.id l2[j].p.f _ hP (fun f => ren_zp f e)) rfl rfl (by simp [lk, BClo]) (by simp [lk]) (by simp [lk, fg]) ?_
          simp (decide := true) only [TF, EV, q1, q2, q3, q4, hk, q5, hg, hnf, q6, q7, hj, q8, hgj, hnfj, he0, Par.cs, zpD, ↓reduceIte, Int.reduceToNat]
          refine hK _ _ (by kernel_rfl) ?_
          clear hK K
          refine WP.seq ?_
          refine WP.sr [1, 6, 9, 10, 13, 14, 38, 39, 65, 66, 91] (by kernel_rfl) fun K hK => ?_
          simp (decide := true) only [TF, EV, q1, q2, q3, q4, hk, q5, hg, hnf, q6, q7, hj, q8, hgj, hnfj, he0, Par.cs, zpD, ↓reduceIte, Int.reduceToNat]
          refine hK _ _ ?_; clear hK K
          refine WP.cond (b := false) (by rfl) nofun (fun _ => ?_)
          refine WP.skip ?_
          show WP _ _ _ _ _ _
          refine WP.sr [1, 6, 9, 10, 13, 38, 39, 65, 66, 93] (by kernel_rfl) fun K hK => ?_
          simp (decide := true) only [TF, EV, q1, q2, q3, q4, hk, q5, hg, hnf, q6, q7, hj, q8, hgj, hnfj, he0, Par.cs, zpD, ↓reduceIte, Int.reduceToNat]
          refine hK _ _ ?_; clear hK K
          refine WP.cond (b := false) (by rfl) nofun (fun _ => ?_)
          refine WP.skip ?_
          show WP _ _ _ _ _ _
          refine WP.region (by kernel_rfl) fun K hK => ?_
          simp (decide := true) only [TF, EV, q1, q2, q3, q4, hk, q5, hg, hnf, q6, q7, hj, q8, hgj, hnfj, he0, Par.cs, zpD, ↓reduceIte, Int.reduceToNat]
          refine hK _ _ ?_; clear hK K
          show ∃ y, _ ∧ Weak _ _ _
          refine ⟨⟨(j + 1, v2), ?_⟩, ?_, ?_⟩
          · exact ⟨by omega, b2, hb2, hv2⟩
          · dsimp only; omega
          · exact Weak.store (by simp [St.get, lk, W, Le.refl, q1, q2, q3, q4, hk, q5, hg, hnf, q6, q7, hj, q8, hgj, hnfj, he0, wrapS hjl (show l2.length ≤ 140737488355328 by omega)]) (by simp [lk, W, q1, q2, q3, q4, hk, q5, hg, hnf, q6, q7, hj, q8, hgj, hnfj, he0]) (by simp [lk, W]) (by simp [BClo, lk]) (by simp [lk])
         ·
          have hd : decide (b2.f < v2) = false := decide_eq_false (by omega)
          refine WP.sd [1, 6, 9, 10, 13, 14, 38, 39, 65, 66] (by kernel_rfl) (by kernel_rfl) fun K hK => ?_
          simp (decide := true) only [TF, EV, q1, q2, q3, q4, hk, q5, hg, hnf, q6, q7, hj, q8, hgj, hnfj, hd, Par.cs, zpD, ↓reduceIte, Int.reduceToNat]
          refine CallK.imp (c_tpart_at 1 2 (by decide) (doS w.1 w.2 l2[k]).1 (doS w.1 w.2 l2[k]).2 hs1.ok p.id l2[j].p.f _ hP (fun f => ren_par f _ _ rfl)) rfl rfl (by simp [lk, BClo]) (by simp [lk]) (by simp [lk, fg]) ?_
          simp (decide := true) only [TF, EV, q1, q2, q3, q4, hk, q5, hg, hnf, q6, q7, hj, q8, hgj, hnfj, hd, Par.cs, zpD, ↓reduceIte, Int.reduceToNat]
          refine hK _ _ (by kernel_rfl) ?_
          clear hK K
          refine WP.seq ?_
          refine WP.sr [1, 6, 9, 10, 13, 14, 38, 39, 65, 66, 91] (by kernel_rfl) fun K hK => ?_
          simp (decide := true) only [TF, EV, q1, q2, q3, q4, hk, q5, hg, hnf, q6, q7, hj, q8, hgj, hnfj, hd, Par.cs, zpD, ↓reduceIte, Int.reduceToNat]
          refine hK _ _ ?_; clear hK K
          refine WP.cond (b := false) (by rfl) nofun (fun _ => ?_)
          refine WP.skip ?_
          show WP _ _ _ _ _ _
          refine WP.sr [1, 6, 9, 10, 13, 38, 39, 65, 66, 93] (by kernel_rfl) fun K hK => ?_
          simp (decide := true) only [TF, EV, q1, q2, q3, q4, hk, q5, hg, hnf, q6, q7, hj, q8, hgj, hnfj, hd, Par.cs, zpD, ↓reduceIte, Int.reduceToNat]
          refine hK _ _ ?_; clear hK K
          refine WP.cond (b := true) (by rfl) (fun _ => ?_) nofun
          refine WP.region (by kernel_rfl) fun K hK => ?_
          simp (decide := true) only [TF, EV, q1, q2, q3, q4, hk, q5, hg, hnf, q6, q7, hj, q8, hgj, hnfj, hd, Par.cs, zpD, ↓reduceIte, Int.reduceToNat]
          refine hK _ _ ?_; clear hK K
          show WP _ _ _ _ _ _
          refine WP.region (by kernel_rfl) fun K hK => ?_
          simp (decide := true) only [TF, EV, q1, q2, q3, q4, hk, q5, hg, hnf, q6, q7, hj, q8, hgj, hnfj, hd, Par.cs, zpD, ↓reduceIte, Int.reduceToNat]
          refine hK _ _ ?_; clear hK K
          show ∃ y, _ ∧ Weak _ _ _
          refine ⟨⟨(j + 1, b2.f), ?_⟩, ?_, ?_⟩
          · exact ⟨by omega, b2, hb2, Int.le_refl _⟩
          · dsimp only; omega
          · exact Weak.store (by simp [St.get, lk, W, Le.refl, q1, q2, q3, q4, hk, q5, hg, hnf, q6, q7, hj, q8, hgj, hnfj, hd, wrapS hjl (show l2.length ≤ 140737488355328 by omega)]) (by simp [lk, W, q1, q2, q3, q4, hk, q5, hg, hnf, q6, q7, hj, q8, hgj, hnfj, hd]) (by simp [lk, W]) (by simp [BClo, lk]) (by simp [lk])
        ·
         have hjg := ge_of_q q8
         refine WP.exit ?_
         show WP _ _ _ _ _ _
         refine WP.region (by kernel_rfl) fun K hK => ?_
         simp (decide := true) only [TF, EV, q1, q2, q3, q4, hk, q5, hg, hnf, q6, q7, hj, q8, Par.cs, zpD, ↓reduceIte, Int.reduceToNat]
         refine hK _ _ ?_; clear hK K
         show ∃ y, _ ∧ Weak _ _ _
         refine ⟨⟨(k + 1, v2, (doS w.1 w.2 l2[k])), ?_⟩, ?_, ?_⟩
         · exact ⟨by omega, hs1, by show (doS w.1 w.2 l2[k]).1.length ≤ 20 + (k + 1); omega, b2, hb2, hv2⟩
         · dsimp only; omega
         · exact Weak.store (by simp [St.get, lk, W, Le.refl, q1, q2, q3, q4, hk, q5, hg, hnf, q6, q7, hj, q8, wrapS hlt (show l2.length ≤ 140737488355328 by omega)]) (by simp [lk, W, q1, q2, q3, q4, hk, q5, hg, hnf, q6, q7, hj, q8]) (by simp [lk, W]) (by simp [BClo, lk]) (by simp [lk])
      ·
       have hno : ((l2[k].kind == 5) && (l2[k].id == p.id)) = false := by rw [q6]; rfl
       obtain ⟨b, hfb, hab⟩ := step_f (c := w.2) (o := l2[k]) hfa hno
       obtain ⟨hs1, hs2⟩ := hq.step (hlo2 _ (List.getElem_mem hlt))
       simp (decide := true) only [TF, EV, q1, q2, q3, q4, hk, q5, hg, hnf, q6, Par.cs, zpD, ↓reduceIte, Int.reduceToNat]
       refine hK _ _ (by kernel_rfl) ?_
       clear hK K
       refine WP.cond (b := false) (by rfl) nofun (fun _ => ?_)
       refine WP.skip ?_
       show WP _ _ _ _ _ _
       refine WP.sr [1, 6, 9, 10, 38, 39] (by kernel_rfl) fun K hK => ?_
       simp (decide := true) only [TF, EV, q1, q2, q3, q4, hk, q5, hg, hnf, q6, Par.cs, zpD, ↓reduceIte, Int.reduceToNat]
       refine CallK.imp (c_doJ_at 1 2 (by decide) w.1 w.2 hq.ok hq.es (by omega) l2[k] (hlo2 _ (List.getElem_mem hlt))) rfl rfl (by simp [lk, BClo]) (by simp [lk]) (by simp [lk, fg]) ?_
       simp (decide := true) only [TF, EV, q1, q2, q3, q4, hk, q5, hg, hnf, q6, Par.cs, zpD, ↓reduceIte, Int.reduceToNat]
       refine hK _ _ ?_; clear hK K
       refine WP.sr [1, 6, 9, 10, 38, 39, 65, 66] (by kernel_rfl) fun K hK => ?_
       simp (decide := true) only [TF, EV, q1, q2, q3, q4, hk, q5, hg, hnf, q6, Par.cs, zpD, ↓reduceIte, Int.reduceToNat]
       refine hK _ _ ?_; clear hK K
       refine WP.block ?_
       refine WP.lp [1, 6, 9, 38, 39, 65] (X := {x : (Nat) × (Int) // match x with | (j, v2) => j ≤ l2.length ∧ ∃ b, findT (doS w.1 w.2 l2[k]).1 p.id = some b ∧ v2 ≤ b.f}) (fun x => match x with | ⟨(j, v2), _⟩ => [(10, .int .i64 v2), (66, .int .i64 j)]) (fun x => match x with | ⟨(j, v2), _⟩ => [(0, .box 26 [.str p.id, .str p.addr, .slice 6 p.nk (p.keys.map Key.cs) none, .int .i64 p.f, .int .i64 p.u]), (1, .map (tsE (doS w.1 w.2 l2[k]).1) (doS w.1 w.2 l2[k]).2), (2, .box 91 [.map 1])]) (fun x => match x with | ⟨(j, v2), _⟩ => l2.length - j) (by simp (decide := true) only [W, ↓reduceIte, Int.reduceToNat]; rfl) ?_ ⟨(0, v), ⟨Nat.zero_le _, b, hfb, by omega⟩⟩ ?_
       rotate_left
       · exact Weak.store (by simp [St.get, lk, W, Le.refl, q1, q2, q3, q4, hk, q5, hg, hnf, q6]) (by simp [lk, W, q1, q2, q3, q4, hk, q5, hg, hnf, q6]) (by simp [lk, W]) (by simp [BClo, lk]) (by simp [lk])
       rintro ⟨⟨j, v2⟩, ⟨hj, b2, hb2, hv2⟩⟩
       dsimp only
       simp only [List.cons_append, List.nil_append]
       refine WP.sr [1, 6, 9, 10, 38, 39, 65, 66, 67] (by kernel_rfl) fun K hK => ?_
       simp (decide := true) only [TF, EV, q1, q2, q3, q4, hk, q5, hg, hnf, q6, hj, Par.cs, zpD, ↓reduceIte, Int.reduceToNat]
       refine hK _ _ ?_; clear hK K
       refine WP.seq ?_
       refine WP.cond (b := _) rfl (fun q9 => ?_) (fun q9 => ?_)
       ·
        have hjl := lt_of_q q9
        have hgj : (l2.map Opd.cs)[j]? = some [.int .i64 l2[j].kind, .str l2[j].p.id, .str l2[j].p.addr, .slice 6 l2[j].p.nk (l2[j].p.keys.map Key.cs) none, .int .i64 l2[j].p.f, .int .i64 l2[j].p.u, .slice 6 l2[j].nk (l2[j].ks.map Key.cs) none, .str l2[j].text, .str l2[j].sig, .str l2[j].id, .int .i64 l2[j].at_, .int .i64 l2[j].now] := getM hjl
        have hnfj := nl_false hnl2 hjl
        refine WP.skip ?_
        show WP _ _ _ _ _ _
        refine WP.seq ?_
        refine WP.block ?_
        refine WP.sr [1, 6, 9, 10, 12, 38, 39, 65, 66] (by kernel_rfl) fun K hK => ?_
        simp (decide := true) only [TF, EV, q1, q2, q3, q4, hk, q5, hg, hnf, q6, hj, q9, hgj, hnfj, Par.cs, zpD, ↓reduceIte, Int.reduceToNat]
        refine hK _ _ ?_; clear hK K
        rcases part_f l2[j].p.f hb2 with ⟨e, he, hP⟩ | hP
        ·
         have he0 : (e == 0) = false := by simpa using he
         refine WP.sd [1, 6, 9, 10, 13, 14, 38, 39, 65, 66] (by kernel_rfl) (by kernel_rfl) fun K hK => ?_
         simp (decide := true) only [TF, EV, q1, q2, q3, q4, hk, q5, hg, hnf, q6, hj, q9, hgj, hnfj, he0, Par.cs, zpD, ↓reduceIte, Int.reduceToNat]
         refine CallK.imp (c_tpart_at 1 2 (by decide) (doS w.1 w.2 l2[k]).1 (doS w.1 w.2 l2[k]).2 hs1.ok p.id l2[j].p.f _ hP (fun f => ren_zp f e)) rfl rfl (by simp [lk, BClo]) (by simp [lk]) (by simp [lk, fg]) ?_
         simp (decide := true) only [TF, EV, q1, q2, q3, q4, hk, q5, hg, hnf, q6, hj, q9, hgj, hnfj, he0, Par.cs, zpD, ↓reduceIte, Int.reduceToNat]
         refine hK _ _ (by kernel_rfl) ?_
         clear hK K
         refine WP.seq ?_
         refine WP.sr [1, 6, 9, 10, 13, 14, 38, 39, 65, 66, 91] (by kernel_rfl) fun K hK => ?_
         simp (decide := true) only [TF, EV, q1, q2, q3, q4, hk, q5, hg, hnf, q6, hj, q9, hgj, hnfj, he0, Par.cs, zpD, ↓reduceIte, Int.reduceToNat]
         refine hK _ _ ?_; clear hK K
         refine WP.cond (b := false) (by rfl) nofun (fun _ => ?_)
         refine WP.skip ?_
         show WP _ _ _ _ _ _
         refine WP.sr [1, 6, 9, 10, 13, 38, 39, 65, 66, 93] (by kernel_rfl) fun K hK => ?_
         simp (decide := true) only [TF, EV, q1, q2, q3, q4, hk, q5, hg, hnf, q6, hj, q9, hgj, hnfj, he0, Par.cs, zpD, ↓reduceIte, Int.reduceToNat]
         refine hK _ _ ?_; clear hK K
         refine WP.cond (b := false) (by rfl) nofun (fun _ => ?_)
         refine WP.skip ?_
         show WP _ _ _ _ _ _
         refine WP.region (by kernel_rfl) fun K hK => ?_
         simp (decide := true) only [TF, EV, q1, q2, q3, q4, hk, q5, hg, hnf, q6, hj, q9, hgj, hnfj, he0, Par.cs, zpD, ↓reduceIte, Int.reduceToNat]
         refine hK _ _ ?_; clear hK K
         show ∃ y, _ ∧ Weak _ _ _
         refine ⟨⟨(j + 1, v2), ?_⟩, ?_, ?_⟩
         · exact ⟨by omega, b2, hb2, hv2⟩
         · dsimp only; omega
         · exact Weak.store (by simp [St.get, lk, W, Le.refl, q1, q2, q3, q4, hk, q5, hg, hnf, q6, hj, q9, hgj, hnfj, he0, wrapS hjl (show l2.length ≤ 140737488355328 by omega)]) (by simp [lk, W, q1, q2, q3, q4, hk, q5, hg, hnf, q6, hj, q9, hgj, hnfj, he0]) (by simp [lk, W]) (by simp [BClo, lk]) (by simp [lk])
        ·
         have hd : decide (b2.f < v2) = false := decide_eq_false (by omega)
         refine WP.sd [1, 6, 9, 10, 13, 14, 38, 39, 65, 66] (by kernel_rfl) (by kernel_rfl) fun K hK => ?_
         simp (decide := true) only [TF, EV, q1, q2, q3, q4, hk, q5, hg, hnf, q6, hj, q9, hgj, hnfj, hd, Par.cs, zpD, ↓reduceIte, Int.reduceToNat]
         refine CallK.imp (c_tpart_at 1 2 (by decide) (doS w.1 w.2 l2[k]).1 (doS w.1 w.2 l2[k]).2 hs1.ok p.id l2[j].p.f _ hP (fun f => ren_par f _ _ rfl)) rfl rfl (by simp [lk, BClo]) (by simp [lk]) (by simp [lk, fg]) ?_
         simp (decide := true) only [TF, EV, q1, q2, q3, q4, hk, q5, hg, hnf, q6, hj, q9, hgj, hnfj, hd, Par.cs, zpD, ↓reduceIte, Int.reduceToNat]
         refine hK _ _ (by kernel_rfl) ?_
         clear hK K
         refine WP.seq ?_
         refine WP.sr [1, 6, 9, 10, 13, 14, 38, 39, 65, 66, 91] (by kernel_rfl) fun K hK => ?_
         simp (decide := true) only [TF, EV, q1, q2, q3, q4, hk, q5, hg, hnf, q6, hj, q9, hgj, hnfj, hd, Par.cs, zpD, ↓reduceIte, Int.reduceToNat]
         refine hK _ _ ?_; clear hK K
         refine WP.cond (b := false) (by rfl) nofun (fun _ => ?_)
         refine WP.skip ?_
         show WP _ _ _ _ _ _
         refine WP.sr [1, 6, 9, 10, 13, 38, 39, 65, 66, 93] (by kernel_rfl) fun K hK => ?_
         simp (decide := true) only [TF, EV, q1, q2, q3, q4, hk, q5, hg, hnf, q6, hj, q9, hgj, hnfj, hd, Par.cs, zpD, ↓reduceIte, Int.reduceToNat]
         refine hK _ _ ?_; clear hK K
         refine WP.cond (b := true) (by rfl) (fun _ => ?_) nofun
         refine WP.region (by kernel_rfl) fun K hK => ?_
         simp (decide := true) only [TF, EV, q1, q2, q3, q4, hk, q5, hg, hnf, q6, hj, q9, hgj, hnfj, hd, Par.cs, zpD, ↓reduceIte, Int.reduceToNat]
         refine hK _ _ ?_; clear hK K
         show WP _ _ _ _ _ _
         refine WP.region (by kernel_rfl) fun K hK => ?_
         simp (decide := true) only [TF, EV, q1, q2, q3, q4, hk, q5, hg, hnf, q6, hj, q9, hgj, hnfj, hd, Par.cs, zpD, ↓reduceIte, Int.reduceToNat]
         refine hK _ _ ?_; clear hK K
         show ∃ y, _ ∧ Weak _ _ _
         refine ⟨⟨(j + 1, b2.f), ?_⟩, ?_, ?_⟩
         · exact ⟨by omega, b2, hb2, Int.le_refl _⟩
         · dsimp only; omega
         · exact Weak.store (by simp [St.get, lk, W, Le.refl, q1, q2, q3, q4, hk, q5, hg, hnf, q6, hj, q9, hgj, hnfj, hd, wrapS hjl (show l2.length ≤ 140737488355328 by omega)]) (by simp [lk, W, q1, q2, q3, q4, hk, q5, hg, hnf, q6, hj, q9, hgj, hnfj, hd]) (by simp [lk, W]) (by simp [BClo, lk]) (by simp [lk])
       ·
        have hjg := ge_of_q q9
        refine WP.exit ?_
        show WP _ _ _ _ _ _
        refine WP.region (by kernel_rfl) fun K hK => ?_
        simp (decide := true) only [TF, EV, q1, q2, q3, q4, hk, q5, hg, hnf, q6, hj, q9, Par.cs, zpD, ↓reduceIte, Int.reduceToNat]
        refine hK _ _ ?_; clear hK K
        show ∃ y, _ ∧ Weak _ _ _
        refine ⟨⟨(k + 1, v2, (doS w.1 w.2 l2[k])), ?_⟩, ?_, ?_⟩
        · exact ⟨by omega, hs1, by show (doS w.1 w.2 l2[k]).1.length ≤ 20 + (k + 1); omega, b2, hb2, hv2⟩
        · dsimp only; omega
        · exact Weak.store (by simp [St.get, lk, W, Le.refl, q1, q2, q3, q4, hk, q5, hg, hnf, q6, hj, q9, wrapS hlt (show l2.length ≤ 140737488355328 by omega)]) (by simp [lk, W, q1, q2, q3, q4, hk, q5, hg, hnf, q6, hj, q9]) (by simp [lk, W]) (by simp [BClo, lk]) (by simp [lk])
     ·
      have hge := ge_of_q q5
      refine WP.exit ?_
      show WP _ _ _ _ _ _
      refine WP.sr [8] (by kernel_rfl) fun K hK => ?_
      simp (decide := true) only [TF, EV, q1, q2, q3, q4, hk, q5, Par.cs, zpD, ↓reduceIte, Int.reduceToNat]
      refine hK _ _ ?_; clear hK K
      refine WP.ret ?_
      exact Ends.pure (.inr rfl) rfl (Le.of_eq (by simp (decide := true) only [St.get, lk, W, q1, q2, q3, q4, hk, q5, ↓reduceIte])) (by simp)
end Go.Proofs
set_option maxRecDepth 100000
namespace Go.Proofs.YthepmnlpfhmddaaGreatDoor.RwNewer
open Go Go.Id Go.Proofs Go.ChangeShapes Go.ChangeMaps Go.WideShapes Go.ChangeAt Go.RowKit Go.Proofs.YthepmnlpfhmddaaGreatDoor.Rw
theorem contract (H : Type) (enc : TypeId × Value → H) (W : World) (base : Nat) (args : Array Value) (ds gs : List (DataW H)) (before : List MemPlace)
    (hval : ∀ (j : Nat) t v, Tryz.f9.params[j]? = some t → args[j]? = some v → Value.okWide Tryz.prog W .any base t v)
    (hW : DataW.Whole enc Tryz.prog Tryz.f9.params.toList Rows.metadataNewerSpec.vars false W args.toList ds gs before) (hL : laidMetH Tryz.prog laidL W) (hS : W.ShapedOpen Tryz.prog) :
    Calls Tryz.prog 9 args W fun e W' => ∃ v, e = .returned v ∧ Rows.metadataNewerSpec.post enc Tryz.prog Tryz.f9 false true false false W args v W' := by
  have hW' := hW
  obtain ⟨p, q, hA0, hV, rfl, hfz, hnd⟩ := hW
  have hA : DataW.TrodAll enc Tryz.prog W 0 (fun _ => true) true Tryz.f9.params.toList args.toList ds p := hA0
  rw [Tryz.params9] at hA hval
  obtain ⟨al⟩ := args
  dsimp only at hA
  obtain ⟨v0, _, d0, _, p_0, _, rfl, rfl, rfl, h0, hA⟩ := trodAll_cons hA
  obtain ⟨v1, _, d1, _, p_1, _, rfl, rfl, rfl, h1, hA⟩ := trodAll_cons hA
  obtain ⟨v2, _, d2, _, p_2, _, rfl, rfl, rfl, h2, hA⟩ := trodAll_cons hA
  obtain ⟨v3, _, d3, _, p_3, _, rfl, rfl, rfl, h3, hA⟩ := trodAll_cons hA
  obtain ⟨rfl, rfl, rfl⟩ := trodAll_nil hA
  obtain ⟨rfl, rfl⟩ := trodVars_none hV
  obtain ⟨l0, nl0, hn0, hnl0, hb0, r0⟩ := arg_ops (hval 0 44 v0 rfl rfl) h0
  obtain ⟨l1, nl1, hn1, hnl1, hb1, r1⟩ := arg_ops (hval 1 44 v1 rfl rfl) h1
  obtain ⟨p2, hn2, hnl2, r2⟩ := arg_par (hval 2 26 v2 rfl rfl) h2
  obtain ⟨n3, r3⟩ := arg_int (hval 3 3 v3 rfl rfl) h3
  refine (CallP.run (c_l_newer l0 nl0 hn0 hnl0 hb0 l1 nl1 hn1 hnl1 hb1 p2 hn2 hnl2 n3) W (polI_of hL hS) (heap_of hS) [v0, v1, v2, v3] rfl (Rw.consR r0 (Rw.consR r1 (Rw.consR r2 (Rw.one r3))))).mono ?_
  rintro e W' ⟨v, rfl, hr, hb⟩
  cases hr
  exact ⟨_, rfl, post_all hW' rfl hb (of_decide_eq_true (by kernel_rfl)) (by kernel_rfl) rfl rfl rfl⟩
abbrev wit : Array Value := #[.slice none 0 0, .slice none 0 0, .agg #[.string ⟨#[]⟩, .string ⟨#[]⟩, .slice none 0 0, .int .i64 0, .int .i64 0], .int .i64 0]
theorem reads (os : Os) {H : Type} (enc : TypeId × Value → H) : (DataW.whole enc Tryz.prog (memW os wit) Tryz.f9.params.toList Rows.metadataNewerSpec.vars false wit.toList 8).map (fun x => (x.1, x.2.1)) = some ([.nil, .nil, .agg [.lit (.string []), .lit (.string []), .nil, .agg [.lit (.int .i64 0), .lit (.int .i64 0)]], .lit (.int .i64 0)], []) := by kernel_rfl
theorem lifted (os : Os) (started : os.Started) (H : Type) (enc : TypeId × Value → H) (F : Stop.Interp) :
    ReturnsInHanded {} Tryz.checked os 9 .any ((OpenSpec.ofChange Rows.metadataNewerSpec).preRow enc Tryz.prog Tryz.f9 Rows.metadataNewerRow.domain false Rows.metadataNewerRow.laid) (((OpenSpec.ofChange Rows.metadataNewerSpec).at F).post enc Tryz.prog Tryz.f9 false true false false) := by
  obtain ⟨⟨x1, x2, x3⟩, hx, hx1⟩ := Option.map_eq_some_iff.1 (reads os enc)
  simp only [Prod.mk.injEq] at hx1
  obtain ⟨rfl, rfl⟩ := hx1
  refine returnsInHanded_of_row (C := Tryz.checked) (s := OpenSpec.ofChange Rows.metadataNewerSpec) own started (by kernel_rfl) Tryz.func9
    (witness_row_atRef (enc := enc) (C := Tryz.checked) false (laidWorld os) wit rfl (by kernel_rfl) (by kernel_rfl) (by kernel_rfl)
      (OpenSpec.preRow_of_cond 8 hx (by kernel_rfl) (fun k hk => by cases hk) (by kernel_rfl) (laid_met os _))) ?_
  intro W base args ds gs before hval hW _ _ _ hL hS _
  exact contract H enc W base args ds gs before hval hW hL hS
theorem said : Rows.MetadataNewerSaid :=
  OpenClaim.holds_of_cond 9 Tryz.f9 rfl rfl rfl rfl rfl rfl rfl ⟨rfl, rfl, rfl, rfl, rfl⟩ rfl rfl rfl rfl rfl (by kernel_rfl) Tryz.func9 (by kernel_rfl)
    (of_decide_eq_true (by kernel_rfl)) (by unfold Func.isWrapper; first | (rw [if_pos (by decide +kernel)]; kernel_rfl) | (rw [if_neg (by decide +kernel)]; exact ⟨rfl, rfl⟩))
    (fun os started H enc _ F => by rw [OpenClaim.pre_eq_preRow]; exact lifted os started H enc F)
theorem plain (f : FuncId) (fn : Func) (hf : Tryz.pinned.checked.prog.funcNamed Rows.metadataNewerRow.func = some f) (hfn : Tryz.pinned.checked.prog.funcs[f]? = some fn) :
    true = Tryz.pinned.checked.prog.looks [] ∧ ∀ (j : Nat) t, fn.params[j]? = some t → Tryz.pinned.checked.prog.wantsStandIn t = false := by
  obtain rfl : f = 9 := Option.some.inj ((show Tryz.prog.funcNamed Rows.metadataNewerRow.func = some 9 by kernel_rfl).symm.trans hf) |>.symm
  obtain rfl : fn = Tryz.f9 := (Option.some.inj (Tryz.func9.symm.trans hfn)).symm
  refine ⟨by kernel_rfl, fun j t ht => ?_⟩
  have hall : (Tryz.f9.params.toList.all fun t => Tryz.prog.wantsStandIn t == false) = true := by kernel_rfl
  exact eq_of_beq (List.all_eq_true.1 hall t (by simpa using Array.mem_of_getElem? ht))
theorem card : Rows.MetadataNewerCardSaid :=
  Claim7.holds_tied_plain_at .later [] _ _ _ _ said (fun _ h => by cases h) (by kernel_rfl) (fun _ h => by cases h) metadataNewer_row_tie rfl ⟨rfl, rfl⟩ (by kernel_rfl) rfl plain (by kernel_rfl)
end Go.Proofs.YthepmnlpfhmddaaGreatDoor.RwNewer
#print axioms Go.Proofs.YthepmnlpfhmddaaGreatDoor.RwNewer.card
