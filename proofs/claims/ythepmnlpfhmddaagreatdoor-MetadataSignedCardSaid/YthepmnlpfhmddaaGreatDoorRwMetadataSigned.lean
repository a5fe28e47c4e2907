import Derived.Test.YthepmnlpfhmddaaGreatDoorG11
import Derived.Test.YthepmnlpfhmddaaGreatDoorG10
import Derived.Test.YthepmnlpfhmddaaGreatDoorG04
import Derived.ChangeMaps5
set_option linter.unusedVariables false
set_option linter.unusedSimpArgs false
set_option maxRecDepth 10000
namespace Go.Proofs
open Go Go.Id
set_option maxHeartbeats 8000000
set_option maxRecDepth 100000
theorem c_l_signed (l : List Opd) (nl : Bool) (hn : l.length ≤ 9223372036854775807) (hnl : nl = true → l = []) (hb : ∀ o ∈ l, o.big) (p : Par) (hpn : p.keys.length ≤ 9223372036854775807) (hpl : p.nk = true → p.keys = []) (text sig : List UInt8) (now : Int) : CallP Pr 10 [.slice 12 nl (l.map Opd.cs) none, .agg [.str p.id, .str p.addr, .slice 6 p.nk (p.keys.map Key.cs) none, .int .i64 p.f, .int .i64 p.u], .str text, .str sig, .int .i64 now] (.bool true) := by
 refine CallP.of_wp Tryz.func10 rfl (by kernel_rfl) Tryz.ntmps10 (by simp) ?_
 simp only [frameOf, Nat.reduceAdd, Nat.zero_add]
 refine WP.sr [0, 2, 3, 4, 6] (by kernel_rfl) fun K hK => ?_
 simp (decide := true) only [TF, EV, pPD, Par.cs, ↓reduceIte, Int.reduceToNat]
 refine hK _ _ ?_; clear hK K
 refine WP.seq ?_
 refine WP.sr [0, 2, 3, 4, 6, 18] (by kernel_rfl) fun K hK => ?_
 simp (decide := true) only [TF, EV, pPD, Par.cs, ↓reduceIte, Int.reduceToNat]
 refine CallK.pure (c_live) rfl rfl (by simp [-List.map_take]) ?_
 simp (decide := true) only [TF, EV, pPD, Par.cs, ↓reduceIte, Int.reduceToNat]
 refine hK _ _ ?_; clear hK K
 refine WP.cond (b := false) (by rfl) nofun (fun _ => ?_)
 refine WP.skip ?_
 show WP _ _ _ _ _ _
 refine WP.seq ?_
 refine WP.sr [0, 2, 3, 4, 6, 34] (by kernel_rfl) fun K hK => ?_
 simp (decide := true) only [TF, EV, pPD, Par.cs, ↓reduceIte, Int.reduceToNat]
 refine CallK.pure (c_long l nl hn hnl hb 10 (by decide)) rfl rfl (by simp [-List.map_take]) ?_
 refine runOps.take 1 fun J hJ => ?_
 simp (decide := true) only [TF, EV, pPD, Par.cs, ↓reduceIte, Int.reduceToNat]
 refine hJ _ _ ?_; clear hJ J
 refine runOps.part 21 rfl (fun q1 => ?_) (fun q1 => ?_)
 ·
  simp (decide := true) only [TF, EV, q1, pPD, Par.cs, ↓reduceIte, Int.reduceToNat]
  refine hK _ _ ?_; clear hK K
  refine WP.cond (b := true) (by rfl) (fun _ => ?_) nofun
  refine WP.sr [10] (by kernel_rfl) fun K hK => ?_
  simp (decide := true) only [TF, EV, q1, pPD, Par.cs, ↓reduceIte, Int.reduceToNat]
  refine hK _ _ ?_; clear hK K
  refine WP.ret ?_
  exact Ends.pure (.inr rfl) rfl (Le.of_eq (by simp (decide := true) only [St.get, lk, W, q1, ↓reduceIte])) (by simp)
 ·
  have hlg : longB l 10 = false := by simpa using q1
  obtain ⟨hl10, hlo⟩ := longB_no hb hlg
  have hl1k : l.length ≤ 1000 := by omega
  obtain ⟨hr1, hr2⟩ := run_ok l ([], 0) TOk.nil hlo
  simp (decide := true) only [TF, EV, q1, pPD, Par.cs, ↓reduceIte, Int.reduceToNat]
  refine CallK.pure (c_r_great43 p hpn hpl) rfl rfl (by simp [-List.map_take]) ?_
  refine runOps.take 2 fun J hJ => ?_
  simp (decide := true) only [TF, EV, q1, pPD, Par.cs, ↓reduceIte, Int.reduceToNat]
  refine hJ _ _ ?_; clear hJ J
  refine runOps.part 25 rfl (fun q2 => ?_) (fun q2 => ?_)
  ·
   simp (decide := true) only [TF, EV, q1, q2, pPD, Par.cs, ↓reduceIte, Int.reduceToNat]
   refine hK _ _ ?_; clear hK K
   refine WP.cond (b := true) (by rfl) (fun _ => ?_) nofun
   refine WP.sr [10] (by kernel_rfl) fun K hK => ?_
   simp (decide := true) only [TF, EV, q1, q2, pPD, Par.cs, ↓reduceIte, Int.reduceToNat]
   refine hK _ _ ?_; clear hK K
   refine WP.ret ?_
   exact Ends.pure (.inr rfl) rfl (Le.of_eq (by simp (decide := true) only [St.get, lk, W, q1, q2, ↓reduceIte])) (by simp)
  ·
   have hgr : greatP p = false := by simpa using q2
   obtain ⟨hp, hid, had, hkl⟩ := great_p hpl hgr
   obtain ⟨ha1, ha2⟩ := hr1.anch hp now
   refine runOps.take 5 fun J hJ => ?_
   simp (decide := true) only [TF, EV, q1, q2, pPD, Par.cs, ↓reduceIte, Int.reduceToNat]
   refine hJ _ _ ?_; clear hJ J
   refine runOps.part 30 rfl (fun q3 => ?_) (fun q3 => ?_)
   ·
    simp (decide := true) only [TF, EV, q1, q2, q3, pPD, Par.cs, ↓reduceIte, Int.reduceToNat]
    refine hK _ _ ?_; clear hK K
    refine WP.cond (b := true) (by rfl) (fun _ => ?_) nofun
    refine WP.sr [10] (by kernel_rfl) fun K hK => ?_
    simp (decide := true) only [TF, EV, q1, q2, q3, pPD, Par.cs, ↓reduceIte, Int.reduceToNat]
    refine hK _ _ ?_; clear hK K
    refine WP.ret ?_
    exact Ends.pure (.inr rfl) rfl (Le.of_eq (by simp (decide := true) only [St.get, lk, W, q1, q2, q3, ↓reduceIte])) (by simp)
   ·
    have ht : text.length ≤ 800 := by have := of_decide_eq_false (by assumption : decide ((text.length : Int) > 800) = false); omega
    simp (decide := true) only [TF, EV, q1, q2, q3, pPD, Par.cs, ↓reduceIte, Int.reduceToNat]
    refine hK _ _ ?_; clear hK K
    refine WP.cond (b := _) rfl (fun q4 => ?_) (fun q4 => ?_)
    ·
     refine WP.sr [10] (by kernel_rfl) fun K hK => ?_
     simp (decide := true) only [TF, EV, q1, q2, q3, q4, pPD, Par.cs, ↓reduceIte, Int.reduceToNat]
     refine hK _ _ ?_; clear hK K
     refine WP.ret ?_
     exact Ends.pure (.inr rfl) rfl (Le.of_eq (by simp (decide := true) only [St.get, lk, W, q1, q2, q3, q4, ↓reduceIte])) (by simp)
    ·
     have hs : sig.length ≤ 300 := by have := of_decide_eq_false (by assumption : decide ((sig.length : Int) > 300) = false); omega
     refine WP.skip ?_
     show WP _ _ _ _ _ _
     refine WP.sr [2, 3, 4, 6, 11] (by kernel_rfl) fun K hK => ?_
     simp (decide := true) only [TF, EV, q1, q2, q3, q4, pPD, Par.cs, ↓reduceIte, Int.reduceToNat]
     refine CallK.imp (c_run_at 1 2 (by decide) l nl hl1k hnl hlo) rfl rfl (by simp [lk, BClo]) (by simp [lk]) (by simp [lk, fg]) ?_
     simp (decide := true) only [TF, EV, q1, q2, q3, q4, pPD, Par.cs, ↓reduceIte, Int.reduceToNat]
     refine hK _ _ ?_; clear hK K
     refine WP.seq ?_
     refine WP.sr [2, 3, 4, 6, 49] (by kernel_rfl) fun K hK => ?_
     simp (decide := true) only [TF, EV, q1, q2, q3, q4, pPD, Par.cs, ↓reduceIte, Int.reduceToNat]
     refine CallK.imp (c_anchor_at 1 2 (by decide) (runS l ([], 0)).1 (runS l ([], 0)).2 hr1.ok p hp now) rfl rfl (by simp [lk, BClo]) (by simp [lk]) (by simp [lk, fg]) ?_
     refine runOps.take 2 fun J hJ => ?_
     simp (decide := true) only [TF, EV, q1, q2, q3, q4, pPD, Par.cs, ↓reduceIte, Int.reduceToNat]
     refine hJ _ _ ?_; clear hJ J
     refine runOps.part 42 rfl (fun q5 => ?_) (fun q5 => ?_)
     ·
      simp (decide := true) only [TF, EV, q1, q2, q3, q4, q5, pPD, Par.cs, ↓reduceIte, Int.reduceToNat]
      refine hK _ _ ?_; clear hK K
      refine WP.cond (b := true) (by rfl) (fun _ => ?_) nofun
      refine WP.sr [10] (by kernel_rfl) fun K hK => ?_
      simp (decide := true) only [TF, EV, q1, q2, q3, q4, q5, pPD, Par.cs, ↓reduceIte, Int.reduceToNat]
      refine hK _ _ ?_; clear hK K
      refine WP.ret ?_
      exact Ends.pure (.inr rfl) rfl (Le.of_eq (by simp (decide := true) only [St.get, lk, W, q1, q2, q3, q4, q5, ↓reduceIte])) (by simp)
     ·
      have hA : (anch (runS l ([], 0)).1 (runS l ([], 0)).2 p now).1 = 0 := by simpa using (by assumption : ((anch (runS l ([], 0)).1 (runS l ([], 0)).2 p now).1 != 0) = false)
      simp (decide := true) only [TF, EV, q1, q2, q3, q4, q5, pPD, Par.cs, ↓reduceIte, Int.reduceToNat]
      refine CallK.imp (c_update_at 1 2 (by decide) (anch (runS l ([], 0)).1 (runS l ([], 0)).2 p now).2.1 (anch (runS l ([], 0)).1 (runS l ([], 0)).2 p now).2.2 ha1.ok text sig (by omega) (by omega) now) rfl rfl (by simp [lk, BClo]) (by simp [lk]) (by simp [lk, fg]) ?_
      simp (decide := true) only [TF, EV, q1, q2, q3, q4, q5, pPD, Par.cs, ↓reduceIte, Int.reduceToNat]
      refine hK _ _ ?_; clear hK K
      refine WP.cond (b := _) rfl (fun q6 => ?_) (fun q6 => ?_)
      ·
       refine WP.sr [10] (by kernel_rfl) fun K hK => ?_
       simp (decide := true) only [TF, EV, q1, q2, q3, q4, q5, q6, pPD, Par.cs, ↓reduceIte, Int.reduceToNat]
       refine hK _ _ ?_; clear hK K
       refine WP.ret ?_
       exact Ends.pure (.inr rfl) rfl (Le.of_eq (by simp (decide := true) only [St.get, lk, W, q1, q2, q3, q4, q5, q6, ↓reduceIte])) (by simp)
      ·
       have hU : (upd (anch (runS l ([], 0)).1 (runS l ([], 0)).2 p now).2.1 (anch (runS l ([], 0)).1 (runS l ([], 0)).2 p now).2.2 text sig now).1 = 0 := by simpa using (by assumption : ((upd (anch (runS l ([], 0)).1 (runS l ([], 0)).2 p now).2.1 (anch (runS l ([], 0)).1 (runS l ([], 0)).2 p now).2.2 text sig now).1 != 0) = false)
       have hz := upd_parsed hU
       refine WP.skip ?_
       show WP _ _ _ _ _ _
       refine WP.sr [2, 3, 4, 6, 12, 14] (by kernel_rfl) fun K hK => ?_
       simp (decide := true) only [TF, EV, q1, q2, q3, q4, q5, q6, hz, pPD, Par.cs, ↓reduceIte, Int.reduceToNat]
       refine CallK.pure (c_m_parse text (by omega)) rfl rfl (by simp [-List.map_take]) ?_
       simp (decide := true) only [TF, EV, q1, q2, q3, q4, q5, q6, hz, pPD, Par.cs, ↓reduceIte, Int.reduceToNat]
       refine hK _ _ ?_; clear hK K
       refine WP.seq ?_
       refine WP.sr [2, 3, 4, 6, 14, 64] (by kernel_rfl) fun K hK => ?_
       simp (decide := true) only [TF, EV, q1, q2, q3, q4, q5, q6, hz, pPD, Par.cs, ↓reduceIte, Int.reduceToNat]
       refine hK _ _ ?_; clear hK K
       refine WP.cond (b := _) rfl (fun q7 => ?_) (fun q7 => ?_)
       ·
        refine WP.sr [10] (by kernel_rfl) fun K hK => ?_
        simp (decide := true) only [TF, EV, q1, q2, q3, q4, q5, q6, hz, q7, pPD, Par.cs, ↓reduceIte, Int.reduceToNat]
        refine hK _ _ ?_; clear hK K
        refine WP.ret ?_
        exact Ends.pure (.inr rfl) rfl (Le.of_eq (by simp (decide := true) only [St.get, lk, W, q1, q2, q3, q4, q5, q6, hz, q7, ↓reduceIte])) (by simp)
       ·
        have hi : (pP text).1.id = p.id := by simpa using q7
        have hQ := signed_by hA hU hi
        refine WP.skip ?_
        show WP _ _ _ _ _ _
        refine WP.seq ?_
        refine WP.sr [2, 3, 4, 6, 69, 70] (by kernel_rfl) fun K hK => ?_
        simp (decide := true) only [TF, EV, q1, q2, q3, q4, q5, q6, hz, q7, pPD, Par.cs, ↓reduceIte, Int.reduceToNat]
        refine hK _ _ ?_; clear hK K
        refine WP.block ?_
        refine WP.lp [2, 3, 4, 6, 69] (X := {k : Nat // k ≤ p.keys.length ∧ ∃ q ∈ p.keys.drop k, (sig == q.id ++ [58] ++ macB q.sec text) = true ∧ inB q.af q.au now = true}) (fun x => match x with | ⟨(k), _⟩ => [(70, .int .i64 k)]) (fun x => match x with | ⟨(k), _⟩ => [(0, .box 26 [.str p.id, .str p.addr, .slice 6 p.nk (p.keys.map Key.cs) none, .int .i64 p.f, .int .i64 p.u])]) (fun x => match x with | ⟨(k), _⟩ => p.keys.length - k) (by simp (decide := true) only [W, ↓reduceIte, Int.reduceToNat]; rfl) ?_ ⟨(0), ⟨Nat.zero_le _, hQ⟩⟩ ?_
        rotate_left
        · exact Weak.store (by simp [St.get, lk, W, Le.refl, q1, q2, q3, q4, q5, q6, hz, q7]) (by simp [lk, W, q1, q2, q3, q4, q5, q6, hz, q7]) (by simp [lk, W]) (by simp [BClo, lk]) (by simp [lk])
        rintro ⟨k, hk, hI⟩
        dsimp only
        simp only [List.cons_append, List.nil_append]
        refine WP.sr [2, 3, 4, 6, 69, 70, 71] (by kernel_rfl) fun K hK => ?_
        simp (decide := true) only [TF, EV, q1, q2, q3, q4, q5, q6, hz, q7, hk, pPD, Par.cs, ↓reduceIte, Int.reduceToNat]
        refine hK _ _ ?_; clear hK K
        refine WP.seq ?_
        refine WP.cond (b := _) rfl (fun q8 => ?_) (fun q8 => ?_)
        ·
         have hlt := lt_of_q q8
         have hg : (p.keys.map Key.cs)[k]? = some [.str p.keys[k].id, .str p.keys[k].sec, .int .i64 p.keys[k].sf, .int .i64 p.keys[k].su, .int .i64 p.keys[k].af, .int .i64 p.keys[k].au] := getM hlt
         have hnf := nl_false hpl hlt
         refine WP.skip ?_
         show WP _ _ _ _ _ _
         refine WP.seq ?_
         refine WP.block ?_
         refine WP.sr [2, 3, 4, 6, 15, 69, 70] (by kernel_rfl) fun K hK => ?_
         simp (decide := true) only [TF, EV, q1, q2, q3, q4, q5, q6, hz, q7, hk, q8, hg, hnf, pPD, Par.cs, ↓reduceIte, Int.reduceToNat]
         refine hK _ _ ?_; clear hK K
         refine WP.sr [2, 3, 4, 6, 16, 69, 70] (by kernel_rfl) fun K hK => ?_
         simp (decide := true) only [TF, EV, q1, q2, q3, q4, q5, q6, hz, q7, hk, q8, hg, hnf, pPD, Par.cs, ↓reduceIte, Int.reduceToNat]
         refine hK _ _ ?_; clear hK K
         refine WP.sd [2, 3, 4, 6, 69, 70, 93] (by kernel_rfl) (by kernel_rfl) fun K hK => ?_
         simp (decide := true) only [TF, EV, q1, q2, q3, q4, q5, q6, hz, q7, hk, q8, hg, hnf, pPD, Par.cs, ↓reduceIte, Int.reduceToNat]
         refine ⟨by have := (hp.2.2.2.2 _ (List.getElem_mem hlt)).1; omega, ?_⟩
         refine CallK.pure (c_mac p.keys[k].sec text (hp.2.2.2.2 _ (List.getElem_mem hlt)).2 (by omega)) rfl (by simp [fg]) (by simp) ?_
         refine runOps.take 3 fun J hJ => ?_
         simp (decide := true) only [TF, EV, q1, q2, q3, q4, q5, q6, hz, q7, hk, q8, hg, hnf, pPD, Par.cs, ↓reduceIte, Int.reduceToNat]
         refine ⟨by have := (hp.2.2.2.2 _ (List.getElem_mem hlt)).1; have := macB_len p.keys[k].sec text; simp; omega, ?_⟩
         refine hJ _ _ ?_; clear hJ J
         refine runOps.part 88 rfl (fun q9 => ?_) (fun q9 => ?_)
         ·
          simp (decide := true) only [TF, EV, q1, q2, q3, q4, q5, q6, hz, q7, hk, q8, hg, hnf, q9, pPD, Par.cs, ↓reduceIte, Int.reduceToNat]
          refine CallK.pure (c_c_in p.keys[k].af p.keys[k].au now) rfl rfl (by simp [-List.map_take]) ?_
          simp (decide := true) only [TF, EV, q1, q2, q3, q4, q5, q6, hz, q7, hk, q8, hg, hnf, q9, pPD, Par.cs, ↓reduceIte, Int.reduceToNat]
          refine hK _ _ (by kernel_rfl) ?_
          clear hK K
          refine WP.cond (b := _) rfl (fun q10 => ?_) (fun q10 => ?_)
          ·
           refine WP.sr [10] (by kernel_rfl) fun K hK => ?_
           simp (decide := true) only [TF, EV, q1, q2, q3, q4, q5, q6, hz, q7, hk, q8, hg, hnf, q9, q10, pPD, Par.cs, ↓reduceIte, Int.reduceToNat]
           refine hK _ _ ?_; clear hK K
           refine WP.ret ?_
           exact Ends.pure (.inr rfl) rfl (Le.of_eq (by simp (decide := true) only [St.get, lk, W, q1, q2, q3, q4, q5, q6, hz, q7, hk, q8, hg, hnf, q9, q10, hI, ↓reduceIte])) (by simp)
          ·
           have hI2 := next_q hlt hI (fun h => by have := h.2; simp_all)
           refine WP.skip ?_
           show WP _ _ _ _ _ _
           refine WP.region (by kernel_rfl) fun K hK => ?_
           simp (decide := true) only [TF, EV, q1, q2, q3, q4, q5, q6, hz, q7, hk, q8, hg, hnf, q9, q10, pPD, Par.cs, ↓reduceIte, Int.reduceToNat]
           refine hK _ _ ?_; clear hK K
           show ∃ y, _ ∧ Weak _ _ _
           refine ⟨⟨k + 1, ?_⟩, ?_, ?_⟩
           · exact ⟨by omega, hI2⟩
           · dsimp only; omega
           · exact Weak.store (by simp [St.get, lk, W, Le.refl, q1, q2, q3, q4, q5, q6, hz, q7, hk, q8, hg, hnf, q9, q10, wrapS hlt (show p.keys.length ≤ 140737488355328 by omega)]) (by simp [lk, W, q1, q2, q3, q4, q5, q6, hz, q7, hk, q8, hg, hnf, q9, q10]) (by simp [lk, W]) (by simp [BClo, lk]) (by simp [lk])
         ·
          have hI2 := next_q hlt hI (fun h => by have := h.1; simp_all)
          simp (decide := true) only [TF, EV, q1, q2, q3, q4, q5, q6, hz, q7, hk, q8, hg, hnf, q9, pPD, Par.cs, ↓reduceIte, Int.reduceToNat]
          refine hK _ _ (by kernel_rfl) ?_
          clear hK K
          refine WP.cond (b := false) (by rfl) nofun (fun _ => ?_)
          refine WP.skip ?_
          show WP _ _ _ _ _ _
          refine WP.region (by kernel_rfl) fun K hK => ?_
          simp (decide := true) only [TF, EV, q1, q2, q3, q4, q5, q6, hz, q7, hk, q8, hg, hnf, q9, pPD, Par.cs, ↓reduceIte, Int.reduceToNat]
          refine hK _ _ ?_; clear hK K
          show ∃ y, _ ∧ Weak _ _ _
          refine ⟨⟨k + 1, ?_⟩, ?_, ?_⟩
          · exact ⟨by omega, hI2⟩
          · dsimp only; omega
          · exact Weak.store (by simp [St.get, lk, W, Le.refl, q1, q2, q3, q4, q5, q6, hz, q7, hk, q8, hg, hnf, q9, wrapS hlt (show p.keys.length ≤ 140737488355328 by omega)]) (by simp [lk, W, q1, q2, q3, q4, q5, q6, hz, q7, hk, q8, hg, hnf, q9]) (by simp [lk, W]) (by simp [BClo, lk]) (by simp [lk])
        ·
         have hge := ge_of_q q8
         exact (no_q (ge_of_q q8) hI).elim
end Go.Proofs
set_option maxRecDepth 100000
namespace Go.Proofs.YthepmnlpfhmddaaGreatDoor.RwSigned
open Go Go.Id Go.Proofs Go.ChangeShapes Go.ChangeMaps Go.WideShapes Go.ChangeAt Go.RowKit Go.Proofs.YthepmnlpfhmddaaGreatDoor.Rw
theorem contract (H : Type) (enc : TypeId × Value → H) (W : World) (base : Nat) (args : Array Value) (ds gs : List (DataW H)) (before : List MemPlace)
    (hval : ∀ (j : Nat) t v, Tryz.f10.params[j]? = some t → args[j]? = some v → Value.okWide Tryz.prog W .any base t v)
    (hW : DataW.Whole enc Tryz.prog Tryz.f10.params.toList Rows.metadataSignedSpec.vars false W args.toList ds gs before) (hL : laidMetH Tryz.prog laidL W) (hS : W.ShapedOpen Tryz.prog) :
    Calls Tryz.prog 10 args W fun e W' => ∃ v, e = .returned v ∧ Rows.metadataSignedSpec.post enc Tryz.prog Tryz.f10 false true false false W args v W' := by
  have hW' := hW
  obtain ⟨p, q, hA0, hV, rfl, hfz, hnd⟩ := hW
  have hA : DataW.TrodAll enc Tryz.prog W 0 (fun _ => true) true Tryz.f10.params.toList args.toList ds p := hA0
  rw [Tryz.params10] at hA hval
  obtain ⟨al⟩ := args
  dsimp only at hA
  obtain ⟨v0, _, d0, _, p_0, _, rfl, rfl, rfl, h0, hA⟩ := trodAll_cons hA
  obtain ⟨v1, _, d1, _, p_1, _, rfl, rfl, rfl, h1, hA⟩ := trodAll_cons hA
  obtain ⟨v2, _, d2, _, p_2, _, rfl, rfl, rfl, h2, hA⟩ := trodAll_cons hA
  obtain ⟨v3, _, d3, _, p_3, _, rfl, rfl, rfl, h3, hA⟩ := trodAll_cons hA
  obtain ⟨v4, _, d4, _, p_4, _, rfl, rfl, rfl, h4, hA⟩ := trodAll_cons hA
  obtain ⟨rfl, rfl, rfl⟩ := trodAll_nil hA
  obtain ⟨rfl, rfl⟩ := trodVars_none hV
  obtain ⟨l0, nl0, hn0, hnl0, hb0, r0⟩ := arg_ops (hval 0 44 v0 rfl rfl) h0
  obtain ⟨p1, hn1, hnl1, r1⟩ := arg_par (hval 1 26 v1 rfl rfl) h1
  obtain ⟨s2, r2⟩ := arg_str (hval 2 9 v2 rfl rfl) h2
  obtain ⟨s3, r3⟩ := arg_str (hval 3 9 v3 rfl rfl) h3
  obtain ⟨n4, r4⟩ := arg_int (hval 4 3 v4 rfl rfl) h4
  refine (CallP.run (c_l_signed l0 nl0 hn0 hnl0 hb0 p1 hn1 hnl1 s2 s3 n4) W (polI_of hL hS) (heap_of hS) [v0, v1, v2, v3, v4] rfl (Rw.consR r0 (Rw.consR r1 (Rw.consR r2 (Rw.consR r3 (Rw.one r4)))))).mono ?_
  rintro e W' ⟨v, rfl, hr, hb⟩
  cases hr
  exact ⟨_, rfl, post_all hW' rfl hb (of_decide_eq_true (by kernel_rfl)) (by kernel_rfl) rfl rfl rfl⟩
abbrev wit : Array Value := #[.slice none 0 0, .agg #[.string ⟨#[]⟩, .string ⟨#[]⟩, .slice none 0 0, .int .i64 0, .int .i64 0], .string ⟨#[]⟩, .string ⟨#[]⟩, .int .i64 0]
theorem reads (os : Os) {H : Type} (enc : TypeId × Value → H) : (DataW.whole enc Tryz.prog (memW os wit) Tryz.f10.params.toList Rows.metadataSignedSpec.vars false wit.toList 8).map (fun x => (x.1, x.2.1)) = some ([.nil, .agg [.lit (.string []), .lit (.string []), .nil, .agg [.lit (.int .i64 0), .lit (.int .i64 0)]], .lit (.string []), .lit (.string []), .lit (.int .i64 0)], []) := by kernel_rfl
theorem lifted (os : Os) (started : os.Started) (H : Type) (enc : TypeId × Value → H) (F : Stop.Interp) :
    ReturnsInHanded {} Tryz.checked os 10 .any ((OpenSpec.ofChange Rows.metadataSignedSpec).preRow enc Tryz.prog Tryz.f10 Rows.metadataSignedRow.domain false Rows.metadataSignedRow.laid) (((OpenSpec.ofChange Rows.metadataSignedSpec).at F).post enc Tryz.prog Tryz.f10 false true false false) := by
  obtain ⟨⟨x1, x2, x3⟩, hx, hx1⟩ := Option.map_eq_some_iff.1 (reads os enc)
  simp only [Prod.mk.injEq] at hx1
  obtain ⟨rfl, rfl⟩ := hx1
  refine returnsInHanded_of_row (C := Tryz.checked) (s := OpenSpec.ofChange Rows.metadataSignedSpec) own started (by kernel_rfl) Tryz.func10
    (witness_row_atRef (enc := enc) (C := Tryz.checked) false (laidWorld os) wit rfl (by kernel_rfl) (by kernel_rfl) (by kernel_rfl)
      (OpenSpec.preRow_of_cond 8 hx (by kernel_rfl) (fun k hk => by cases hk) (by kernel_rfl) (laid_met os _))) ?_
  intro W base args ds gs before hval hW _ _ _ hL hS _
  exact contract H enc W base args ds gs before hval hW hL hS
theorem said : Rows.MetadataSignedSaid :=
  OpenClaim.holds_of_cond 10 Tryz.f10 rfl rfl rfl rfl rfl rfl rfl ⟨rfl, rfl, rfl, rfl, rfl⟩ rfl rfl rfl rfl rfl (by kernel_rfl) Tryz.func10 (by kernel_rfl)
    (of_decide_eq_true (by kernel_rfl)) (by unfold Func.isWrapper; first | (rw [if_pos (by decide +kernel)]; kernel_rfl) | (rw [if_neg (by decide +kernel)]; exact ⟨rfl, rfl⟩))
    (fun os started H enc _ F => by rw [OpenClaim.pre_eq_preRow]; exact lifted os started H enc F)
theorem plain (f : FuncId) (fn : Func) (hf : Tryz.pinned.checked.prog.funcNamed Rows.metadataSignedRow.func = some f) (hfn : Tryz.pinned.checked.prog.funcs[f]? = some fn) :
    true = Tryz.pinned.checked.prog.looks [] ∧ ∀ (j : Nat) t, fn.params[j]? = some t → Tryz.pinned.checked.prog.wantsStandIn t = false := by
  obtain rfl : f = 10 := Option.some.inj ((show Tryz.prog.funcNamed Rows.metadataSignedRow.func = some 10 by kernel_rfl).symm.trans hf) |>.symm
  obtain rfl : fn = Tryz.f10 := (Option.some.inj (Tryz.func10.symm.trans hfn)).symm
  refine ⟨by kernel_rfl, fun j t ht => ?_⟩
  have hall : (Tryz.f10.params.toList.all fun t => Tryz.prog.wantsStandIn t == false) = true := by kernel_rfl
  exact eq_of_beq (List.all_eq_true.1 hall t (by simpa using Array.mem_of_getElem? ht))
theorem card : Rows.MetadataSignedCardSaid :=
  Claim7.holds_tied_plain_at .later [] _ _ _ _ said (fun _ h => by cases h) (by kernel_rfl) (fun _ h => by cases h) metadataSigned_row_tie rfl ⟨rfl, rfl⟩ (by kernel_rfl) rfl plain (by kernel_rfl)
end Go.Proofs.YthepmnlpfhmddaaGreatDoor.RwSigned
#print axioms Go.Proofs.YthepmnlpfhmddaaGreatDoor.RwSigned.card
