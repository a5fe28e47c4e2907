/- After Rotate the ring is valid, the new key signs as long as it lives, and each old key is accepted at the same instants as before. Conditions: none, the given statement. -/
import Derived.Test.YtabkoicelflhcaaGreatDoorG11
import Derived.Test.YtabkoicelflhcaaGreatDoorG09
import Derived.Test.YtabkoicelflhcaaGreatDoorG10
import Derived.ChangeMaps5
set_option linter.unusedSimpArgs false
set_option linter.unusedVariables false
set_option maxRecDepth 10000
namespace Go.Proofs
open Go Go.Id
set_option maxHeartbeats 4000000
theorem c_l_follows (l : List Key) (nl : Bool) (hn : l.length ≤ 9223372036854775807) (hnl : nl = true → l = []) (id sec : List UInt8) (now life grace t skew : Int) : CallP Pr 6 [.slice 6 nl (l.map Key.cs) none, .str id, .str sec, .int .i64 now, .int .i64 life, .int .i64 grace, .int .i64 t, .int .i64 skew] (.bool true) := by
 refine CallP.of_wp Tryz.func6 rfl (by kernel_rfl) Tryz.ntmps6 (by simp) ?_
 simp only [frameOf, Nat.reduceAdd, Nat.zero_add]
 refine WP.sr [0, 1, 2, 3, 4, 5, 6, 7] (by kernel_rfl) fun K hK => ?_
 simp (decide := true) only [TF, EV, ↓reduceIte, Int.reduceToNat]
 refine hK _ _ ?_; clear hK K
 refine WP.seq ?_
 refine WP.sr [0, 1, 2, 3, 4, 5, 6, 7, 38] (by kernel_rfl) fun K hK => ?_
 simp (decide := true) only [TF, EV, ↓reduceIte, Int.reduceToNat]
 refine CallK.pure (c_great l nl 15 hn hnl) rfl rfl (by simp [-List.map_take]) ?_
 refine runOps.take 1 fun J hJ => ?_
 simp (decide := true) only [TF, EV, ↓reduceIte, Int.reduceToNat]
 refine hJ _ _ ?_; clear hJ J
 refine runOps.part 29 rfl (fun q1 => ?_) (fun q1 => ?_)
 ·
  simp (decide := true) only [TF, EV, q1, ↓reduceIte, Int.reduceToNat]
  refine hK _ _ ?_; clear hK K
  refine WP.cond (b := true) (by rfl) (fun _ => ?_) nofun
  refine WP.sr [16] (by kernel_rfl) fun K hK => ?_
  simp (decide := true) only [TF, EV, q1, ↓reduceIte, Int.reduceToNat]
  refine CallK.pure (c_live) rfl rfl (by simp [-List.map_take]) ?_
  simp (decide := true) only [TF, EV, q1, ↓reduceIte, Int.reduceToNat]
  refine hK _ _ ?_; clear hK K
  refine WP.ret ?_
  exact Ends.pure (.inr rfl) rfl (Le.of_eq (by simp (decide := true) only [St.get, lk, W, q1, ↓reduceIte])) (by simp)
 ·
  have hgr : greatB l ((15 : Nat) : Int) = false := by simpa using q1
  obtain ⟨hlen, hok⟩ := great_no hgr
  refine runOps.take 5 fun J hJ => ?_
  simp (decide := true) only [TF, EV, q1, ↓reduceIte, Int.reduceToNat]
  refine hJ _ _ ?_; clear hJ J
  refine runOps.part 34 rfl (fun q2 => ?_) (fun q2 => ?_)
  ·
   simp (decide := true) only [TF, EV, q1, q2, ↓reduceIte, Int.reduceToNat]
   refine hK _ _ ?_; clear hK K
   refine WP.cond (b := true) (by rfl) (fun _ => ?_) nofun
   refine WP.sr [16] (by kernel_rfl) fun K hK => ?_
   simp (decide := true) only [TF, EV, q1, q2, ↓reduceIte, Int.reduceToNat]
   refine CallK.pure (c_live) rfl rfl (by simp [-List.map_take]) ?_
   simp (decide := true) only [TF, EV, q1, q2, ↓reduceIte, Int.reduceToNat]
   refine hK _ _ ?_; clear hK K
   refine WP.ret ?_
   exact Ends.pure (.inr rfl) rfl (Le.of_eq (by simp (decide := true) only [St.get, lk, W, q1, q2, ↓reduceIte])) (by simp)
  ·
   have hid : id.length ≤ 300 := by have := of_decide_eq_false q2; omega
   simp (decide := true) only [TF, EV, q1, q2, ↓reduceIte, Int.reduceToNat]
   refine hK _ _ ?_; clear hK K
   refine WP.cond (b := _) rfl (fun q3 => ?_) (fun q3 => ?_)
   ·
    refine WP.sr [16] (by kernel_rfl) fun K hK => ?_
    simp (decide := true) only [TF, EV, q1, q2, q3, ↓reduceIte, Int.reduceToNat]
    refine CallK.pure (c_live) rfl rfl (by simp [-List.map_take]) ?_
    simp (decide := true) only [TF, EV, q1, q2, q3, ↓reduceIte, Int.reduceToNat]
    refine hK _ _ ?_; clear hK K
    refine WP.ret ?_
    exact Ends.pure (.inr rfl) rfl (Le.of_eq (by simp (decide := true) only [St.get, lk, W, q1, q2, q3, ↓reduceIte])) (by simp)
   ·
    have hsec : sec.length ≤ 300 := by have := of_decide_eq_false q3; omega
    refine WP.skip ?_
    show WP _ _ _ _ _ _
    rcases rot_facts l id sec now life grace t skew hok (by omega) (by omega) hlen with ⟨e, hR, he⟩ | ⟨m, hR, hck, hml, hm16, hmok, hsg, hac⟩
    ·
     have hz0 : (((0 : Nat) : Int) == 0) = true := rfl
     refine WP.sr [0, 1, 2, 3, 4, 6, 7, 17, 18] (by kernel_rfl) fun K hK => ?_
     simp (decide := true) only [TF, EV, q1, q2, q3, hR, he, hz0, ↓reduceIte, Int.reduceToNat]
     refine CallK.pure (c_rotate l nl id sec now life grace (by omega) hnl hok (by omega) (by omega)) rfl rfl (by simp [-List.map_take]) ?_
     simp (decide := true) only [TF, EV, q1, q2, q3, hR, he, hz0, ↓reduceIte, Int.reduceToNat]
     refine hK _ _ ?_; clear hK K
     refine WP.seq ?_
     refine WP.sr [0, 1, 2, 3, 4, 6, 7, 17, 51] (by kernel_rfl) fun K hK => ?_
     simp (decide := true) only [TF, EV, q1, q2, q3, hR, he, hz0, ↓reduceIte, Int.reduceToNat]
     refine hK _ _ ?_; clear hK K
     refine WP.cond (b := true) (by rfl) (fun _ => ?_) nofun
     refine WP.sr [16] (by kernel_rfl) fun K hK => ?_
     simp (decide := true) only [TF, EV, q1, q2, q3, hR, he, hz0, ↓reduceIte, Int.reduceToNat]
     refine CallK.pure (c_live) rfl rfl (by simp [-List.map_take]) ?_
     simp (decide := true) only [TF, EV, q1, q2, q3, hR, he, hz0, ↓reduceIte, Int.reduceToNat]
     refine hK _ _ ?_; clear hK K
     refine WP.ret ?_
     exact Ends.pure (.inr rfl) rfl (Le.of_eq (by simp (decide := true) only [St.get, lk, W, q1, q2, q3, hR, he, hz0, ↓reduceIte])) (by simp)
    ·
     have hwl : IntKind.wrap .i64 ((l.length : Int) + 1) = ((l.length + 1 : Nat) : Int) := by rw [wrap_i64 (by omega) (by omega)]; rfl
     refine WP.sr [0, 1, 2, 3, 4, 6, 7, 17, 18] (by kernel_rfl) fun K hK => ?_
     simp (decide := true) only [TF, EV, q1, q2, q3, hR, hck, hml, hwl, ↓reduceIte, Int.reduceToNat]
     refine CallK.pure (c_rotate l nl id sec now life grace (by omega) hnl hok (by omega) (by omega)) rfl rfl (by simp [-List.map_take]) ?_
     simp (decide := true) only [TF, EV, q1, q2, q3, hR, hck, hml, hwl, ↓reduceIte, Int.reduceToNat]
     refine hK _ _ ?_; clear hK K
     refine WP.seq ?_
     refine WP.sr [0, 1, 2, 3, 4, 6, 7, 17, 51] (by kernel_rfl) fun K hK => ?_
     simp (decide := true) only [TF, EV, q1, q2, q3, hR, hck, hml, hwl, ↓reduceIte, Int.reduceToNat]
     refine hK _ _ ?_; clear hK K
     refine WP.cond (b := false) (by rfl) nofun (fun _ => ?_)
     refine WP.skip ?_
     show WP _ _ _ _ _ _
     refine WP.seq ?_
     refine WP.sr [0, 1, 2, 3, 4, 6, 7, 17, 72] (by kernel_rfl) fun K hK => ?_
     simp (decide := true) only [TF, EV, q1, q2, q3, hR, hck, hml, hwl, ↓reduceIte, Int.reduceToNat]
     refine CallK.pure (c_k_check m false (by omega) nofun hmok) rfl rfl (by simp [-List.map_take]) ?_
     simp (decide := true) only [TF, EV, q1, q2, q3, hR, hck, hml, hwl, ↓reduceIte, Int.reduceToNat]
     refine CallK.pure (c_live) rfl rfl (by simp [-List.map_take]) ?_
     simp (decide := true) only [TF, EV, q1, q2, q3, hR, hck, hml, hwl, ↓reduceIte, Int.reduceToNat]
     refine hK _ _ ?_; clear hK K
     refine WP.cond (b := false) (by rfl) nofun (fun _ => ?_)
     refine WP.skip ?_
     show WP _ _ _ _ _ _
     refine WP.sr [0, 1, 2, 3, 4, 6, 7, 17, 19, 20] (by kernel_rfl) fun K hK => ?_
     simp (decide := true) only [TF, EV, q1, q2, q3, hR, hck, hml, hwl, ↓reduceIte, Int.reduceToNat]
     refine CallK.pure (c_signing m false t (by omega) nofun hmok) rfl rfl (by simp [-List.map_take]) ?_
     simp (decide := true) only [TF, EV, q1, q2, q3, hR, hck, hml, hwl, ↓reduceIte, Int.reduceToNat]
     refine hK _ _ ?_; clear hK K
     refine WP.sr [0, 1, 2, 3, 4, 6, 7, 17, 19, 20, 21] (by kernel_rfl) fun K hK => ?_
     simp (decide := true) only [TF, EV, q1, q2, q3, hR, hck, hml, hwl, ↓reduceIte, Int.reduceToNat]
     refine CallK.pure (c_r_instant _) rfl rfl (by simp [-List.map_take]) ?_
     simp (decide := true) only [TF, EV, q1, q2, q3, hR, hck, hml, hwl, ↓reduceIte, Int.reduceToNat]
     refine hK _ _ ?_; clear hK K
     refine WP.seq ?_
     refine WP.sr [0, 6, 7, 17, 107] (by kernel_rfl) fun K hK => ?_
     simp (decide := true) only [TF, EV, q1, q2, q3, hR, hck, hml, hwl, ↓reduceIte, Int.reduceToNat]
     refine CallK.pure (c_r_instant _) rfl rfl (by simp [-List.map_take]) ?_
     refine runOps.take 2 fun J hJ => ?_
     simp (decide := true) only [TF, EV, q1, q2, q3, hR, hck, hml, hwl, ↓reduceIte, Int.reduceToNat]
     refine hJ _ _ ?_; clear hJ J
     refine runOps.part 85 rfl (fun q4 => ?_) (fun q4 => ?_)
     ·
      have hat := q4
      simp (decide := true) only [TF, EV, q1, q2, q3, hR, hck, hml, hwl, q4, ↓reduceIte, Int.reduceToNat]
      refine CallK.pure (c_clock_add _ _) rfl rfl (by simp [-List.map_take]) ?_
      refine runOps.take 3 fun J hJ => ?_
      simp (decide := true) only [TF, EV, q1, q2, q3, hR, hck, hml, hwl, q4, ↓reduceIte, Int.reduceToNat]
      refine hJ _ _ ?_; clear hJ J
      refine runOps.part 92 rfl (fun q5 => ?_) (fun q5 => ?_)
      ·
       obtain ⟨hs1, hs2, hs3⟩ := hsg (by simpa using hat) (by simpa using q5)
       simp (decide := true) only [TF, EV, q1, q2, q3, hR, hck, hml, hwl, q4, q5, hs1, hs2, hs3, ↓reduceIte, Int.reduceToNat]
       refine hK _ _ ?_; clear hK K
       refine WP.cond (b := false) (by rfl) nofun (fun _ => ?_)
       refine WP.skip ?_
       show WP _ _ _ _ _ _
       refine WP.seq ?_
       refine WP.sr [0, 6, 7, 17, 109, 110] (by kernel_rfl) fun K hK => ?_
       simp (decide := true) only [TF, EV, q1, q2, q3, hR, hck, hml, hwl, q4, q5, hs1, hs2, hs3, ↓reduceIte, Int.reduceToNat]
       refine hK _ _ ?_; clear hK K
       refine WP.block ?_
       refine WP.lp [0, 6, 7, 17, 109] (X := {k : Nat // k ≤ l.length}) (fun x => match x with | ⟨(k), _⟩ => [(110, .int .i64 k)]) (fun x => match x with | ⟨(k), _⟩ => []) (fun x => match x with | ⟨(k), _⟩ => l.length - k) (by simp (decide := true) only [W, ↓reduceIte, Int.reduceToNat]; rfl) ?_ ⟨(0), Nat.zero_le _⟩ ?_
       rotate_left
       · exact Weak.nil (by simp [St.get, lk, W, Le.refl, q1, q2, q3, hR, hck, hml, hwl, q4, q5, hs1, hs2, hs3]) (by simp [W])
       rintro ⟨k, hk⟩
       dsimp only
       simp only [List.cons_append, List.nil_append]
       refine WP.sr [0, 6, 7, 17, 109, 110, 111] (by kernel_rfl) fun K hK => ?_
       simp (decide := true) only [TF, EV, q1, q2, q3, hR, hck, hml, hwl, q4, q5, hs1, hs2, hs3, ↓reduceIte, Int.reduceToNat]
       refine hK _ _ ?_; clear hK K
       refine WP.seq ?_
       refine WP.cond (b := _) rfl (fun q6 => ?_) (fun q6 => ?_)
       ·
        have hlt := lt_of_q q6
        have hg : (l.map Key.cs)[k]? = some [.str l[k].id, .str l[k].sec, .int .i64 l[k].sf, .int .i64 l[k].su, .int .i64 l[k].af, .int .i64 l[k].au] := getM hlt
        have hnf := nl_false hnl hlt
        obtain ⟨ha1, ha2, ha3, ha4⟩ := hac _ (List.getElem_mem hlt)
        refine WP.skip ?_
        show WP _ _ _ _ _ _
        refine WP.seq ?_
        refine WP.block ?_
        refine WP.sr [0, 6, 7, 17, 22, 109, 110] (by kernel_rfl) fun K hK => ?_
        simp (decide := true) only [TF, EV, q1, q2, q3, hR, hck, hml, hwl, q4, q5, hs1, hs2, hs3, q6, hg, hnf, ha1, ha2, ha3, ha4, ↓reduceIte, Int.reduceToNat]
        refine hK _ _ ?_; clear hK K
        refine WP.sr [0, 6, 7, 17, 22, 23, 24, 109, 110] (by kernel_rfl) fun K hK => ?_
        simp (decide := true) only [TF, EV, q1, q2, q3, hR, hck, hml, hwl, q4, q5, hs1, hs2, hs3, q6, hg, hnf, ha1, ha2, ha3, ha4, ↓reduceIte, Int.reduceToNat]
        refine CallK.pure (c_accepting l false l[k].id t skew (by omega) nofun) rfl rfl (by simp [-List.map_take]) ?_
        simp (decide := true) only [TF, EV, q1, q2, q3, hR, hck, hml, hwl, q4, q5, hs1, hs2, hs3, q6, hg, hnf, ha1, ha2, ha3, ha4, ↓reduceIte, Int.reduceToNat]
        refine hK _ _ ?_; clear hK K
        refine WP.sr [0, 6, 7, 17, 23, 24, 25, 26, 109, 110] (by kernel_rfl) fun K hK => ?_
        simp (decide := true) only [TF, EV, q1, q2, q3, hR, hck, hml, hwl, q4, q5, hs1, hs2, hs3, q6, hg, hnf, ha1, ha2, ha3, ha4, ↓reduceIte, Int.reduceToNat]
        refine CallK.pure (c_accepting m false l[k].id t skew (by omega) nofun) rfl rfl (by simp [-List.map_take]) ?_
        simp (decide := true) only [TF, EV, q1, q2, q3, hR, hck, hml, hwl, q4, q5, hs1, hs2, hs3, q6, hg, hnf, ha1, ha2, ha3, ha4, ↓reduceIte, Int.reduceToNat]
        refine hK _ _ ?_; clear hK K
        refine WP.sr [0, 6, 7, 17, 109, 110, 153] (by kernel_rfl) fun K hK => ?_
        simp (decide := true) only [TF, EV, q1, q2, q3, hR, hck, hml, hwl, q4, q5, hs1, hs2, hs3, q6, hg, hnf, ha1, ha2, ha3, ha4, ↓reduceIte, Int.reduceToNat]
        refine hK _ _ ?_; clear hK K
        refine WP.cond (b := false) (by rfl) nofun (fun _ => ?_)
        refine WP.skip ?_
        show WP _ _ _ _ _ _
        refine WP.region (by kernel_rfl) fun K hK => ?_
        simp (decide := true) only [TF, EV, q1, q2, q3, hR, hck, hml, hwl, q4, q5, hs1, hs2, hs3, q6, hg, hnf, ha1, ha2, ha3, ha4, ↓reduceIte, Int.reduceToNat]
        refine hK _ _ ?_; clear hK K
        show ∃ y, _ ∧ Weak _ _ _
        refine ⟨⟨k + 1, ?_⟩, ?_, ?_⟩
        · omega
        · dsimp only; omega
        · exact Weak.nil (by simp [St.get, lk, W, Le.refl, q1, q2, q3, hR, hck, hml, hwl, q4, q5, hs1, hs2, hs3, q6, hg, hnf, ha1, ha2, ha3, ha4, wrapS hlt (show l.length ≤ 140737488355328 by omega)]) (by simp [W])
       ·
        have hge := ge_of_q q6
        refine WP.exit ?_
        show WP _ _ _ _ _ _
        refine WP.sr [16] (by kernel_rfl) fun K hK => ?_
        simp (decide := true) only [TF, EV, q1, q2, q3, hR, hck, hml, hwl, q4, q5, hs1, hs2, hs3, q6, ↓reduceIte, Int.reduceToNat]
        refine hK _ _ ?_; clear hK K
        refine WP.ret ?_
        exact Ends.pure (.inr rfl) rfl (Le.of_eq (by simp (decide := true) only [St.get, lk, W, q1, q2, q3, hR, hck, hml, hwl, q4, q5, hs1, hs2, hs3, q6, ↓reduceIte])) (by simp)
      ·
       simp (decide := true) only [TF, EV, q1, q2, q3, hR, hck, hml, hwl, q4, q5, ↓reduceIte, Int.reduceToNat]
       refine hK _ _ ?_; clear hK K
       refine WP.cond (b := false) (by rfl) nofun (fun _ => ?_)
       refine WP.skip ?_
       show WP _ _ _ _ _ _
       refine WP.seq ?_
       refine WP.sr [0, 6, 7, 17, 109, 110] (by kernel_rfl) fun K hK => ?_
       simp (decide := true) only [TF, EV, q1, q2, q3, hR, hck, hml, hwl, q4, q5, ↓reduceIte, Int.reduceToNat]
       refine hK _ _ ?_; clear hK K
       refine WP.block ?_
       refine WP.lp [0, 6, 7, 17, 109] (X := {k : Nat // k ≤ l.length}) (fun x => match x with | ⟨(k), _⟩ => [(110, .int .i64 k)]) (fun x => match x with | ⟨(k), _⟩ => []) (fun x => match x with | ⟨(k), _⟩ => l.length - k) (by simp (decide := true) only [W, ↓reduceIte, Int.reduceToNat]; rfl) ?_ ⟨(0), Nat.zero_le _⟩ ?_
       rotate_left
       · exact Weak.nil (by simp [St.get, lk, W, Le.refl, q1, q2, q3, hR, hck, hml, hwl, q4, q5]) (by simp [W])
       rintro ⟨k, hk⟩
       dsimp only
       simp only [List.cons_append, List.nil_append]
       refine WP.sr [0, 6, 7, 17, 109, 110, 111] (by kernel_rfl) fun K hK => ?_
       simp (decide := true) only [TF, EV, q1, q2, q3, hR, hck, hml, hwl, q4, q5, ↓reduceIte, Int.reduceToNat]
       refine hK _ _ ?_; clear hK K
       refine WP.seq ?_
       refine WP.cond (b := _) rfl (fun q7 => ?_) (fun q7 => ?_)
       ·
        have hlt := lt_of_q q7
        have hg : (l.map Key.cs)[k]? = some [.str l[k].id, .str l[k].sec, .int .i64 l[k].sf, .int .i64 l[k].su, .int .i64 l[k].af, .int .i64 l[k].au] := getM hlt
        have hnf := nl_false hnl hlt
        obtain ⟨ha1, ha2, ha3, ha4⟩ := hac _ (List.getElem_mem hlt)
        refine WP.skip ?_
        show WP _ _ _ _ _ _
        refine WP.seq ?_
        refine WP.block ?_
        refine WP.sr [0, 6, 7, 17, 22, 109, 110] (by kernel_rfl) fun K hK => ?_
        simp (decide := true) only [TF, EV, q1, q2, q3, hR, hck, hml, hwl, q4, q5, q7, hg, hnf, ha1, ha2, ha3, ha4, ↓reduceIte, Int.reduceToNat]
        refine hK _ _ ?_; clear hK K
        refine WP.sr [0, 6, 7, 17, 22, 23, 24, 109, 110] (by kernel_rfl) fun K hK => ?_
        simp (decide := true) only [TF, EV, q1, q2, q3, hR, hck, hml, hwl, q4, q5, q7, hg, hnf, ha1, ha2, ha3, ha4, ↓reduceIte, Int.reduceToNat]
        refine CallK.pure (c_accepting l false l[k].id t skew (by omega) nofun) rfl rfl (by simp [-List.map_take]) ?_
        simp (decide := true) only [TF, EV, q1, q2, q3, hR, hck, hml, hwl, q4, q5, q7, hg, hnf, ha1, ha2, ha3, ha4, ↓reduceIte, Int.reduceToNat]
        refine hK _ _ ?_; clear hK K
        refine WP.sr [0, 6, 7, 17, 23, 24, 25, 26, 109, 110] (by kernel_rfl) fun K hK => ?_
        simp (decide := true) only [TF, EV, q1, q2, q3, hR, hck, hml, hwl, q4, q5, q7, hg, hnf, ha1, ha2, ha3, ha4, ↓reduceIte, Int.reduceToNat]
        refine CallK.pure (c_accepting m false l[k].id t skew (by omega) nofun) rfl rfl (by simp [-List.map_take]) ?_
        simp (decide := true) only [TF, EV, q1, q2, q3, hR, hck, hml, hwl, q4, q5, q7, hg, hnf, ha1, ha2, ha3, ha4, ↓reduceIte, Int.reduceToNat]
        refine hK _ _ ?_; clear hK K
        refine WP.sr [0, 6, 7, 17, 109, 110, 153] (by kernel_rfl) fun K hK => ?_
        simp (decide := true) only [TF, EV, q1, q2, q3, hR, hck, hml, hwl, q4, q5, q7, hg, hnf, ha1, ha2, ha3, ha4, ↓reduceIte, Int.reduceToNat]
        refine hK _ _ ?_; clear hK K
        refine WP.cond (b := false) (by rfl) nofun (fun _ => ?_)
        refine WP.skip ?_
        show WP _ _ _ _ _ _
        refine WP.region (by kernel_rfl) fun K hK => ?_
        simp (decide := true) only [TF, EV, q1, q2, q3, hR, hck, hml, hwl, q4, q5, q7, hg, hnf, ha1, ha2, ha3, ha4, ↓reduceIte, Int.reduceToNat]
        refine hK _ _ ?_; clear hK K
        show ∃ y, _ ∧ Weak _ _ _
        refine ⟨⟨k + 1, ?_⟩, ?_, ?_⟩
        · omega
        · dsimp only; omega
        · exact Weak.nil (by simp [St.get, lk, W, Le.refl, q1, q2, q3, hR, hck, hml, hwl, q4, q5, q7, hg, hnf, ha1, ha2, ha3, ha4, wrapS hlt (show l.length ≤ 140737488355328 by omega)]) (by simp [W])
       ·
        have hge := ge_of_q q7
        refine WP.exit ?_
        show WP _ _ _ _ _ _
        refine WP.sr [16] (by kernel_rfl) fun K hK => ?_
        simp (decide := true) only [TF, EV, q1, q2, q3, hR, hck, hml, hwl, q4, q5, q7, ↓reduceIte, Int.reduceToNat]
        refine hK _ _ ?_; clear hK K
        refine WP.ret ?_
        exact Ends.pure (.inr rfl) rfl (Le.of_eq (by simp (decide := true) only [St.get, lk, W, q1, q2, q3, hR, hck, hml, hwl, q4, q5, q7, ↓reduceIte])) (by simp)
     ·
      simp (decide := true) only [TF, EV, q1, q2, q3, hR, hck, hml, hwl, q4, ↓reduceIte, Int.reduceToNat]
      refine hK _ _ ?_; clear hK K
      refine WP.cond (b := false) (by rfl) nofun (fun _ => ?_)
      refine WP.skip ?_
      show WP _ _ _ _ _ _
      refine WP.seq ?_
      refine WP.sr [0, 6, 7, 17, 109, 110] (by kernel_rfl) fun K hK => ?_
      simp (decide := true) only [TF, EV, q1, q2, q3, hR, hck, hml, hwl, q4, ↓reduceIte, Int.reduceToNat]
      refine hK _ _ ?_; clear hK K
      refine WP.block ?_
      refine WP.lp [0, 6, 7, 17, 109] (X := {k : Nat // k ≤ l.length}) (fun x => match x with | ⟨(k), _⟩ => [(110, .int .i64 k)]) (fun x => match x with | ⟨(k), _⟩ => []) (fun x => match x with | ⟨(k), _⟩ => l.length - k) (by simp (decide := true) only [W, ↓reduceIte, Int.reduceToNat]; rfl) ?_ ⟨(0), Nat.zero_le _⟩ ?_
      rotate_left
      · exact Weak.nil (by simp [St.get, lk, W, Le.refl, q1, q2, q3, hR, hck, hml, hwl, q4]) (by simp [W])
      rintro ⟨k, hk⟩
      dsimp only
      simp only [List.cons_append, List.nil_append]
      refine WP.sr [0, 6, 7, 17, 109, 110, 111] (by kernel_rfl) fun K hK => ?_
      simp (decide := true) only [TF, EV, q1, q2, q3, hR, hck, hml, hwl, q4, ↓reduceIte, Int.reduceToNat]
      refine hK _ _ ?_; clear hK K
      refine WP.seq ?_
      refine WP.cond (b := _) rfl (fun q8 => ?_) (fun q8 => ?_)
      ·
       have hlt := lt_of_q q8
       have hg : (l.map Key.cs)[k]? = some [.str l[k].id, .str l[k].sec, .int .i64 l[k].sf, .int .i64 l[k].su, .int .i64 l[k].af, .int .i64 l[k].au] := getM hlt
       have hnf := nl_false hnl hlt
       obtain ⟨ha1, ha2, ha3, ha4⟩ := hac _ (List.getElem_mem hlt)
       refine WP.skip ?_
       show WP _ _ _ _ _ _
       refine WP.seq ?_
       refine WP.block ?_
       refine WP.sr [0, 6, 7, 17, 22, 109, 110] (by kernel_rfl) fun K hK => ?_
       simp (decide := true) only [TF, EV, q1, q2, q3, hR, hck, hml, hwl, q4, q8, hg, hnf, ha1, ha2, ha3, ha4, ↓reduceIte, Int.reduceToNat]
       refine hK _ _ ?_; clear hK K
       refine WP.sr [0, 6, 7, 17, 22, 23, 24, 109, 110] (by kernel_rfl) fun K hK => ?_
       simp (decide := true) only [TF, EV, q1, q2, q3, hR, hck, hml, hwl, q4, q8, hg, hnf, ha1, ha2, ha3, ha4, ↓reduceIte, Int.reduceToNat]
       refine CallK.pure (c_accepting l false l[k].id t skew (by omega) nofun) rfl rfl (by simp [-List.map_take]) ?_
       simp (decide := true) only [TF, EV, q1, q2, q3, hR, hck, hml, hwl, q4, q8, hg, hnf, ha1, ha2, ha3, ha4, ↓reduceIte, Int.reduceToNat]
       refine hK _ _ ?_; clear hK K
       refine WP.sr [0, 6, 7, 17, 23, 24, 25, 26, 109, 110] (by kernel_rfl) fun K hK => ?_
       simp (decide := true) only [TF, EV, q1, q2, q3, hR, hck, hml, hwl, q4, q8, hg, hnf, ha1, ha2, ha3, ha4, ↓reduceIte, Int.reduceToNat]
       refine CallK.pure (c_accepting m false l[k].id t skew (by omega) nofun) rfl rfl (by simp [-List.map_take]) ?_
       simp (decide := true) only [TF, EV, q1, q2, q3, hR, hck, hml, hwl, q4, q8, hg, hnf, ha1, ha2, ha3, ha4, ↓reduceIte, Int.reduceToNat]
       refine hK _ _ ?_; clear hK K
       refine WP.sr [0, 6, 7, 17, 109, 110, 153] (by kernel_rfl) fun K hK => ?_
       simp (decide := true) only [TF, EV, q1, q2, q3, hR, hck, hml, hwl, q4, q8, hg, hnf, ha1, ha2, ha3, ha4, ↓reduceIte, Int.reduceToNat]
       refine hK _ _ ?_; clear hK K
       refine WP.cond (b := false) (by rfl) nofun (fun _ => ?_)
       refine WP.skip ?_
       show WP _ _ _ _ _ _
       refine WP.region (by kernel_rfl) fun K hK => ?_
       simp (decide := true) only [TF, EV, q1, q2, q3, hR, hck, hml, hwl, q4, q8, hg, hnf, ha1, ha2, ha3, ha4, ↓reduceIte, Int.reduceToNat]
       refine hK _ _ ?_; clear hK K
       show ∃ y, _ ∧ Weak _ _ _
       refine ⟨⟨k + 1, ?_⟩, ?_, ?_⟩
       · omega
       · dsimp only; omega
       · exact Weak.nil (by simp [St.get, lk, W, Le.refl, q1, q2, q3, hR, hck, hml, hwl, q4, q8, hg, hnf, ha1, ha2, ha3, ha4, wrapS hlt (show l.length ≤ 140737488355328 by omega)]) (by simp [W])
      ·
       have hge := ge_of_q q8
       refine WP.exit ?_
       show WP _ _ _ _ _ _
       refine WP.sr [16] (by kernel_rfl) fun K hK => ?_
       simp (decide := true) only [TF, EV, q1, q2, q3, hR, hck, hml, hwl, q4, q8, ↓reduceIte, Int.reduceToNat]
       refine hK _ _ ?_; clear hK K
       refine WP.ret ?_
       exact Ends.pure (.inr rfl) rfl (Le.of_eq (by simp (decide := true) only [St.get, lk, W, q1, q2, q3, hR, hck, hml, hwl, q4, q8, ↓reduceIte])) (by simp)
end Go.Proofs
set_option linter.unusedVariables false
set_option maxRecDepth 100000
namespace Go.Proofs.YtabkoicelflhcaaGreatDoor.RwFollows
open Go Go.Id Go.Proofs Go.ChangeShapes Go.ChangeMaps Go.WideShapes Go.ChangeAt Go.RowKit Go.Proofs.YtabkoicelflhcaaGreatDoor.Rw
theorem contract (H : Type) (enc : TypeId × Value → H) (W : World) (base : Nat) (args : Array Value) (ds gs : List (DataW H)) (before : List MemPlace)
    (hval : ∀ (j : Nat) t v, Tryz.f6.params[j]? = some t → args[j]? = some v → Value.okWide Tryz.prog W .any base t v)
    (hW : DataW.Whole enc Tryz.prog Tryz.f6.params.toList Rows.keysFollowsSpec.vars false W args.toList ds gs before) (hL : laidMetH Tryz.prog laidL W) (hS : W.ShapedOpen Tryz.prog) :
    Calls Tryz.prog 6 args W fun e W' => ∃ v, e = .returned v ∧ Rows.keysFollowsSpec.post enc Tryz.prog Tryz.f6 false true false false W args v W' := by
  have hW' := hW
  obtain ⟨p, q, hA0, hV, rfl, hfz, hnd⟩ := hW
  have hA : DataW.TrodAll enc Tryz.prog W 0 (fun _ => true) true Tryz.f6.params.toList args.toList ds p := hA0
  rw [Tryz.params6] at hA hval
  obtain ⟨al⟩ := args
  dsimp only at hA
  obtain ⟨v0, _, d0, _, p_0, _, rfl, rfl, rfl, h0, hA⟩ := trodAll_cons hA
  obtain ⟨v1, _, d1, _, p_1, _, rfl, rfl, rfl, h1, hA⟩ := trodAll_cons hA
  obtain ⟨v2, _, d2, _, p_2, _, rfl, rfl, rfl, h2, hA⟩ := trodAll_cons hA
  obtain ⟨v3, _, d3, _, p_3, _, rfl, rfl, rfl, h3, hA⟩ := trodAll_cons hA
  obtain ⟨v4, _, d4, _, p_4, _, rfl, rfl, rfl, h4, hA⟩ := trodAll_cons hA
  obtain ⟨v5, _, d5, _, p_5, _, rfl, rfl, rfl, h5, hA⟩ := trodAll_cons hA
  obtain ⟨v6, _, d6, _, p_6, _, rfl, rfl, rfl, h6, hA⟩ := trodAll_cons hA
  obtain ⟨v7, _, d7, _, p_7, _, rfl, rfl, rfl, h7, hA⟩ := trodAll_cons hA
  obtain ⟨rfl, rfl, rfl⟩ := trodAll_nil hA
  obtain ⟨rfl, rfl⟩ := trodVars_none hV
  obtain ⟨l0, nl0, hn0, hnl0, r0⟩ := arg_keys (hval 0 22 v0 rfl rfl) h0
  obtain ⟨s1, r1⟩ := arg_str (hval 1 9 v1 rfl rfl) h1
  obtain ⟨s2, r2⟩ := arg_str (hval 2 9 v2 rfl rfl) h2
  obtain ⟨n3, r3⟩ := arg_int (hval 3 3 v3 rfl rfl) h3
  obtain ⟨n4, r4⟩ := arg_int (hval 4 3 v4 rfl rfl) h4
  obtain ⟨n5, r5⟩ := arg_int (hval 5 3 v5 rfl rfl) h5
  obtain ⟨n6, r6⟩ := arg_int (hval 6 3 v6 rfl rfl) h6
  obtain ⟨n7, r7⟩ := arg_int (hval 7 3 v7 rfl rfl) h7
  refine (CallP.run (c_l_follows l0 nl0 hn0 hnl0 s1 s2 n3 n4 n5 n6 n7) W (polI_of hL hS) (heap_of hS) [v0, v1, v2, v3, v4, v5, v6, v7] rfl (Rw.consR r0 (Rw.consR r1 (Rw.consR r2 (Rw.consR r3 (Rw.consR r4 (Rw.consR r5 (Rw.consR r6 (Rw.one r7))))))))).mono ?_
  rintro e W' ⟨v, rfl, hr, hb⟩
  cases hr
  exact ⟨_, rfl, post_all hW' rfl hb (of_decide_eq_true (by kernel_rfl)) (by kernel_rfl) rfl rfl rfl⟩
abbrev wit : Array Value := #[.slice none 0 0, .string ⟨#[]⟩, .string ⟨#[]⟩, .int .i64 0, .int .i64 0, .int .i64 0, .int .i64 0, .int .i64 0]
theorem reads (os : Os) {H : Type} (enc : TypeId × Value → H) : (DataW.whole enc Tryz.prog (memW os wit) Tryz.f6.params.toList Rows.keysFollowsSpec.vars false wit.toList 8).map (fun x => (x.1, x.2.1)) = some ([.nil, .lit (.string []), .lit (.string []), .lit (.int .i64 0), .lit (.int .i64 0), .lit (.int .i64 0), .lit (.int .i64 0), .lit (.int .i64 0)], []) := by kernel_rfl
theorem lifted (os : Os) (started : os.Started) (H : Type) (enc : TypeId × Value → H) (F : Stop.Interp) :
    ReturnsInHanded {} Tryz.checked os 6 .any ((OpenSpec.ofChange Rows.keysFollowsSpec).preRow enc Tryz.prog Tryz.f6 Rows.keysFollowsRow.domain false Rows.keysFollowsRow.laid) (((OpenSpec.ofChange Rows.keysFollowsSpec).at F).post enc Tryz.prog Tryz.f6 false true false false) := by
  obtain ⟨⟨x1, x2, x3⟩, hx, hx1⟩ := Option.map_eq_some_iff.1 (reads os enc)
  simp only [Prod.mk.injEq] at hx1
  obtain ⟨rfl, rfl⟩ := hx1
  refine returnsInHanded_of_row (C := Tryz.checked) (s := OpenSpec.ofChange Rows.keysFollowsSpec) own started (by kernel_rfl) Tryz.func6
    (witness_row_atRef (enc := enc) (C := Tryz.checked) false (laidWorld os) wit rfl (by kernel_rfl) (by kernel_rfl) (by kernel_rfl)
      (OpenSpec.preRow_of_cond 8 hx (by kernel_rfl) (fun k hk => by cases hk) (by kernel_rfl) (laid_met os _))) ?_
  intro W base args ds gs before hval hW _ _ _ hL hS _
  exact contract H enc W base args ds gs before hval hW hL hS
theorem said : Rows.KeysFollowsSaid :=
  OpenClaim.holds_of_cond 6 Tryz.f6 rfl rfl rfl rfl rfl rfl rfl ⟨rfl, rfl, rfl, rfl, rfl⟩ rfl rfl rfl rfl rfl (by kernel_rfl) Tryz.func6 (by kernel_rfl)
    (of_decide_eq_true (by kernel_rfl)) (by unfold Func.isWrapper; first | (rw [if_pos (by decide +kernel)]; kernel_rfl) | (rw [if_neg (by decide +kernel)]; exact ⟨rfl, rfl⟩))
    (fun os started H enc _ F => by rw [OpenClaim.pre_eq_preRow]; exact lifted os started H enc F)
theorem plain (f : FuncId) (fn : Func) (hf : Tryz.pinned.checked.prog.funcNamed Rows.keysFollowsRow.func = some f) (hfn : Tryz.pinned.checked.prog.funcs[f]? = some fn) :
    true = Tryz.pinned.checked.prog.looks [] ∧ ∀ (j : Nat) t, fn.params[j]? = some t → Tryz.pinned.checked.prog.wantsStandIn t = false := by
  obtain rfl : f = 6 := Option.some.inj ((show Tryz.prog.funcNamed Rows.keysFollowsRow.func = some 6 by kernel_rfl).symm.trans hf) |>.symm
  obtain rfl : fn = Tryz.f6 := (Option.some.inj (Tryz.func6.symm.trans hfn)).symm
  refine ⟨by kernel_rfl, fun j t ht => ?_⟩
  have hall : (Tryz.f6.params.toList.all fun t => Tryz.prog.wantsStandIn t == false) = true := by kernel_rfl
  exact eq_of_beq (List.all_eq_true.1 hall t (by simpa using Array.mem_of_getElem? ht))
theorem card : Rows.KeysFollowsCardSaid :=
  Claim7.holds_tied_plain_at .later [] _ _ _ _ said (fun _ h => by cases h) (by kernel_rfl) (fun _ h => by cases h) keysFollows_row_tie rfl ⟨rfl, rfl⟩ (by kernel_rfl) rfl plain (by kernel_rfl)
end Go.Proofs.YtabkoicelflhcaaGreatDoor.RwFollows
#print axioms Go.Proofs.YtabkoicelflhcaaGreatDoor.RwFollows.card
