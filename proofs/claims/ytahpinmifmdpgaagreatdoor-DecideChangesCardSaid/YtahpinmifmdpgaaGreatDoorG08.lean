import Derived.Test.YtahpinmifmdpgaaGreatDoorG05
import Derived.Test.YtahpinmifmdpgaaGreatDoorG07
set_option linter.unusedVariables false
set_option linter.unusedSimpArgs false
set_option linter.unnecessarySimpa false
set_option linter.unusedSimpArgs false
set_option linter.unusedVariables false
set_option maxRecDepth 10000
namespace Go.Proofs
open Go Go.Id

theorem h45t : (((45 : UInt8).toNat : Int) == 45) = true := by decide
theorem gt0 (n : Nat) : decide (((n + 1 : Nat) : Int) > 0) = true := decide_eq_true (by omega)
theorem le1 (n : Nat) : (1 ≤ n + 1) = True := eq_true (by omega)
theorem gt0s {s : List UInt8} (h : 0 < s.length) : decide ((s.length : Int) > 0) = true := decide_eq_true (by omega)
theorem rdN_pos (s : List UInt8) (h : 0 < s.length) (hc : ¬ s[0] = 45) : rdN s = if decOk s true then (if decV s < 9223372036854775808 then ((decV s : Int), 0) else (0, 27)) else (0, 4) := by
 match s, h, hc with
 | c :: t, _, hc => simp only [rdN]; rw [if_neg (by simpa using hc)]
theorem dd_step (s : List UInt8) (k : Nat) (h0 : 1 ≤ k) (h : k < s.length) : ddB (s.drop (k - 1)) = ((((s[k].toNat : Int) == 46) && ((s[k - 1].toNat : Int) == 46)) || ddB (s.drop k)) := by
 have e : ∀ c : UInt8, ((c.toNat : Int) == 46) = (c == 46) := by
  intro c
  rw [Bool.eq_iff_iff]
  simp only [beq_iff_eq]
  exact ⟨fun e => UInt8.toNat_inj.1 (by show c.toNat = 46; omega), fun e => by rw [e]; rfl⟩
 rw [e, e]
 have h1 : s.drop (k - 1) = s[k - 1] :: s.drop k := by
  have := List.drop_eq_getElem_cons (l := s) (i := k - 1) (by omega)
  rw [this]; congr 2; omega
 rw [h1, ddB, List.drop_eq_getElem_cons h]
 simp only [List.head?_cons]
 have : (some s[k] == some (46 : UInt8)) = (s[k] == 46) := by
  rw [Bool.eq_iff_iff]; simp
 rw [this, Bool.and_comm]
theorem dd_end (s : List UInt8) (k : Nat) (h : s.length ≤ k) (h1 : 1 ≤ k) (h2 : k ≤ s.length) : ddB (s.drop (k - 1)) = false := by
 have hk : k = s.length := by omega
 subst hk
 have h3 : s.drop (s.length - 1) = [s[s.length - 1]] := by
  rw [List.drop_eq_getElem_cons (by omega)]
  congr 1
  exact List.drop_eq_nil_of_le (by omega)
 rw [h3]; simp [ddB]
theorem wrapM {k : Nat} (h : 1 ≤ k) (hn : k ≤ 140737488355328) : IntKind.wrap .i64 ((k : Int) - 1) = ((k - 1 : Nat) : Int) := by
 rw [wrap_i64 (by omega) (by omega)]; omega

theorem c_r_readint_nil : CallP Pr 101 [.str []] (rdD []) := by
 have h00 : decide (((0 : Nat) : Int) > 0) = false := by decide
 refine CallP.of_wp Tryz.func101 rfl (by kernel_rfl) Tryz.ntmps101 (by simp) ?_
 simp only [frameOf, Nat.reduceAdd, Nat.zero_add]
 refine WP.sr [0] (by kernel_rfl) fun K hK => ?_
 simp (decide := true) only [TF, h00, ↓reduceIte, Int.reduceToNat]
 refine hK _ _ ?_; clear hK K
 refine WP.sr [0, 4] (by kernel_rfl) fun K hK => ?_
 simp (decide := true) only [TF, h00, ↓reduceIte, Int.reduceToNat]
 refine hK _ _ ?_; clear hK K
 refine WP.sr [0, 4, 5] (by kernel_rfl) fun K hK => ?_
 simp (decide := true) only [TF, h00, ↓reduceIte, Int.reduceToNat]
 refine hK _ _ ?_; clear hK K
 refine WP.sr [0, 4, 5, 6] (by kernel_rfl) fun K hK => ?_
 simp (decide := true) only [TF, h00, ↓reduceIte, Int.reduceToNat]
 refine hK _ _ ?_; clear hK K
 refine WP.seq ?_
 refine WP.sr [0, 4, 5, 6, 19] (by kernel_rfl) fun K hK => ?_
 simp (decide := true) only [TF, h00, ↓reduceIte, Int.reduceToNat]
 refine hK _ _ ?_; clear hK K
 refine WP.cond (b := false) (by rfl) nofun (fun _ => ?_)
 refine WP.skip ?_
 show WP _ _ _ _ _ _
 refine WP.seq ?_
 refine WP.sr [4, 5, 6, 26] (by kernel_rfl) fun K hK => ?_
 simp (decide := true) only [TF, h00, ↓reduceIte, Int.reduceToNat]
 refine CallK.pure (c_r_decimal [] true (by simp)) rfl rfl (by simp [-List.map_take]) ?_
 simp (decide := true) only [TF, h00, ↓reduceIte, Int.reduceToNat]
 refine hK _ _ ?_; clear hK K
 refine WP.cond (b := _) rfl (fun q1 => ?_) (fun q1 => ?_)
 ·
  simp only [Bool.not_eq_true', Bool.not_eq_false'] at q1
  refine WP.sr [2, 3] (by kernel_rfl) fun K hK => ?_
  simp (decide := true) only [TF, h00, q1, ↓reduceIte, Int.reduceToNat]
  refine hK _ _ ?_; clear hK K
  refine WP.ret ?_
  exact Ends.pure (d := .tup [_, _]) (.inr rfl) rfl (Le.of_eq (by simp (decide := true) only [St.get, lk, W, rdD, rdN, h00, q1, ↓reduceIte])) (by simp)
 ·
  simp only [Bool.not_eq_true', Bool.not_eq_false'] at q1
  exact absurd q1 (by decide)
theorem c_r_readint_neg (t : List UInt8) (hs : t.length < 1099511627776) : CallP Pr 101 [.str (45 :: t)] (rdD (45 :: t)) := by
 have hL : t.length ≤ 140737488355328 := by omega
 refine CallP.of_wp Tryz.func101 rfl (by kernel_rfl) Tryz.ntmps101 (by simp) ?_
 simp only [frameOf, Nat.reduceAdd, Nat.zero_add]
 refine WP.sr [0] (by kernel_rfl) fun K hK => ?_
 simp (decide := true) only [TF, List.take_length, h45t, gt0, le1, ↓reduceIte, Int.reduceToNat]
 refine hK _ _ ?_; clear hK K
 refine WP.sr [0, 4] (by kernel_rfl) fun K hK => ?_
 simp (decide := true) only [TF, List.take_length, h45t, gt0, le1, ↓reduceIte, Int.reduceToNat]
 refine hK _ _ ?_; clear hK K
 refine WP.sr [0, 4, 5] (by kernel_rfl) fun K hK => ?_
 simp (decide := true) only [TF, List.take_length, h45t, gt0, le1, ↓reduceIte, Int.reduceToNat]
 refine hK _ _ ?_; clear hK K
 refine WP.sr [0, 4, 5, 6] (by kernel_rfl) fun K hK => ?_
 simp (decide := true) only [TF, List.take_length, h45t, gt0, le1, ↓reduceIte, Int.reduceToNat]
 refine hK _ _ ?_; clear hK K
 refine WP.seq ?_
 refine WP.sr [0, 4, 5, 6, 19] (by kernel_rfl) fun K hK => ?_
 simp (decide := true) only [TF, List.take_length, h45t, gt0, le1, ↓reduceIte, Int.reduceToNat]
 refine hK _ _ ?_; clear hK K
 refine WP.cond (b := true) (by rfl) (fun _ => ?_) nofun
 refine WP.region (by kernel_rfl) fun K hK => ?_
 simp (decide := true) only [TF, List.take_length, h45t, gt0, le1, ↓reduceIte, Int.reduceToNat]
 refine hK _ _ ?_; clear hK K
 show WP _ _ _ _ _ _
 refine WP.seq ?_
 refine WP.sr [4, 5, 6, 26] (by kernel_rfl) fun K hK => ?_
 simp (decide := true) only [TF, List.take_length, h45t, gt0, le1, ↓reduceIte, Int.reduceToNat]
 refine CallK.pure (c_r_decimal (t) false (by omega)) rfl rfl (by simp [-List.map_take]) ?_
 simp (decide := true) only [TF, List.take_length, h45t, gt0, le1, ↓reduceIte, Int.reduceToNat]
 refine hK _ _ ?_; clear hK K
 refine WP.cond (b := _) rfl (fun q1 => ?_) (fun q1 => ?_)
 ·
  simp only [Bool.not_eq_true', Bool.not_eq_false'] at q1
  have hok : decOk t false = false := by simpa using q1
  refine WP.sr [2, 3] (by kernel_rfl) fun K hK => ?_
  simp (decide := true) only [TF, q1, List.take_length, h45t, gt0, le1, ↓reduceIte, Int.reduceToNat]
  refine hK _ _ ?_; clear hK K
  refine WP.ret ?_
  exact Ends.pure (d := .tup [_, _]) (.inr rfl) rfl (Le.of_eq (by simp [St.get, lk, W, bne, rdD, rdN, hok])) (by simp)
 ·
  simp only [Bool.not_eq_true', Bool.not_eq_false'] at q1
  have hok : decOk t false = true := by simpa using q1
  have hall := decOk_all hok
  refine WP.skip ?_
  show WP _ _ _ _ _ _
  refine WP.sr [4, 5, 6, 7] (by kernel_rfl) fun K hK => ?_
  simp (decide := true) only [TF, q1, List.take_length, h45t, gt0, le1, ↓reduceIte, Int.reduceToNat]
  refine hK _ _ ?_; clear hK K
  refine WP.seq ?_
  refine WP.sr [4, 5, 6, 7, 8] (by kernel_rfl) fun K hK => ?_
  simp (decide := true) only [TF, q1, List.take_length, h45t, gt0, le1, ↓reduceIte, Int.reduceToNat]
  refine hK _ _ ?_; clear hK K
  refine WP.block ?_
  refine WP.lp [4, 5, 6] (X := {k : Nat // k ≤ t.length ∧ decV (t.take k) ≤ 9223372036854775808}) (fun x => match x with | ⟨(k), _⟩ => [(7, .int .i64 (-(decV (t.take k) : Int))), (8, .int .i64 k)]) (fun x => match x with | ⟨(k), _⟩ => []) (fun x => match x with | ⟨(k), _⟩ => t.length - k) (by simp (decide := true) only [W, ↓reduceIte, Int.reduceToNat]; rfl) ?_ ⟨(0), ⟨Nat.zero_le _, by simp [decV]⟩⟩ ?_
  rotate_left
  · exact Weak.nil (by simp [St.get, lk, W, Le.refl, decV, q1]) (by simp)
  rintro ⟨k, hk, hI⟩
  dsimp only
  simp only [List.cons_append, List.nil_append]
  refine WP.seq ?_
  refine WP.sr [4, 5, 6, 7, 8, 30] (by kernel_rfl) fun K hK => ?_
  simp (decide := true) only [TF, q1, List.take_length, h45t, gt0, le1, ↓reduceIte, Int.reduceToNat]
  refine hK _ _ ?_; clear hK K
  refine WP.cond (b := _) rfl (fun q2 => ?_) (fun q2 => ?_)
  ·
   have hlt := lt_of_q q2
   have hg := getE hlt
   have hdg := all_at hall hlt
   have hdc := dig_conv _ hdg
   have hd9 := dig_le _ hdg
   have hcm := rd_cmp (decV (t.take k)) _ hI hd9
   have htk := decV_take t k hlt
   have hle := decV_le t (k + 1)
   refine WP.skip ?_
   show WP _ _ _ _ _ _
   refine WP.seq ?_
   refine WP.block ?_
   refine WP.sr [4, 5, 6, 7, 8, 9] (by kernel_rfl) fun K hK => ?_
   simp (decide := true) only [TF, q1, q2, hg, hdc, hcm, List.take_length, h45t, gt0, le1, ↓reduceIte, Int.reduceToNat]
   refine hK _ _ ?_; clear hK K
   refine WP.seq ?_
   refine WP.sr [4, 5, 6, 7, 8, 9, 43] (by kernel_rfl) fun K hK => ?_
   simp (decide := true) only [TF, q1, q2, hg, hdc, hcm, List.take_length, h45t, gt0, le1, ↓reduceIte, Int.reduceToNat]
   refine hK _ _ ?_; clear hK K
   refine WP.cond (b := _) rfl (fun q3 => ?_) (fun q3 => ?_)
   ·
    have hov : 9223372036854775808 < decV (t.take k) * 10 + (t[k].toNat - 48) := of_decide_eq_true q3
    have hbig : ¬ decV (t) ≤ 9223372036854775808 := by omega
    refine WP.sr [2, 3] (by kernel_rfl) fun K hK => ?_
    simp (decide := true) only [TF, q1, q2, hg, hdc, hcm, q3, List.take_length, h45t, gt0, le1, ↓reduceIte, Int.reduceToNat]
    refine hK _ _ ?_; clear hK K
    refine WP.ret ?_
    exact Ends.pure (d := .tup [_, _]) (.inr rfl) rfl (Le.of_eq (by simp [St.get, lk, W, bne, rdD, rdN, hok, hbig, q1, q2, hg, hdc, hcm, q3])) (by simp)
   ·
    have hov := of_decide_eq_false q3
    have hst := rd_step (decV (t.take k)) _ hd9 (by omega)
    refine WP.skip ?_
    show WP _ _ _ _ _ _
    refine WP.region (by kernel_rfl) fun K hK => ?_
    simp (decide := true) only [TF, q1, q2, hg, hdc, hcm, q3, hst, List.take_length, h45t, gt0, le1, ↓reduceIte, Int.reduceToNat]
    refine hK _ _ ?_; clear hK K
    show WP _ _ _ _ _ _
    refine WP.region (by kernel_rfl) fun K hK => ?_
    simp (decide := true) only [TF, q1, q2, hg, hdc, hcm, q3, hst, List.take_length, h45t, gt0, le1, ↓reduceIte, Int.reduceToNat]
    refine hK _ _ ?_; clear hK K
    show ∃ y, _ ∧ Weak _ _ _
    refine ⟨⟨k + 1, ?_⟩, ?_, Weak.nil ?_ ?_⟩
    · exact ⟨by omega, by omega⟩
    · dsimp only; omega
    · simp [St.get, lk, W, Le.refl, htk, hst, wrapS hlt hL]
    · simp [W]
  ·
   have hge := ge_of_q q2
   obtain rfl : k = t.length := by omega
   rw [List.take_length] at hI
   refine WP.exit ?_
   show WP _ _ _ _ _ _
   refine WP.seq ?_
   refine WP.sr [4, 7, 48] (by kernel_rfl) fun K hK => ?_
   simp (decide := true) only [TF, q1, q2, List.take_length, h45t, gt0, le1, ↓reduceIte, Int.reduceToNat]
   refine hK _ _ ?_; clear hK K
   refine WP.cond (b := true) (by rfl) (fun _ => ?_) nofun
   refine WP.sr [2, 3] (by kernel_rfl) fun K hK => ?_
   simp (decide := true) only [TF, q1, q2, List.take_length, h45t, gt0, le1, ↓reduceIte, Int.reduceToNat]
   refine hK _ _ ?_; clear hK K
   refine WP.ret ?_
   exact Ends.pure (d := .tup [_, _]) (.inr rfl) rfl (Le.of_eq (by simp [St.get, lk, W, bne, rdD, rdN, hok, hI])) (by simp)
theorem c_r_readint_pos (s : List UInt8) (hs : s.length ≤ 1099511627776) (hne : 0 < s.length) (hc : ¬ s[0] = 45) : CallP Pr 101 [.str (s)] (rdD (s)) := by
 have hL : s.length ≤ 140737488355328 := by omega
 have hn45 := ne45 hc
 have e0 := getE hne
 have gt0 := gt0s hne
 have hrn := rdN_pos s hne hc
 refine CallP.of_wp Tryz.func101 rfl (by kernel_rfl) Tryz.ntmps101 (by simp) ?_
 simp only [frameOf, Nat.reduceAdd, Nat.zero_add]
 refine WP.sr [0] (by kernel_rfl) fun K hK => ?_
 simp (decide := true) only [TF, hn45, e0, gt0, List.take_length, h45t, le1, ↓reduceIte, Int.reduceToNat]
 refine hK _ _ ?_; clear hK K
 refine WP.sr [0, 4] (by kernel_rfl) fun K hK => ?_
 simp (decide := true) only [TF, hn45, e0, gt0, List.take_length, h45t, le1, ↓reduceIte, Int.reduceToNat]
 refine hK _ _ ?_; clear hK K
 refine WP.sr [0, 4, 5] (by kernel_rfl) fun K hK => ?_
 simp (decide := true) only [TF, hn45, e0, gt0, List.take_length, h45t, le1, ↓reduceIte, Int.reduceToNat]
 refine hK _ _ ?_; clear hK K
 refine WP.sr [0, 4, 5, 6] (by kernel_rfl) fun K hK => ?_
 simp (decide := true) only [TF, hn45, e0, gt0, List.take_length, h45t, le1, ↓reduceIte, Int.reduceToNat]
 refine hK _ _ ?_; clear hK K
 refine WP.seq ?_
 refine WP.sr [0, 4, 5, 6, 19] (by kernel_rfl) fun K hK => ?_
 simp (decide := true) only [TF, hn45, e0, gt0, List.take_length, h45t, le1, ↓reduceIte, Int.reduceToNat]
 refine hK _ _ ?_; clear hK K
 refine WP.cond (b := false) (by rfl) nofun (fun _ => ?_)
 refine WP.skip ?_
 show WP _ _ _ _ _ _
 refine WP.seq ?_
 refine WP.sr [4, 5, 6, 26] (by kernel_rfl) fun K hK => ?_
 simp (decide := true) only [TF, hn45, e0, gt0, List.take_length, h45t, le1, ↓reduceIte, Int.reduceToNat]
 refine CallK.pure (c_r_decimal (s) true (by omega)) rfl rfl (by simp [-List.map_take]) ?_
 simp (decide := true) only [TF, hn45, e0, gt0, List.take_length, h45t, le1, ↓reduceIte, Int.reduceToNat]
 refine hK _ _ ?_; clear hK K
 refine WP.cond (b := _) rfl (fun q1 => ?_) (fun q1 => ?_)
 ·
  simp only [Bool.not_eq_true', Bool.not_eq_false'] at q1
  have hok : decOk s true = false := by simpa using q1
  refine WP.sr [2, 3] (by kernel_rfl) fun K hK => ?_
  simp (decide := true) only [TF, hn45, e0, gt0, q1, List.take_length, h45t, le1, ↓reduceIte, Int.reduceToNat]
  refine hK _ _ ?_; clear hK K
  refine WP.ret ?_
  exact Ends.pure (d := .tup [_, _]) (.inr rfl) rfl (Le.of_eq (by simp [St.get, lk, W, bne, rdD, hrn, hok])) (by simp)
 ·
  simp only [Bool.not_eq_true', Bool.not_eq_false'] at q1
  have hok : decOk s true = true := by simpa using q1
  have hall := decOk_all hok
  refine WP.skip ?_
  show WP _ _ _ _ _ _
  refine WP.sr [4, 5, 6, 7] (by kernel_rfl) fun K hK => ?_
  simp (decide := true) only [TF, hn45, e0, gt0, q1, List.take_length, h45t, le1, ↓reduceIte, Int.reduceToNat]
  refine hK _ _ ?_; clear hK K
  refine WP.seq ?_
  refine WP.sr [4, 5, 6, 7, 8] (by kernel_rfl) fun K hK => ?_
  simp (decide := true) only [TF, hn45, e0, gt0, q1, List.take_length, h45t, le1, ↓reduceIte, Int.reduceToNat]
  refine hK _ _ ?_; clear hK K
  refine WP.block ?_
  refine WP.lp [4, 5, 6] (X := {k : Nat // k ≤ s.length ∧ decV (s.take k) ≤ 9223372036854775808}) (fun x => match x with | ⟨(k), _⟩ => [(7, .int .i64 (-(decV (s.take k) : Int))), (8, .int .i64 k)]) (fun x => match x with | ⟨(k), _⟩ => []) (fun x => match x with | ⟨(k), _⟩ => s.length - k) (by simp (decide := true) only [W, ↓reduceIte, Int.reduceToNat]; rfl) ?_ ⟨(0), ⟨Nat.zero_le _, by simp [decV]⟩⟩ ?_
  rotate_left
  · exact Weak.nil (by simp [St.get, lk, W, Le.refl, decV, hn45, e0, gt0, q1]) (by simp)
  rintro ⟨k, hk, hI⟩
  dsimp only
  simp only [List.cons_append, List.nil_append]
  refine WP.seq ?_
  refine WP.sr [4, 5, 6, 7, 8, 30] (by kernel_rfl) fun K hK => ?_
  simp (decide := true) only [TF, hn45, e0, gt0, q1, List.take_length, h45t, le1, ↓reduceIte, Int.reduceToNat]
  refine hK _ _ ?_; clear hK K
  refine WP.cond (b := _) rfl (fun q2 => ?_) (fun q2 => ?_)
  ·
   have hlt := lt_of_q q2
   have hg := getE hlt
   have hdg := all_at hall hlt
   have hdc := dig_conv _ hdg
   have hd9 := dig_le _ hdg
   have hcm := rd_cmp (decV (s.take k)) _ hI hd9
   have htk := decV_take s k hlt
   have hle := decV_le s (k + 1)
   refine WP.skip ?_
   show WP _ _ _ _ _ _
   refine WP.seq ?_
   refine WP.block ?_
   refine WP.sr [4, 5, 6, 7, 8, 9] (by kernel_rfl) fun K hK => ?_
   simp (decide := true) only [TF, hn45, e0, gt0, q1, q2, hg, hdc, hcm, List.take_length, h45t, le1, ↓reduceIte, Int.reduceToNat]
   refine hK _ _ ?_; clear hK K
   refine WP.seq ?_
   refine WP.sr [4, 5, 6, 7, 8, 9, 43] (by kernel_rfl) fun K hK => ?_
   simp (decide := true) only [TF, hn45, e0, gt0, q1, q2, hg, hdc, hcm, List.take_length, h45t, le1, ↓reduceIte, Int.reduceToNat]
   refine hK _ _ ?_; clear hK K
   refine WP.cond (b := _) rfl (fun q3 => ?_) (fun q3 => ?_)
   ·
    have hov : 9223372036854775808 < decV (s.take k) * 10 + (s[k].toNat - 48) := of_decide_eq_true q3
    have hbig : ¬ decV (s) < 9223372036854775808 := by omega
    refine WP.sr [2, 3] (by kernel_rfl) fun K hK => ?_
    simp (decide := true) only [TF, hn45, e0, gt0, q1, q2, hg, hdc, hcm, q3, List.take_length, h45t, le1, ↓reduceIte, Int.reduceToNat]
    refine hK _ _ ?_; clear hK K
    refine WP.ret ?_
    exact Ends.pure (d := .tup [_, _]) (.inr rfl) rfl (Le.of_eq (by simp [St.get, lk, W, bne, rdD, hrn, hok, hbig, hn45, e0, gt0, q1, q2, hg, hdc, hcm, q3])) (by simp)
   ·
    have hov := of_decide_eq_false q3
    have hst := rd_step (decV (s.take k)) _ hd9 (by omega)
    refine WP.skip ?_
    show WP _ _ _ _ _ _
    refine WP.region (by kernel_rfl) fun K hK => ?_
    simp (decide := true) only [TF, hn45, e0, gt0, q1, q2, hg, hdc, hcm, q3, hst, List.take_length, h45t, le1, ↓reduceIte, Int.reduceToNat]
    refine hK _ _ ?_; clear hK K
    show WP _ _ _ _ _ _
    refine WP.region (by kernel_rfl) fun K hK => ?_
    simp (decide := true) only [TF, hn45, e0, gt0, q1, q2, hg, hdc, hcm, q3, hst, List.take_length, h45t, le1, ↓reduceIte, Int.reduceToNat]
    refine hK _ _ ?_; clear hK K
    show ∃ y, _ ∧ Weak _ _ _
    refine ⟨⟨k + 1, ?_⟩, ?_, Weak.nil ?_ ?_⟩
    · exact ⟨by omega, by omega⟩
    · dsimp only; omega
    · simp [St.get, lk, W, Le.refl, htk, hst, wrapS hlt hL]
    · simp [W]
  ·
   have hge := ge_of_q q2
   obtain rfl : k = s.length := by omega
   rw [List.take_length] at hI
   refine WP.exit ?_
   show WP _ _ _ _ _ _
   refine WP.seq ?_
   refine WP.sr [4, 7, 48] (by kernel_rfl) fun K hK => ?_
   simp (decide := true) only [TF, hn45, e0, gt0, q1, q2, List.take_length, h45t, le1, ↓reduceIte, Int.reduceToNat]
   refine hK _ _ ?_; clear hK K
   refine WP.cond (b := false) (by rfl) nofun (fun _ => ?_)
   refine WP.skip ?_
   show WP _ _ _ _ _ _
   refine WP.seq ?_
   refine WP.sr [7, 52] (by kernel_rfl) fun K hK => ?_
   simp (decide := true) only [TF, hn45, e0, gt0, q1, q2, List.take_length, h45t, le1, ↓reduceIte, Int.reduceToNat]
   refine hK _ _ ?_; clear hK K
   refine WP.cond (b := _) rfl (fun q4 => ?_) (fun q4 => ?_)
   ·
    have he : ¬ decV (s) < 9223372036854775808 := by simp at q4; omega
    refine WP.sr [2, 3] (by kernel_rfl) fun K hK => ?_
    simp (decide := true) only [TF, hn45, e0, gt0, q1, q2, q4, List.take_length, h45t, le1, ↓reduceIte, Int.reduceToNat]
    refine hK _ _ ?_; clear hK K
    refine WP.ret ?_
    exact Ends.pure (d := .tup [_, _]) (.inr rfl) rfl (Le.of_eq (by first | (simp [St.get, lk, W, bne, rdD, hrn, hok, hbig, hn45, e0, gt0, q1, q2, q4]; done) | (simp [St.get, lk, W, bne, rdD, hrn, hok, hI]; done) | (simp [St.get, lk, W, bne, rdD, hrn, hok, he, hng]; done) | (simp [St.get, lk, W, bne, rdD, hrn, hok]; done) | (simp_all [rdD, rdN, St.get, lk, W]; try omega; done))) (by simp)
   ·
    have he : decV (s) < 9223372036854775808 := by simp at q4; omega
    have hng := rd_neg _ he
    refine WP.skip ?_
    show WP _ _ _ _ _ _
    refine WP.sr [2, 3] (by kernel_rfl) fun K hK => ?_
    simp (decide := true) only [TF, hn45, e0, gt0, q1, q2, q4, hng, List.take_length, h45t, le1, ↓reduceIte, Int.reduceToNat]
    refine hK _ _ ?_; clear hK K
    refine WP.ret ?_
    exact Ends.pure (d := .tup [_, _]) (.inr rfl) rfl (Le.of_eq (by simp [St.get, lk, W, bne, rdD, hrn, hok, he, hng])) (by simp)
theorem c_r_readint (s : List UInt8) (hs : s.length ≤ 1099511627776) : CallP Pr 101 [.str s] (rdD s) := by
 match s, hs with
 | [], _ => exact c_r_readint_nil
 | c :: t, hs =>
  by_cases h : c = 45
  · subst h; exact c_r_readint_neg t (by simp at hs; omega)
  · exact c_r_readint_pos (c :: t) hs (by simp) (by simpa using h)
theorem c_r_valid (s : List UInt8) (hs : s.length ≤ 140737488355328) : CallP Pr 67 [.str s] (.bool (validB s)) := by
 refine CallP.of_wp Tryz.func67 rfl (by kernel_rfl) Tryz.ntmps67 (by simp) ?_
 simp only [frameOf, Nat.reduceAdd, Nat.zero_add]
 refine WP.sr [0] (by kernel_rfl) fun K hK => ?_
 simp (decide := true) only [TF, ↓reduceIte, Int.reduceToNat]
 refine hK _ _ ?_; clear hK K
 refine WP.seq ?_
 refine WP.sr [0, 19] (by kernel_rfl) fun K hK => ?_
 simp (decide := true) only [TF, ↓reduceIte, Int.reduceToNat]
 refine CallK.pure (c_r_word _ (by assumption)) rfl rfl (by simp [-List.map_take]) ?_
 refine runOps.take 2 fun J hJ => ?_
 simp (decide := true) only [TF, ↓reduceIte, Int.reduceToNat]
 refine hJ _ _ ?_; clear hJ J
 refine runOps.part 7 rfl (fun q1 => ?_) (fun q1 => ?_)
 ·
  simp only [Bool.not_eq_true', Bool.not_eq_false'] at q1
  simp (decide := true) only [TF, q1, ↓reduceIte, Int.reduceToNat]
  refine hK _ _ ?_; clear hK K
  refine WP.cond (b := true) (by rfl) (fun _ => ?_) nofun
  refine WP.sr [2] (by kernel_rfl) fun K hK => ?_
  simp (decide := true) only [TF, q1, ↓reduceIte, Int.reduceToNat]
  refine hK _ _ ?_; clear hK K
  refine WP.ret ?_
  exact Ends.pure (.inr rfl) rfl (Le.of_eq (by simp (decide := true) only [St.get, lk, W, validB, q1, ↓reduceIte])) (by simp)
 ·
  simp only [Bool.not_eq_true', Bool.not_eq_false'] at q1
  have hne := word_pos q1
  have e0 := getE hne
  have e0c := chAt_of hne
  refine runOps.take 5 fun J hJ => ?_
  simp (decide := true) only [TF, q1, e0, e0c, ↓reduceIte, Int.reduceToNat]
  refine hJ _ _ ?_; clear hJ J
  refine runOps.part 12 rfl (fun q2 => ?_) (fun q2 => ?_)
  ·
   simp (decide := true) only [TF, q1, e0, e0c, q2, ↓reduceIte, Int.reduceToNat]
   refine hK _ _ ?_; clear hK K
   refine WP.cond (b := true) (by rfl) (fun _ => ?_) nofun
   refine WP.sr [2] (by kernel_rfl) fun K hK => ?_
   simp (decide := true) only [TF, q1, e0, e0c, q2, ↓reduceIte, Int.reduceToNat]
   refine hK _ _ ?_; clear hK K
   refine WP.ret ?_
   exact Ends.pure (.inr rfl) rfl (Le.of_eq (by simp (decide := true) only [St.get, lk, W, validB, q1, e0, e0c, q2, ↓reduceIte])) (by simp)
  ·
   have hw := wrapP hne hs
   have hl := getE (show s.length - 1 < s.length by omega)
   have hlc := chAt_of (show s.length - 1 < s.length by omega)
   simp (decide := true) only [TF, q1, e0, e0c, q2, hw, hl, hlc, ↓reduceIte, Int.reduceToNat]
   refine hK _ _ ?_; clear hK K
   refine WP.cond (b := _) rfl (fun q3 => ?_) (fun q3 => ?_)
   ·
    refine WP.sr [2] (by kernel_rfl) fun K hK => ?_
    simp (decide := true) only [TF, q1, e0, e0c, q2, hw, hl, hlc, q3, ↓reduceIte, Int.reduceToNat]
    refine hK _ _ ?_; clear hK K
    refine WP.ret ?_
    exact Ends.pure (.inr rfl) rfl (Le.of_eq (by simp (decide := true) only [St.get, lk, W, validB, q1, e0, e0c, q2, hw, hl, hlc, q3, ↓reduceIte])) (by simp)
   ·
    refine WP.skip ?_
    show WP _ _ _ _ _ _
    refine WP.seq ?_
    refine WP.sr [0, 3] (by kernel_rfl) fun K hK => ?_
    simp (decide := true) only [TF, q1, e0, e0c, q2, hw, hl, hlc, q3, ↓reduceIte, Int.reduceToNat]
    refine hK _ _ ?_; clear hK K
    refine WP.block ?_
    refine WP.lp [0] (X := {k : Nat // 1 ≤ k ∧ k ≤ s.length ∧ validB s = !(ddB (s.drop (k - 1)))}) (fun x => match x with | ⟨(k), _⟩ => [(3, .int .i64 k)]) (fun x => match x with | ⟨(k), _⟩ => []) (fun x => match x with | ⟨(k), _⟩ => s.length - k) (by simp (decide := true) only [W, ↓reduceIte, Int.reduceToNat]; rfl) ?_ ⟨(1), ⟨Nat.le_refl _, hne, by simp [validB, q1, e0, e0c, q2, hw, hl, hlc, q3]⟩⟩ ?_
    rotate_left
    · exact Weak.nil (by simp [St.get, lk, W, Le.refl, q1, e0, e0c, q2, hw, hl, hlc, q3]) (by simp [W])
    rintro ⟨k, hk1, hk, hI⟩
    dsimp only
    simp only [List.cons_append, List.nil_append]
    refine WP.seq ?_
    refine WP.sr [0, 3, 23] (by kernel_rfl) fun K hK => ?_
    simp (decide := true) only [TF, q1, e0, e0c, q2, hw, hl, hlc, q3, ↓reduceIte, Int.reduceToNat]
    refine hK _ _ ?_; clear hK K
    refine WP.cond (b := _) rfl (fun q4 => ?_) (fun q4 => ?_)
    ·
     have hlt := lt_of_q q4
     have hg := getE hlt
     have hg2 := getE (show k - 1 < s.length by omega)
     have hwm := wrapM hk1 (by omega)
     rw [dd_step s k hk1 hlt] at hI
     refine WP.skip ?_
     show WP _ _ _ _ _ _
     refine WP.seq ?_
     refine WP.block ?_
     refine WP.sr [0, 3, 36] (by kernel_rfl) fun K hK => ?_
     refine runOps.take 5 fun J hJ => ?_
     simp (decide := true) only [TF, q1, e0, e0c, q2, hw, hl, hlc, q3, q4, hg, hg2, hwm, ↓reduceIte, Int.reduceToNat]
     refine hJ _ _ ?_; clear hJ J
     refine runOps.part 30 rfl (fun q5 => ?_) (fun q5 => ?_)
     ·
      simp (decide := true) only [TF, q1, e0, e0c, q2, hw, hl, hlc, q3, q4, hg, hg2, hwm, q5, ↓reduceIte, Int.reduceToNat]
      refine hK _ _ ?_; clear hK K
      refine WP.cond (b := _) rfl (fun q6 => ?_) (fun q6 => ?_)
      ·
       refine WP.sr [2] (by kernel_rfl) fun K hK => ?_
       simp (decide := true) only [TF, q1, e0, e0c, q2, hw, hl, hlc, q3, q4, hg, hg2, hwm, q5, q6, ↓reduceIte, Int.reduceToNat]
       refine hK _ _ ?_; clear hK K
       refine WP.ret ?_
       exact Ends.pure (.inr rfl) rfl (Le.of_eq (by simp_all [St.get, lk, W, LN, bne, validB])) (by simp)
      ·
       refine WP.skip ?_
       show WP _ _ _ _ _ _
       refine WP.region (by kernel_rfl) fun K hK => ?_
       simp (decide := true) only [TF, q1, e0, e0c, q2, hw, hl, hlc, q3, q4, hg, hg2, hwm, q5, q6, ↓reduceIte, Int.reduceToNat]
       refine hK _ _ ?_; clear hK K
       show ∃ y, _ ∧ Weak _ _ _
       refine ⟨⟨k + 1, ?_⟩, ?_, Weak.nil ?_ ?_⟩
       · exact ⟨by omega, by omega, by show validB s = !(ddB (s.drop k)); first | (simpa [q1, e0, e0c, q2, hw, hl, hlc, q3, q4, hg, hg2, hwm, q5, q6] using hI) | (simp_all; done)⟩
       · dsimp only; omega
       · simp [St.get, lk, W, Le.refl, wrapS hlt hs]
       · simp [W]
     ·
      simp (decide := true) only [TF, q1, e0, e0c, q2, hw, hl, hlc, q3, q4, hg, hg2, hwm, q5, ↓reduceIte, Int.reduceToNat]
      refine hK _ _ ?_; clear hK K
      refine WP.cond (b := false) (by rfl) nofun (fun _ => ?_)
      refine WP.skip ?_
      show WP _ _ _ _ _ _
      refine WP.region (by kernel_rfl) fun K hK => ?_
      simp (decide := true) only [TF, q1, e0, e0c, q2, hw, hl, hlc, q3, q4, hg, hg2, hwm, q5, ↓reduceIte, Int.reduceToNat]
      refine hK _ _ ?_; clear hK K
      show ∃ y, _ ∧ Weak _ _ _
      refine ⟨⟨k + 1, ?_⟩, ?_, Weak.nil ?_ ?_⟩
      · exact ⟨by omega, by omega, by show validB s = !(ddB (s.drop k)); first | (simpa [q1, e0, e0c, q2, hw, hl, hlc, q3, q4, hg, hg2, hwm, q5] using hI) | (simp_all; done)⟩
      · dsimp only; omega
      · simp [St.get, lk, W, Le.refl, wrapS hlt hs]
      · simp [W]
    ·
     have hge := ge_of_q q4
     rw [dd_end s k hge hk1 hk] at hI
     refine WP.exit ?_
     show WP _ _ _ _ _ _
     refine WP.sr [2] (by kernel_rfl) fun K hK => ?_
     simp (decide := true) only [TF, q1, e0, e0c, q2, hw, hl, hlc, q3, q4, ↓reduceIte, Int.reduceToNat]
     refine hK _ _ ?_; clear hK K
     refine WP.ret ?_
     exact Ends.pure (.inr rfl) rfl (Le.of_eq (by simp_all [St.get, lk, W, LN, bne, validB])) (by simp)
theorem c_r_sc_check (ls : List (List UInt8)) (nl : Bool) (hn : ls.length ≤ 140737488355328) (hnl : nl = true → ls = []) (hls : ∀ x ∈ ls, x.length ≤ 140737488355328) : CallP Pr 70 [.slice 1 nl (ls.map fun x => [.str x]) none] (.int .i64 (scopeE ls)) := by
 refine CallP.of_wp Tryz.func70 rfl (by kernel_rfl) Tryz.ntmps70 (by simp) ?_
 simp only [frameOf, Nat.reduceAdd, Nat.zero_add]
 refine WP.sr [0] (by kernel_rfl) fun K hK => ?_
 simp (decide := true) only [TF, ↓reduceIte, Int.reduceToNat]
 refine hK _ _ ?_; clear hK K
 refine WP.seq ?_
 refine WP.sr [0, 7] (by kernel_rfl) fun K hK => ?_
 simp (decide := true) only [TF, ↓reduceIte, Int.reduceToNat]
 refine hK _ _ ?_; clear hK K
 refine WP.cond (b := _) rfl (fun q1 => ?_) (fun q1 => ?_)
 ·
  refine WP.sr [2] (by kernel_rfl) fun K hK => ?_
  simp (decide := true) only [TF, q1, ↓reduceIte, Int.reduceToNat]
  refine hK _ _ ?_; clear hK K
  refine WP.ret ?_
  exact Ends.pure (.inr rfl) rfl (Le.of_eq (by simp_all [St.get, lk, W, LN, bne, scopeE])) (by simp)
 ·
  refine WP.skip ?_
  show WP _ _ _ _ _ _
  refine WP.seq ?_
  refine WP.sr [0, 3] (by kernel_rfl) fun K hK => ?_
  simp (decide := true) only [TF, q1, ↓reduceIte, Int.reduceToNat]
  refine hK _ _ ?_; clear hK K
  refine WP.block ?_
  refine WP.lp [0] (X := {k : Nat // k ≤ ls.length ∧ scErr [] ls = scErr (ls.take k) (ls.drop k)}) (fun x => match x with | ⟨(k), _⟩ => [(3, .int .i64 k)]) (fun x => match x with | ⟨(k), _⟩ => []) (fun x => match x with | ⟨(k), _⟩ => ls.length - k) (by simp (decide := true) only [W, ↓reduceIte, Int.reduceToNat]; rfl) ?_ ⟨(0), ⟨Nat.zero_le _, by simp⟩⟩ ?_
  rotate_left
  · exact Weak.nil (by simp [St.get, lk, W, Le.refl, q1]) (by simp [W])
  rintro ⟨k, hk, hI⟩
  dsimp only
  simp only [List.cons_append, List.nil_append]
  refine WP.seq ?_
  refine WP.sr [0, 3, 11] (by kernel_rfl) fun K hK => ?_
  simp (decide := true) only [TF, q1, hk, ↓reduceIte, Int.reduceToNat]
  refine hK _ _ ?_; clear hK K
  refine WP.cond (b := _) rfl (fun q2 => ?_) (fun q2 => ?_)
  ·
   have hlt := lt_of_q q2
   have hg : (ls.map fun x => [D.str x])[k]? = some [.str ls[k]] := getM hlt
   have hnf := nl_false hnl hlt
   rw [dropE hlt] at hI
   simp only [scErr] at hI
   refine WP.skip ?_
   show WP _ _ _ _ _ _
   refine WP.seq ?_
   refine WP.block ?_
   refine WP.seq ?_
   refine WP.sr [0, 3, 19] (by kernel_rfl) fun K hK => ?_
   simp (decide := true) only [TF, q1, hk, q2, hg, hnf, ↓reduceIte, Int.reduceToNat]
   refine CallK.pure (c_r_valid _ (hls _ (List.getElem_mem hlt))) rfl rfl (by simp [-List.map_take]) ?_
   simp (decide := true) only [TF, q1, hk, q2, hg, hnf, ↓reduceIte, Int.reduceToNat]
   refine hK _ _ ?_; clear hK K
   refine WP.cond (b := _) rfl (fun q3 => ?_) (fun q3 => ?_)
   ·
    simp only [Bool.not_eq_true', Bool.not_eq_false'] at q3
    refine WP.sr [2] (by kernel_rfl) fun K hK => ?_
    simp (decide := true) only [TF, q1, hk, q2, hg, hnf, q3, ↓reduceIte, Int.reduceToNat]
    refine hK _ _ ?_; clear hK K
    refine WP.ret ?_
    exact Ends.pure (.inr rfl) rfl (Le.of_eq (by simp_all [St.get, lk, W, LN, bne, scopeE])) (by simp)
   ·
    simp only [Bool.not_eq_true', Bool.not_eq_false'] at q3
    refine WP.skip ?_
    show WP _ _ _ _ _ _
    refine WP.sr [0, 3, 4] (by kernel_rfl) fun K hK => ?_
    simp (decide := true) only [TF, q1, hk, q2, hg, hnf, q3, ↓reduceIte, Int.reduceToNat]
    refine hK _ _ ?_; clear hK K
    refine WP.block ?_
    refine WP.lp [0, 3] (X := {j : Nat // j ≤ k ∧ (ls.take k).contains ls[k] = ((ls.take k).drop j).any (fun x => x == ls[k])}) (fun x => match x with | ⟨(j), _⟩ => [(4, .int .i64 j)]) (fun x => match x with | ⟨(j), _⟩ => []) (fun x => match x with | ⟨(j), _⟩ => k - j) (by simp (decide := true) only [W, ↓reduceIte, Int.reduceToNat]; rfl) ?_ ⟨(0), ⟨Nat.zero_le _, by rw [List.drop_zero, any_eq]⟩⟩ ?_
    rotate_left
    · exact Weak.nil (by simp [St.get, lk, W, Le.refl, q1, hk, q2, hg, hnf, q3]) (by simp [W])
    rintro ⟨j, hj, hJ⟩
    dsimp only
    simp only [List.cons_append, List.nil_append]
    refine WP.seq ?_
    refine WP.sr [0, 3, 4, 22] (by kernel_rfl) fun K hK => ?_
    simp (decide := true) only [TF, q1, hk, q2, hg, hnf, q3, ↓reduceIte, Int.reduceToNat]
    refine hK _ _ ?_; clear hK K
    refine WP.cond (b := _) rfl (fun q4 => ?_) (fun q4 => ?_)
    ·
     have hjl : j < (ls.take k).length := by simp at q4 ⊢; omega
     have hjk : j < k := by simp at hjl; omega
     have hgj : (ls.map fun x => [D.str x])[j]? = some [.str ls[j]] := getM (by omega)
     rw [dropE hjl] at hJ
     simp only [List.any_cons, List.getElem_take] at hJ
     refine WP.skip ?_
     show WP _ _ _ _ _ _
     refine WP.seq ?_
     refine WP.block ?_
     refine WP.sd [0, 3, 4, 33] (by kernel_rfl) (by kernel_rfl) fun K hK => ?_
     simp (decide := true) only [TF, q1, hk, q2, hg, hnf, q3, q4, hgj, ↓reduceIte, Int.reduceToNat]
     refine hK _ _ (by kernel_rfl) ?_
     clear hK K
     refine WP.cond (b := _) rfl (fun q5 => ?_) (fun q5 => ?_)
     ·
      have hcon : (ls.take k).contains ls[k] = true := by simp_all
      refine WP.sr [2] (by kernel_rfl) fun K hK => ?_
      simp (decide := true) only [TF, q1, hk, q2, hg, hnf, q3, q4, hgj, q5, ↓reduceIte, Int.reduceToNat]
      refine hK _ _ ?_; clear hK K
      refine WP.ret ?_
      exact Ends.pure (.inr rfl) rfl (Le.of_eq (by simp_all [St.get, lk, W, LN, bne, scopeE])) (by simp)
     ·
      refine WP.skip ?_
      show WP _ _ _ _ _ _
      refine WP.region (by kernel_rfl) fun K hK => ?_
      simp (decide := true) only [TF, q1, hk, q2, hg, hnf, q3, q4, hgj, q5, ↓reduceIte, Int.reduceToNat]
      refine hK _ _ ?_; clear hK K
      show ∃ y, _ ∧ Weak _ _ _
      refine ⟨⟨j + 1, ?_⟩, ?_, Weak.nil ?_ ?_⟩
      · exact ⟨by omega, by first | (simpa [q1, hk, q2, hg, hnf, q3, q4, hgj, q5] using hJ) | (simp_all; done)⟩
      · dsimp only; omega
      · simp [St.get, lk, W, Le.refl, q1, hk, q2, hg, hnf, q3, q4, hgj, q5, wrapS hjk (show k ≤ 140737488355328 by omega)]
      · simp [W]
    ·
     have hjg : (ls.take k).length ≤ j := by simp at q4 ⊢; omega
     rw [dropN hjg] at hJ
     simp only [List.any_nil] at hJ
     refine WP.exit ?_
     show WP _ _ _ _ _ _
     refine WP.region (by kernel_rfl) fun K hK => ?_
     simp (decide := true) only [TF, q1, hk, q2, hg, hnf, q3, q4, ↓reduceIte, Int.reduceToNat]
     refine hK _ _ ?_; clear hK K
     show ∃ y, _ ∧ Weak _ _ _
     refine ⟨⟨k + 1, ?_⟩, ?_, Weak.nil ?_ ?_⟩
     · exact ⟨by omega, by first | (simpa [q1, hk, q2, hg, hnf, q3, q4] using hI) | (simp_all; done)⟩
     · dsimp only; omega
     · simp [St.get, lk, W, Le.refl, q1, hk, q2, hg, hnf, q3, q4, wrapS hlt hn]
     · simp [W]
  ·
   have hge := ge_of_q q2
   rw [dropN hge] at hI
   simp only [scErr] at hI
   refine WP.exit ?_
   show WP _ _ _ _ _ _
   refine WP.sr [2] (by kernel_rfl) fun K hK => ?_
   simp (decide := true) only [TF, q1, hk, q2, ↓reduceIte, Int.reduceToNat]
   refine hK _ _ ?_; clear hK K
   refine WP.ret ?_
   exact Ends.pure (.inr rfl) rfl (Le.of_eq (by simp_all [St.get, lk, W, LN, bne, scopeE])) (by simp)
end Go.Proofs

set_option linter.unusedSimpArgs false
set_option linter.unusedVariables false
namespace Go.Proofs
open Go Go.Id
structure Cond where
  f : List UInt8
  op : List UInt8
  v : List UInt8
def Cond.cs (c : Cond) : List D := [.str c.f, .str c.op, .str c.v]
def Cond.ok (c : Cond) : Prop := c.f.length ≤ 1099511627776 ∧ c.op.length ≤ 1099511627776 ∧ c.v.length ≤ 1099511627776
structure Req where
  user : List UInt8
  client : List UInt8
  tenant : List UInt8
  groups : List (List UInt8)
  ng : Bool
  scopes : List (List UInt8)
  ns : Bool
  risk : Int
  trusted : Bool
  level : Int
  auth : Int
  now : Int
def Req.ok (r : Req) : Prop := r.groups.length ≤ 1099511627776 ∧ (r.ng = true → r.groups = []) ∧ r.scopes.length ≤ 1099511627776 ∧ (r.ns = true → r.scopes = [])
def numF (f : List UInt8) : Bool := (f == [97, 103, 101] || f == [104, 111, 117, 114] || f == [108, 101, 118, 101, 108] || f == [114, 105, 115, 107])
def possB (c : Cond) : Bool :=
  if (c.f == [117, 115, 101, 114] || c.f == [99, 108, 105, 101, 110, 116] || c.f == [116, 101, 110, 97, 110, 116]) then (c.op == [105, 115] || c.op == [110, 111, 116]) && wordB c.v
  else if c.f == [103, 114, 111, 117, 112] then (c.op == [104, 97, 115] || c.op == [108, 97, 99, 107, 115]) && cleanB c.v
  else if c.f == [115, 99, 111, 112, 101] then (c.op == [104, 97, 115] || c.op == [108, 97, 99, 107, 115]) && scopeE [c.v] == 0
  else if c.f == [116, 114, 117, 115, 116, 101, 100] then c.op == [105, 115] && (c.v == [121, 101, 115] || c.v == [110, 111])
  else if (c.f == [97, 103, 101] || c.f == [104, 111, 117, 114] || c.f == [108, 101, 118, 101, 108] || c.f == [114, 105, 115, 107]) then (c.op == [109, 105, 110] || c.op == [109, 97, 120]) && (rdN c.v).2 == 0
  else false
def wordR (f : List UInt8) (r : Req) : List UInt8 :=
  if f == [117, 115, 101, 114] then r.user else if f == [99, 108, 105, 101, 110, 116] then r.client else if f == [116, 101, 110, 97, 110, 116] then r.tenant else if r.trusted then [121, 101, 115] else [110, 111]
def measR (f : List UInt8) (r : Req) : Int :=
  if f == [114, 105, 115, 107] then r.risk else if f == [108, 101, 118, 101, 108] then r.level else if f == [104, 111, 117, 114] then ((limB r.now).tdiv 3600).tmod 24 else limB r.now - limB r.auth

def membR (f : List UInt8) (r : Req) : List (List UInt8) := if f == [103, 114, 111, 117, 112] then r.groups else r.scopes
def nmembR (f : List UInt8) (r : Req) : Bool := if f == [103, 114, 111, 117, 112] then r.ng else r.ns
def holdsB (c : Cond) (r : Req) : Bool :=
  if !possB c then false
  else if c.op == [105, 115] then wordR c.f r == c.v
  else if c.op == [110, 111, 116] then !(wordR c.f r == c.v)
  else if c.op == [104, 97, 115] then (membR c.f r).contains c.v
  else if c.op == [108, 97, 99, 107, 115] then !((membR c.f r).contains c.v)
  else if c.op == [109, 105, 110] then decide (measR c.f r ≥ (rdN c.v).1)
  else decide (measR c.f r ≤ (rdN c.v).1)
def firstL (r : Req) : List Cond → Int → Int
  | [], _ => -1
  | c :: l, i => if !holdsB c r then i else firstL r l (i + 1)
end Go.Proofs

set_option linter.unusedSimpArgs false
set_option linter.unusedVariables false
set_option maxRecDepth 10000
namespace Go.Proofs
open Go Go.Id

theorem lim_0 (n : Int) : limB (limB n + limB 0) = limB n := by
 have h0 : limB 0 = 0 := by decide
 rw [h0, Int.add_zero, lim_lim]
theorem wrap_3600 (n : Int) : IntKind.wrap .i64 ((limB n).tdiv 3600) = (limB n).tdiv 3600 := by
 have := lim_lo n; have := lim_hi n
 have : (limB n).tdiv 3600 = limB n / 3600 := Int.tdiv_eq_ediv_of_nonneg (by omega)
 exact wrap_i64 (by omega) (by omega)

theorem c_truth (v : List UInt8) : CallP Pr 124 [.str v] (.bool (v == [121, 101, 115] || v == [110, 111])) := by
 refine CallP.of_wp Tryz.func124 rfl (by kernel_rfl) Tryz.ntmps124 (by simp) ?_
 simp only [frameOf, Nat.reduceAdd, Nat.zero_add]
 refine WP.sr [0] (by kernel_rfl) fun K hK => ?_
 simp (decide := true) only [TF, ↓reduceIte, Int.reduceToNat]
 refine hK _ _ ?_; clear hK K
 refine WP.sr [2] (by kernel_rfl) fun K hK => ?_
 refine runOps.take 3 fun J hJ => ?_
 simp (decide := true) only [TF, ↓reduceIte, Int.reduceToNat]
 refine hJ _ _ ?_; clear hJ J
 refine runOps.part 5 rfl (fun q1 => ?_) (fun q1 => ?_)
 ·
  simp (decide := true) only [TF, q1, ↓reduceIte, Int.reduceToNat]
  refine hK _ _ ?_; clear hK K
  refine WP.ret ?_
  exact Ends.pure (.inr rfl) rfl (Le.of_eq (by simp (decide := true) only [St.get, lk, W, q1, ↓reduceIte])) (by simp)
 ·
  simp (decide := true) only [TF, q1, ↓reduceIte, Int.reduceToNat]
  refine hK _ _ ?_; clear hK K
  refine WP.ret ?_
  exact Ends.pure (.inr rfl) rfl (Le.of_eq (by simp (decide := true) only [St.get, lk, W, q1, ↓reduceIte])) (by simp)
theorem c_number (s : List UInt8) (hs : s.length ≤ 1099511627776) : CallP Pr 90 [.str s] (.tup [.int .i64 (rdN s).1, .bool ((rdN s).2 == 0)]) := by
 refine CallP.of_wp Tryz.func90 rfl (by kernel_rfl) Tryz.ntmps90 (by simp) ?_
 simp only [frameOf, Nat.reduceAdd, Nat.zero_add]
 refine WP.sr [0] (by kernel_rfl) fun K hK => ?_
 simp (decide := true) only [TF, rdD, ↓reduceIte, Int.reduceToNat]
 refine hK _ _ ?_; clear hK K
 refine WP.sr [4, 5] (by kernel_rfl) fun K hK => ?_
 simp (decide := true) only [TF, rdD, ↓reduceIte, Int.reduceToNat]
 refine CallK.pure (c_readint s hs) rfl rfl (by simp [-List.map_take]) ?_
 simp (decide := true) only [TF, rdD, ↓reduceIte, Int.reduceToNat]
 refine hK _ _ ?_; clear hK K
 refine WP.sr [2, 3] (by kernel_rfl) fun K hK => ?_
 simp (decide := true) only [TF, rdD, ↓reduceIte, Int.reduceToNat]
 refine hK _ _ ?_; clear hK K
 refine WP.ret ?_
 exact Ends.pure (d := .tup [_, _]) (.inr rfl) rfl (Le.of_eq (by simp (decide := true) only [St.get, lk, W, ↓reduceIte])) (by simp)
theorem c_possible (c : Cond) (hc : c.ok) : CallP Pr 87 [.agg [.str c.f, .str c.op, .str c.v]] (.bool (possB c)) := by
 refine CallP.of_wp Tryz.func87 rfl (by kernel_rfl) Tryz.ntmps87 (by simp) ?_
 simp only [frameOf, Nat.reduceAdd, Nat.zero_add]
 refine WP.sr [1] (by kernel_rfl) fun K hK => ?_
 simp (decide := true) only [TF, ↓reduceIte, Int.reduceToNat]
 refine hK _ _ ?_; clear hK K
 refine WP.meet ⟨[(3, .bool (c.op == [105, 115] || c.op == [110, 111, 116])), (4, .bool (c.op == [104, 97, 115] || c.op == [108, 97, 99, 107, 115])), (5, .bool (c.op == [109, 105, 110] || c.op == [109, 97, 120])), (1, .ref 0 0)], [(0, .box 46 [.str c.f, .str c.op, .str c.v])]⟩ ?_ ?_
 ·
  refine WP.drawn (by kernel_rfl) (by kernel_rfl) fun K hK => ?_
  refine runOps.take 4 fun J hJ => ?_
  simp (decide := true) only [TF, ↓reduceIte, Int.reduceToNat]
  refine hJ _ _ ?_; clear hJ J
  refine runOps.part 11 rfl (fun q1 => ?_) (fun q1 => ?_)
  ·
   refine runOps.take 8 fun J hJ => ?_
   simp (decide := true) only [TF, q1, ↓reduceIte, Int.reduceToNat]
   refine hJ _ _ ?_; clear hJ J
   refine runOps.part 19 rfl (fun q2 => ?_) (fun q2 => ?_)
   ·
    refine runOps.take 8 fun J hJ => ?_
    simp (decide := true) only [TF, q1, q2, ↓reduceIte, Int.reduceToNat]
    refine hJ _ _ ?_; clear hJ J
    refine runOps.part 27 rfl (fun q3 => ?_) (fun q3 => ?_)
    ·
     simp (decide := true) only [TF, q1, q2, q3, ↓reduceIte, Int.reduceToNat]
     refine hK _ _ (by kernel_rfl) ?_
     clear hK K
     show Weak _ _ _
     exact Weak.store (by simp (decide := true) [St.get, lk, W, Le.refl, q1, q2, q3]) (by simp [lk, W]) (by simp [lk, W]) (by simp [BClo, lk]) (by simp)
    ·
     simp (decide := true) only [TF, q1, q2, q3, ↓reduceIte, Int.reduceToNat]
     refine hK _ _ (by kernel_rfl) ?_
     clear hK K
     show Weak _ _ _
     exact Weak.store (by simp (decide := true) [St.get, lk, W, Le.refl, q1, q2, q3]) (by simp [lk, W]) (by simp [lk, W]) (by simp [BClo, lk]) (by simp)
   ·
    refine runOps.take 8 fun J hJ => ?_
    simp (decide := true) only [TF, q1, q2, ↓reduceIte, Int.reduceToNat]
    refine hJ _ _ ?_; clear hJ J
    refine runOps.part 27 rfl (fun q4 => ?_) (fun q4 => ?_)
    ·
     simp (decide := true) only [TF, q1, q2, q4, ↓reduceIte, Int.reduceToNat]
     refine hK _ _ (by kernel_rfl) ?_
     clear hK K
     show Weak _ _ _
     exact Weak.store (by simp (decide := true) [St.get, lk, W, Le.refl, q1, q2, q4]) (by simp [lk, W]) (by simp [lk, W]) (by simp [BClo, lk]) (by simp)
    ·
     simp (decide := true) only [TF, q1, q2, q4, ↓reduceIte, Int.reduceToNat]
     refine hK _ _ (by kernel_rfl) ?_
     clear hK K
     show Weak _ _ _
     exact Weak.store (by simp (decide := true) [St.get, lk, W, Le.refl, q1, q2, q4]) (by simp [lk, W]) (by simp [lk, W]) (by simp [BClo, lk]) (by simp)
  ·
   refine runOps.take 8 fun J hJ => ?_
   simp (decide := true) only [TF, q1, ↓reduceIte, Int.reduceToNat]
   refine hJ _ _ ?_; clear hJ J
   refine runOps.part 19 rfl (fun q5 => ?_) (fun q5 => ?_)
   ·
    refine runOps.take 8 fun J hJ => ?_
    simp (decide := true) only [TF, q1, q5, ↓reduceIte, Int.reduceToNat]
    refine hJ _ _ ?_; clear hJ J
    refine runOps.part 27 rfl (fun q6 => ?_) (fun q6 => ?_)
    ·
     simp (decide := true) only [TF, q1, q5, q6, ↓reduceIte, Int.reduceToNat]
     refine hK _ _ (by kernel_rfl) ?_
     clear hK K
     show Weak _ _ _
     exact Weak.store (by simp (decide := true) [St.get, lk, W, Le.refl, q1, q5, q6]) (by simp [lk, W]) (by simp [lk, W]) (by simp [BClo, lk]) (by simp)
    ·
     simp (decide := true) only [TF, q1, q5, q6, ↓reduceIte, Int.reduceToNat]
     refine hK _ _ (by kernel_rfl) ?_
     clear hK K
     show Weak _ _ _
     exact Weak.store (by simp (decide := true) [St.get, lk, W, Le.refl, q1, q5, q6]) (by simp [lk, W]) (by simp [lk, W]) (by simp [BClo, lk]) (by simp)
   ·
    refine runOps.take 8 fun J hJ => ?_
    simp (decide := true) only [TF, q1, q5, ↓reduceIte, Int.reduceToNat]
    refine hJ _ _ ?_; clear hJ J
    refine runOps.part 27 rfl (fun q7 => ?_) (fun q7 => ?_)
    ·
     simp (decide := true) only [TF, q1, q5, q7, ↓reduceIte, Int.reduceToNat]
     refine hK _ _ (by kernel_rfl) ?_
     clear hK K
     show Weak _ _ _
     exact Weak.store (by simp (decide := true) [St.get, lk, W, Le.refl, q1, q5, q7]) (by simp [lk, W]) (by simp [lk, W]) (by simp [BClo, lk]) (by simp)
    ·
     simp (decide := true) only [TF, q1, q5, q7, ↓reduceIte, Int.reduceToNat]
     refine hK _ _ (by kernel_rfl) ?_
     clear hK K
     show Weak _ _ _
     exact Weak.store (by simp (decide := true) [St.get, lk, W, Le.refl, q1, q5, q7]) (by simp [lk, W]) (by simp [lk, W]) (by simp [BClo, lk]) (by simp)
 ·
  refine WP.seq ?_
  refine WP.sr [1, 3, 4, 5, 33] (by kernel_rfl) fun K hK => ?_
  simp (decide := true) only [TF, ↓reduceIte, Int.reduceToNat]
  refine hK _ _ ?_; clear hK K
  refine WP.block ?_
  refine WP.seq ?_
  refine WP.sr [1, 3, 4, 5, 33, 34] (by kernel_rfl) fun K hK => ?_
  simp (decide := true) only [TF, ↓reduceIte, Int.reduceToNat]
  refine hK _ _ ?_; clear hK K
  refine WP.cond (b := _) rfl (fun q8 => ?_) (fun q8 => ?_)
  ·
   refine WP.skip ?_
   show WP _ _ _ _ _ _
   refine WP.cond (b := true) (by simp [W, q8]) (fun _ => ?_) nofun
   refine WP.sr [2] (by kernel_rfl) fun K hK => ?_
   refine runOps.take 2 fun J hJ => ?_
   simp (decide := true) only [TF, q8, ↓reduceIte, Int.reduceToNat]
   refine hJ _ _ ?_; clear hJ J
   refine runOps.part 39 rfl (fun q9 => ?_) (fun q9 => ?_)
   ·
    simp (decide := true) only [TF, q8, q9, ↓reduceIte, Int.reduceToNat]
    refine CallK.pure (c_word c.v (by have := hc.2.2; omega)) rfl rfl (by simp [-List.map_take]) ?_
    simp (decide := true) only [TF, q8, q9, ↓reduceIte, Int.reduceToNat]
    refine hK _ _ ?_; clear hK K
    refine WP.ret ?_
    exact Ends.pure (.inr rfl) rfl (Le.of_eq (by simp (decide := true) only [St.get, lk, W, possB, q8, q9, ↓reduceIte])) (by simp)
   ·
    simp (decide := true) only [TF, q8, q9, ↓reduceIte, Int.reduceToNat]
    refine hK _ _ ?_; clear hK K
    refine WP.ret ?_
    exact Ends.pure (.inr rfl) rfl (Le.of_eq (by simp (decide := true) only [St.get, lk, W, possB, q8, q9, ↓reduceIte])) (by simp)
  ·
   refine WP.sr [1, 3, 4, 5, 33, 34] (by kernel_rfl) fun K hK => ?_
   simp (decide := true) only [TF, q8, ↓reduceIte, Int.reduceToNat]
   refine hK _ _ ?_; clear hK K
   refine WP.cond (b := _) rfl (fun q10 => ?_) (fun q10 => ?_)
   ·
    refine WP.skip ?_
    show WP _ _ _ _ _ _
    refine WP.cond (b := true) (by simp [W, q8, q10]) (fun _ => ?_) nofun
    refine WP.sr [2] (by kernel_rfl) fun K hK => ?_
    refine runOps.take 2 fun J hJ => ?_
    simp (decide := true) only [TF, q8, q10, ↓reduceIte, Int.reduceToNat]
    refine hJ _ _ ?_; clear hJ J
    refine runOps.part 39 rfl (fun q11 => ?_) (fun q11 => ?_)
    ·
     simp (decide := true) only [TF, q8, q10, q11, ↓reduceIte, Int.reduceToNat]
     refine CallK.pure (c_word c.v (by have := hc.2.2; omega)) rfl rfl (by simp [-List.map_take]) ?_
     simp (decide := true) only [TF, q8, q10, q11, ↓reduceIte, Int.reduceToNat]
     refine hK _ _ ?_; clear hK K
     refine WP.ret ?_
     exact Ends.pure (.inr rfl) rfl (Le.of_eq (by simp (decide := true) only [St.get, lk, W, possB, q8, q10, q11, ↓reduceIte])) (by simp)
    ·
     simp (decide := true) only [TF, q8, q10, q11, ↓reduceIte, Int.reduceToNat]
     refine hK _ _ ?_; clear hK K
     refine WP.ret ?_
     exact Ends.pure (.inr rfl) rfl (Le.of_eq (by simp (decide := true) only [St.get, lk, W, possB, q8, q10, q11, ↓reduceIte])) (by simp)
   ·
    refine WP.region (by kernel_rfl) fun K hK => ?_
    simp (decide := true) only [TF, q8, q10, ↓reduceIte, Int.reduceToNat]
    refine hK _ _ ?_; clear hK K
    show WP _ _ _ _ _ _
    refine WP.cond (b := _) rfl (fun q12 => ?_) (fun q12 => ?_)
    ·
     refine WP.sr [2] (by kernel_rfl) fun K hK => ?_
     refine runOps.take 2 fun J hJ => ?_
     simp (decide := true) only [TF, q8, q10, q12, ↓reduceIte, Int.reduceToNat]
     refine hJ _ _ ?_; clear hJ J
     refine runOps.part 39 rfl (fun q13 => ?_) (fun q13 => ?_)
     ·
      simp (decide := true) only [TF, q8, q10, q12, q13, ↓reduceIte, Int.reduceToNat]
      refine CallK.pure (c_word c.v (by have := hc.2.2; omega)) rfl rfl (by simp [-List.map_take]) ?_
      simp (decide := true) only [TF, q8, q10, q12, q13, ↓reduceIte, Int.reduceToNat]
      refine hK _ _ ?_; clear hK K
      refine WP.ret ?_
      exact Ends.pure (.inr rfl) rfl (Le.of_eq (by simp (decide := true) only [St.get, lk, W, possB, q8, q10, q12, q13, ↓reduceIte])) (by simp)
     ·
      simp (decide := true) only [TF, q8, q10, q12, q13, ↓reduceIte, Int.reduceToNat]
      refine hK _ _ ?_; clear hK K
      refine WP.ret ?_
      exact Ends.pure (.inr rfl) rfl (Le.of_eq (by simp (decide := true) only [St.get, lk, W, possB, q8, q10, q12, q13, ↓reduceIte])) (by simp)
    ·
     refine WP.sr [1, 4, 5, 33, 44] (by kernel_rfl) fun K hK => ?_
     simp (decide := true) only [TF, q8, q10, q12, ↓reduceIte, Int.reduceToNat]
     refine hK _ _ ?_; clear hK K
     refine WP.cond (b := _) rfl (fun q14 => ?_) (fun q14 => ?_)
     ·
      refine WP.sr [2] (by kernel_rfl) fun K hK => ?_
      refine runOps.take 2 fun J hJ => ?_
      simp (decide := true) only [TF, q8, q10, q12, q14, ↓reduceIte, Int.reduceToNat]
      refine hJ _ _ ?_; clear hJ J
      refine runOps.part 47 rfl (fun q15 => ?_) (fun q15 => ?_)
      ·
       simp (decide := true) only [TF, q8, q10, q12, q14, q15, ↓reduceIte, Int.reduceToNat]
       refine CallK.pure (c_clean c.v (by have := hc.2.2; omega)) rfl rfl (by simp [-List.map_take]) ?_
       simp (decide := true) only [TF, q8, q10, q12, q14, q15, ↓reduceIte, Int.reduceToNat]
       refine hK _ _ ?_; clear hK K
       refine WP.ret ?_
       exact Ends.pure (.inr rfl) rfl (Le.of_eq (by simp (decide := true) only [St.get, lk, W, possB, q8, q10, q12, q14, q15, ↓reduceIte])) (by simp)
      ·
       simp (decide := true) only [TF, q8, q10, q12, q14, q15, ↓reduceIte, Int.reduceToNat]
       refine hK _ _ ?_; clear hK K
       refine WP.ret ?_
       exact Ends.pure (.inr rfl) rfl (Le.of_eq (by simp (decide := true) only [St.get, lk, W, possB, q8, q10, q12, q14, q15, ↓reduceIte])) (by simp)
     ·
      refine WP.sr [1, 4, 5, 33, 52] (by kernel_rfl) fun K hK => ?_
      simp (decide := true) only [TF, q8, q10, q12, q14, ↓reduceIte, Int.reduceToNat]
      refine hK _ _ ?_; clear hK K
      refine WP.cond (b := _) rfl (fun q16 => ?_) (fun q16 => ?_)
      ·
       refine WP.sr [2] (by kernel_rfl) fun K hK => ?_
       refine runOps.take 2 fun J hJ => ?_
       simp (decide := true) only [TF, q8, q10, q12, q14, q16, ↓reduceIte, Int.reduceToNat]
       refine hJ _ _ ?_; clear hJ J
       refine runOps.part 55 rfl (fun q17 => ?_) (fun q17 => ?_)
       ·
        simp (decide := true) only [TF, q8, q10, q12, q14, q16, q17, ↓reduceIte, Int.reduceToNat]
        refine CallK.pure (c_sc_check [c.v] false (by simp) nofun (by have := hc.2.2; simp; omega)) rfl rfl (by simp [-List.map_take]) ?_
        simp (decide := true) only [TF, q8, q10, q12, q14, q16, q17, ↓reduceIte, Int.reduceToNat]
        refine hK _ _ ?_; clear hK K
        refine WP.ret ?_
        exact Ends.pure (.inr rfl) rfl (Le.of_eq (by simp (decide := true) only [St.get, lk, W, possB, q8, q10, q12, q14, q16, q17, ↓reduceIte])) (by simp)
       ·
        simp (decide := true) only [TF, q8, q10, q12, q14, q16, q17, ↓reduceIte, Int.reduceToNat]
        refine hK _ _ ?_; clear hK K
        refine WP.ret ?_
        exact Ends.pure (.inr rfl) rfl (Le.of_eq (by simp (decide := true) only [St.get, lk, W, possB, q8, q10, q12, q14, q16, q17, ↓reduceIte])) (by simp)
      ·
       refine WP.sr [1, 5, 33, 62] (by kernel_rfl) fun K hK => ?_
       simp (decide := true) only [TF, q8, q10, q12, q14, q16, ↓reduceIte, Int.reduceToNat]
       refine hK _ _ ?_; clear hK K
       refine WP.cond (b := _) rfl (fun q18 => ?_) (fun q18 => ?_)
       ·
        refine WP.sr [2] (by kernel_rfl) fun K hK => ?_
        refine runOps.take 4 fun J hJ => ?_
        simp (decide := true) only [TF, q8, q10, q12, q14, q16, q18, ↓reduceIte, Int.reduceToNat]
        refine hJ _ _ ?_; clear hJ J
        refine runOps.part 67 rfl (fun q19 => ?_) (fun q19 => ?_)
        ·
         simp (decide := true) only [TF, q8, q10, q12, q14, q16, q18, q19, ↓reduceIte, Int.reduceToNat]
         refine CallK.pure (c_truth c.v) rfl rfl (by simp [-List.map_take]) ?_
         simp (decide := true) only [TF, q8, q10, q12, q14, q16, q18, q19, ↓reduceIte, Int.reduceToNat]
         refine hK _ _ ?_; clear hK K
         refine WP.ret ?_
         exact Ends.pure (.inr rfl) rfl (Le.of_eq (by simp (decide := true) only [St.get, lk, W, possB, q8, q10, q12, q14, q16, q18, q19, ↓reduceIte])) (by simp)
        ·
         simp (decide := true) only [TF, q8, q10, q12, q14, q16, q18, q19, ↓reduceIte, Int.reduceToNat]
         refine hK _ _ ?_; clear hK K
         refine WP.ret ?_
         exact Ends.pure (.inr rfl) rfl (Le.of_eq (by simp (decide := true) only [St.get, lk, W, possB, q8, q10, q12, q14, q16, q18, q19, ↓reduceIte])) (by simp)
       ·
        refine WP.seq ?_
        refine WP.sr [1, 5, 33, 72] (by kernel_rfl) fun K hK => ?_
        simp (decide := true) only [TF, q8, q10, q12, q14, q16, q18, ↓reduceIte, Int.reduceToNat]
        refine hK _ _ ?_; clear hK K
        refine WP.cond (b := _) rfl (fun q20 => ?_) (fun q20 => ?_)
        ·
         refine WP.skip ?_
         show WP _ _ _ _ _ _
         refine WP.cond (b := true) (by simp [W, q8, q10, q12, q14, q16, q18, q20]) (fun _ => ?_) nofun
         refine WP.sr [5, 7] (by kernel_rfl) fun K hK => ?_
         simp (decide := true) only [TF, q8, q10, q12, q14, q16, q18, q20, ↓reduceIte, Int.reduceToNat]
         refine CallK.pure (c_number c.v hc.2.2) rfl rfl (by simp [-List.map_take]) ?_
         simp (decide := true) only [TF, q8, q10, q12, q14, q16, q18, q20, ↓reduceIte, Int.reduceToNat]
         refine hK _ _ ?_; clear hK K
         refine WP.sr [2] (by kernel_rfl) fun K hK => ?_
         refine runOps.take 2 fun J hJ => ?_
         simp (decide := true) only [TF, q8, q10, q12, q14, q16, q18, q20, ↓reduceIte, Int.reduceToNat]
         refine hJ _ _ ?_; clear hJ J
         refine runOps.part 84 rfl (fun q21 => ?_) (fun q21 => ?_)
         ·
          simp (decide := true) only [TF, q8, q10, q12, q14, q16, q18, q20, q21, ↓reduceIte, Int.reduceToNat]
          refine hK _ _ ?_; clear hK K
          refine WP.ret ?_
          exact Ends.pure (.inr rfl) rfl (Le.of_eq (by simp (decide := true) only [St.get, lk, W, possB, q8, q10, q12, q14, q16, q18, q20, q21, ↓reduceIte])) (by simp)
         ·
          simp (decide := true) only [TF, q8, q10, q12, q14, q16, q18, q20, q21, ↓reduceIte, Int.reduceToNat]
          refine hK _ _ ?_; clear hK K
          refine WP.ret ?_
          exact Ends.pure (.inr rfl) rfl (Le.of_eq (by simp (decide := true) only [St.get, lk, W, possB, q8, q10, q12, q14, q16, q18, q20, q21, ↓reduceIte])) (by simp)
        ·
         refine WP.sr [1, 5, 33, 72] (by kernel_rfl) fun K hK => ?_
         simp (decide := true) only [TF, q8, q10, q12, q14, q16, q18, q20, ↓reduceIte, Int.reduceToNat]
         refine hK _ _ ?_; clear hK K
         refine WP.cond (b := _) rfl (fun q22 => ?_) (fun q22 => ?_)
         ·
          refine WP.skip ?_
          show WP _ _ _ _ _ _
          refine WP.cond (b := true) (by simp [W, q8, q10, q12, q14, q16, q18, q20, q22]) (fun _ => ?_) nofun
          refine WP.sr [5, 7] (by kernel_rfl) fun K hK => ?_
          simp (decide := true) only [TF, q8, q10, q12, q14, q16, q18, q20, q22, ↓reduceIte, Int.reduceToNat]
          refine CallK.pure (c_number c.v hc.2.2) rfl rfl (by simp [-List.map_take]) ?_
          simp (decide := true) only [TF, q8, q10, q12, q14, q16, q18, q20, q22, ↓reduceIte, Int.reduceToNat]
          refine hK _ _ ?_; clear hK K
          refine WP.sr [2] (by kernel_rfl) fun K hK => ?_
          refine runOps.take 2 fun J hJ => ?_
          simp (decide := true) only [TF, q8, q10, q12, q14, q16, q18, q20, q22, ↓reduceIte, Int.reduceToNat]
          refine hJ _ _ ?_; clear hJ J
          refine runOps.part 84 rfl (fun q23 => ?_) (fun q23 => ?_)
          ·
           simp (decide := true) only [TF, q8, q10, q12, q14, q16, q18, q20, q22, q23, ↓reduceIte, Int.reduceToNat]
           refine hK _ _ ?_; clear hK K
           refine WP.ret ?_
           exact Ends.pure (.inr rfl) rfl (Le.of_eq (by simp (decide := true) only [St.get, lk, W, possB, q8, q10, q12, q14, q16, q18, q20, q22, q23, ↓reduceIte])) (by simp)
          ·
           simp (decide := true) only [TF, q8, q10, q12, q14, q16, q18, q20, q22, q23, ↓reduceIte, Int.reduceToNat]
           refine hK _ _ ?_; clear hK K
           refine WP.ret ?_
           exact Ends.pure (.inr rfl) rfl (Le.of_eq (by simp (decide := true) only [St.get, lk, W, possB, q8, q10, q12, q14, q16, q18, q20, q22, q23, ↓reduceIte])) (by simp)
         ·
          refine WP.sr [1, 5, 33, 72] (by kernel_rfl) fun K hK => ?_
          simp (decide := true) only [TF, q8, q10, q12, q14, q16, q18, q20, q22, ↓reduceIte, Int.reduceToNat]
          refine hK _ _ ?_; clear hK K
          refine WP.cond (b := _) rfl (fun q24 => ?_) (fun q24 => ?_)
          ·
           refine WP.skip ?_
           show WP _ _ _ _ _ _
           refine WP.cond (b := true) (by simp [W, q8, q10, q12, q14, q16, q18, q20, q22, q24]) (fun _ => ?_) nofun
           refine WP.sr [5, 7] (by kernel_rfl) fun K hK => ?_
           simp (decide := true) only [TF, q8, q10, q12, q14, q16, q18, q20, q22, q24, ↓reduceIte, Int.reduceToNat]
           refine CallK.pure (c_number c.v hc.2.2) rfl rfl (by simp [-List.map_take]) ?_
           simp (decide := true) only [TF, q8, q10, q12, q14, q16, q18, q20, q22, q24, ↓reduceIte, Int.reduceToNat]
           refine hK _ _ ?_; clear hK K
           refine WP.sr [2] (by kernel_rfl) fun K hK => ?_
           refine runOps.take 2 fun J hJ => ?_
           simp (decide := true) only [TF, q8, q10, q12, q14, q16, q18, q20, q22, q24, ↓reduceIte, Int.reduceToNat]
           refine hJ _ _ ?_; clear hJ J
           refine runOps.part 84 rfl (fun q25 => ?_) (fun q25 => ?_)
           ·
            simp (decide := true) only [TF, q8, q10, q12, q14, q16, q18, q20, q22, q24, q25, ↓reduceIte, Int.reduceToNat]
            refine hK _ _ ?_; clear hK K
            refine WP.ret ?_
            exact Ends.pure (.inr rfl) rfl (Le.of_eq (by simp (decide := true) only [St.get, lk, W, possB, q8, q10, q12, q14, q16, q18, q20, q22, q24, q25, ↓reduceIte])) (by simp)
           ·
            simp (decide := true) only [TF, q8, q10, q12, q14, q16, q18, q20, q22, q24, q25, ↓reduceIte, Int.reduceToNat]
            refine hK _ _ ?_; clear hK K
            refine WP.ret ?_
            exact Ends.pure (.inr rfl) rfl (Le.of_eq (by simp (decide := true) only [St.get, lk, W, possB, q8, q10, q12, q14, q16, q18, q20, q22, q24, q25, ↓reduceIte])) (by simp)
          ·
           refine WP.region (by kernel_rfl) fun K hK => ?_
           simp (decide := true) only [TF, q8, q10, q12, q14, q16, q18, q20, q22, q24, ↓reduceIte, Int.reduceToNat]
           refine hK _ _ ?_; clear hK K
           show WP _ _ _ _ _ _
           refine WP.cond (b := _) rfl (fun q26 => ?_) (fun q26 => ?_)
           ·
            refine WP.sr [5, 7] (by kernel_rfl) fun K hK => ?_
            simp (decide := true) only [TF, q8, q10, q12, q14, q16, q18, q20, q22, q24, q26, ↓reduceIte, Int.reduceToNat]
            refine CallK.pure (c_number c.v hc.2.2) rfl rfl (by simp [-List.map_take]) ?_
            simp (decide := true) only [TF, q8, q10, q12, q14, q16, q18, q20, q22, q24, q26, ↓reduceIte, Int.reduceToNat]
            refine hK _ _ ?_; clear hK K
            refine WP.sr [2] (by kernel_rfl) fun K hK => ?_
            refine runOps.take 2 fun J hJ => ?_
            simp (decide := true) only [TF, q8, q10, q12, q14, q16, q18, q20, q22, q24, q26, ↓reduceIte, Int.reduceToNat]
            refine hJ _ _ ?_; clear hJ J
            refine runOps.part 84 rfl (fun q27 => ?_) (fun q27 => ?_)
            ·
             simp (decide := true) only [TF, q8, q10, q12, q14, q16, q18, q20, q22, q24, q26, q27, ↓reduceIte, Int.reduceToNat]
             refine hK _ _ ?_; clear hK K
             refine WP.ret ?_
             exact Ends.pure (.inr rfl) rfl (Le.of_eq (by simp (decide := true) only [St.get, lk, W, possB, q8, q10, q12, q14, q16, q18, q20, q22, q24, q26, q27, ↓reduceIte])) (by simp)
            ·
             simp (decide := true) only [TF, q8, q10, q12, q14, q16, q18, q20, q22, q24, q26, q27, ↓reduceIte, Int.reduceToNat]
             refine hK _ _ ?_; clear hK K
             refine WP.ret ?_
             exact Ends.pure (.inr rfl) rfl (Le.of_eq (by simp (decide := true) only [St.get, lk, W, possB, q8, q10, q12, q14, q16, q18, q20, q22, q24, q26, q27, ↓reduceIte])) (by simp)
           ·
            refine WP.skip ?_
            show WP _ _ _ _ _ _
            refine WP.sr [2] (by kernel_rfl) fun K hK => ?_
            simp (decide := true) only [TF, q8, q10, q12, q14, q16, q18, q20, q22, q24, q26, ↓reduceIte, Int.reduceToNat]
            refine hK _ _ ?_; clear hK K
            refine WP.ret ?_
            exact Ends.pure (.inr rfl) rfl (Le.of_eq (by simp (decide := true) only [St.get, lk, W, possB, q8, q10, q12, q14, q16, q18, q20, q22, q24, q26, ↓reduceIte])) (by simp)
theorem c_r_number (f : List UInt8) : CallP Pr 133 [.str f] (.bool (numF f)) := by
 refine CallP.of_wp Tryz.func133 rfl (by kernel_rfl) Tryz.ntmps133 (by simp) ?_
 simp only [frameOf, Nat.reduceAdd, Nat.zero_add]
 refine WP.sr [0] (by kernel_rfl) fun K hK => ?_
 simp (decide := true) only [TF, ↓reduceIte, Int.reduceToNat]
 refine hK _ _ ?_; clear hK K
 refine WP.sr [2] (by kernel_rfl) fun K hK => ?_
 refine runOps.take 3 fun J hJ => ?_
 simp (decide := true) only [TF, ↓reduceIte, Int.reduceToNat]
 refine hJ _ _ ?_; clear hJ J
 refine runOps.part 5 rfl (fun q1 => ?_) (fun q1 => ?_)
 ·
  simp (decide := true) only [TF, q1, ↓reduceIte, Int.reduceToNat]
  refine hK _ _ ?_; clear hK K
  refine WP.ret ?_
  exact Ends.pure (.inr rfl) rfl (Le.of_eq (by simp (decide := true) only [St.get, lk, W, numF, q1, ↓reduceIte])) (by simp)
 ·
  refine runOps.take 4 fun J hJ => ?_
  simp (decide := true) only [TF, q1, ↓reduceIte, Int.reduceToNat]
  refine hJ _ _ ?_; clear hJ J
  refine runOps.part 9 rfl (fun q2 => ?_) (fun q2 => ?_)
  ·
   simp (decide := true) only [TF, q1, q2, ↓reduceIte, Int.reduceToNat]
   refine hK _ _ ?_; clear hK K
   refine WP.ret ?_
   exact Ends.pure (.inr rfl) rfl (Le.of_eq (by simp (decide := true) only [St.get, lk, W, numF, q1, q2, ↓reduceIte])) (by simp)
  ·
   refine runOps.take 4 fun J hJ => ?_
   simp (decide := true) only [TF, q1, q2, ↓reduceIte, Int.reduceToNat]
   refine hJ _ _ ?_; clear hJ J
   refine runOps.part 13 rfl (fun q3 => ?_) (fun q3 => ?_)
   ·
    simp (decide := true) only [TF, q1, q2, q3, ↓reduceIte, Int.reduceToNat]
    refine hK _ _ ?_; clear hK K
    refine WP.ret ?_
    exact Ends.pure (.inr rfl) rfl (Le.of_eq (by simp (decide := true) only [St.get, lk, W, numF, q1, q2, q3, ↓reduceIte])) (by simp)
   ·
    simp (decide := true) only [TF, q1, q2, q3, ↓reduceIte, Int.reduceToNat]
    refine hK _ _ ?_; clear hK K
    refine WP.ret ?_
    exact Ends.pure (.inr rfl) rfl (Le.of_eq (by simp (decide := true) only [St.get, lk, W, numF, q1, q2, q3, ↓reduceIte])) (by simp)
theorem c_r_possible (c : Cond) (hc : c.ok) : CallP Pr 99 [.agg [.str c.f, .str c.op, .str c.v]] (.bool (possB c)) := by
 refine CallP.of_wp Tryz.func99 rfl (by kernel_rfl) Tryz.ntmps99 (by simp) ?_
 simp only [frameOf, Nat.reduceAdd, Nat.zero_add]
 refine WP.sr [1] (by kernel_rfl) fun K hK => ?_
 simp (decide := true) only [TF, rdD, ↓reduceIte, Int.reduceToNat]
 refine hK _ _ ?_; clear hK K
 refine WP.seq ?_
 refine WP.sr [1, 6] (by kernel_rfl) fun K hK => ?_
 simp (decide := true) only [TF, rdD, ↓reduceIte, Int.reduceToNat]
 refine hK _ _ ?_; clear hK K
 refine WP.block ?_
 refine WP.seq ?_
 refine WP.sr [1, 6, 7] (by kernel_rfl) fun K hK => ?_
 simp (decide := true) only [TF, rdD, ↓reduceIte, Int.reduceToNat]
 refine hK _ _ ?_; clear hK K
 refine WP.cond (b := _) rfl (fun q1 => ?_) (fun q1 => ?_)
 ·
  refine WP.skip ?_
  show WP _ _ _ _ _ _
  refine WP.cond (b := true) (by simp [W, q1]) (fun _ => ?_) nofun
  refine WP.sr [2] (by kernel_rfl) fun K hK => ?_
  refine runOps.take 4 fun J hJ => ?_
  simp (decide := true) only [TF, q1, rdD, ↓reduceIte, Int.reduceToNat]
  refine hJ _ _ ?_; clear hJ J
  refine runOps.part 14 rfl (fun q2 => ?_) (fun q2 => ?_)
  ·
   simp (decide := true) only [TF, q1, q2, rdD, ↓reduceIte, Int.reduceToNat]
   refine CallK.pure (c_r_word c.v (by have := hc.2.2; omega)) rfl rfl (by simp [-List.map_take]) ?_
   simp (decide := true) only [TF, q1, q2, rdD, ↓reduceIte, Int.reduceToNat]
   refine hK _ _ ?_; clear hK K
   refine WP.ret ?_
   exact Ends.pure (.inr rfl) rfl (Le.of_eq (by simp (decide := true) only [St.get, lk, W, possB, numF, q1, q2, ↓reduceIte])) (by simp)
  ·
   refine runOps.take 5 fun J hJ => ?_
   simp (decide := true) only [TF, q1, q2, rdD, ↓reduceIte, Int.reduceToNat]
   refine hJ _ _ ?_; clear hJ J
   refine runOps.part 19 rfl (fun q3 => ?_) (fun q3 => ?_)
   ·
    simp (decide := true) only [TF, q1, q2, q3, rdD, ↓reduceIte, Int.reduceToNat]
    refine CallK.pure (c_r_word c.v (by have := hc.2.2; omega)) rfl rfl (by simp [-List.map_take]) ?_
    simp (decide := true) only [TF, q1, q2, q3, rdD, ↓reduceIte, Int.reduceToNat]
    refine hK _ _ ?_; clear hK K
    refine WP.ret ?_
    exact Ends.pure (.inr rfl) rfl (Le.of_eq (by simp (decide := true) only [St.get, lk, W, possB, numF, q1, q2, q3, ↓reduceIte])) (by simp)
   ·
    simp (decide := true) only [TF, q1, q2, q3, rdD, ↓reduceIte, Int.reduceToNat]
    refine hK _ _ ?_; clear hK K
    refine WP.ret ?_
    exact Ends.pure (.inr rfl) rfl (Le.of_eq (by simp (decide := true) only [St.get, lk, W, possB, numF, q1, q2, q3, ↓reduceIte])) (by simp)
 ·
  refine WP.sr [1, 6, 7] (by kernel_rfl) fun K hK => ?_
  simp (decide := true) only [TF, q1, rdD, ↓reduceIte, Int.reduceToNat]
  refine hK _ _ ?_; clear hK K
  refine WP.cond (b := _) rfl (fun q4 => ?_) (fun q4 => ?_)
  ·
   refine WP.skip ?_
   show WP _ _ _ _ _ _
   refine WP.cond (b := true) (by simp [W, q1, q4]) (fun _ => ?_) nofun
   refine WP.sr [2] (by kernel_rfl) fun K hK => ?_
   refine runOps.take 4 fun J hJ => ?_
   simp (decide := true) only [TF, q1, q4, rdD, ↓reduceIte, Int.reduceToNat]
   refine hJ _ _ ?_; clear hJ J
   refine runOps.part 14 rfl (fun q5 => ?_) (fun q5 => ?_)
   ·
    simp (decide := true) only [TF, q1, q4, q5, rdD, ↓reduceIte, Int.reduceToNat]
    refine CallK.pure (c_r_word c.v (by have := hc.2.2; omega)) rfl rfl (by simp [-List.map_take]) ?_
    simp (decide := true) only [TF, q1, q4, q5, rdD, ↓reduceIte, Int.reduceToNat]
    refine hK _ _ ?_; clear hK K
    refine WP.ret ?_
    exact Ends.pure (.inr rfl) rfl (Le.of_eq (by simp (decide := true) only [St.get, lk, W, possB, numF, q1, q4, q5, ↓reduceIte])) (by simp)
   ·
    refine runOps.take 5 fun J hJ => ?_
    simp (decide := true) only [TF, q1, q4, q5, rdD, ↓reduceIte, Int.reduceToNat]
    refine hJ _ _ ?_; clear hJ J
    refine runOps.part 19 rfl (fun q6 => ?_) (fun q6 => ?_)
    ·
     simp (decide := true) only [TF, q1, q4, q5, q6, rdD, ↓reduceIte, Int.reduceToNat]
     refine CallK.pure (c_r_word c.v (by have := hc.2.2; omega)) rfl rfl (by simp [-List.map_take]) ?_
     simp (decide := true) only [TF, q1, q4, q5, q6, rdD, ↓reduceIte, Int.reduceToNat]
     refine hK _ _ ?_; clear hK K
     refine WP.ret ?_
     exact Ends.pure (.inr rfl) rfl (Le.of_eq (by simp (decide := true) only [St.get, lk, W, possB, numF, q1, q4, q5, q6, ↓reduceIte])) (by simp)
    ·
     simp (decide := true) only [TF, q1, q4, q5, q6, rdD, ↓reduceIte, Int.reduceToNat]
     refine hK _ _ ?_; clear hK K
     refine WP.ret ?_
     exact Ends.pure (.inr rfl) rfl (Le.of_eq (by simp (decide := true) only [St.get, lk, W, possB, numF, q1, q4, q5, q6, ↓reduceIte])) (by simp)
  ·
   refine WP.region (by kernel_rfl) fun K hK => ?_
   simp (decide := true) only [TF, q1, q4, rdD, ↓reduceIte, Int.reduceToNat]
   refine hK _ _ ?_; clear hK K
   show WP _ _ _ _ _ _
   refine WP.cond (b := _) rfl (fun q7 => ?_) (fun q7 => ?_)
   ·
    refine WP.sr [2] (by kernel_rfl) fun K hK => ?_
    refine runOps.take 4 fun J hJ => ?_
    simp (decide := true) only [TF, q1, q4, q7, rdD, ↓reduceIte, Int.reduceToNat]
    refine hJ _ _ ?_; clear hJ J
    refine runOps.part 14 rfl (fun q8 => ?_) (fun q8 => ?_)
    ·
     simp (decide := true) only [TF, q1, q4, q7, q8, rdD, ↓reduceIte, Int.reduceToNat]
     refine CallK.pure (c_r_word c.v (by have := hc.2.2; omega)) rfl rfl (by simp [-List.map_take]) ?_
     simp (decide := true) only [TF, q1, q4, q7, q8, rdD, ↓reduceIte, Int.reduceToNat]
     refine hK _ _ ?_; clear hK K
     refine WP.ret ?_
     exact Ends.pure (.inr rfl) rfl (Le.of_eq (by simp (decide := true) only [St.get, lk, W, possB, numF, q1, q4, q7, q8, ↓reduceIte])) (by simp)
    ·
     refine runOps.take 5 fun J hJ => ?_
     simp (decide := true) only [TF, q1, q4, q7, q8, rdD, ↓reduceIte, Int.reduceToNat]
     refine hJ _ _ ?_; clear hJ J
     refine runOps.part 19 rfl (fun q9 => ?_) (fun q9 => ?_)
     ·
      simp (decide := true) only [TF, q1, q4, q7, q8, q9, rdD, ↓reduceIte, Int.reduceToNat]
      refine CallK.pure (c_r_word c.v (by have := hc.2.2; omega)) rfl rfl (by simp [-List.map_take]) ?_
      simp (decide := true) only [TF, q1, q4, q7, q8, q9, rdD, ↓reduceIte, Int.reduceToNat]
      refine hK _ _ ?_; clear hK K
      refine WP.ret ?_
      exact Ends.pure (.inr rfl) rfl (Le.of_eq (by simp (decide := true) only [St.get, lk, W, possB, numF, q1, q4, q7, q8, q9, ↓reduceIte])) (by simp)
     ·
      simp (decide := true) only [TF, q1, q4, q7, q8, q9, rdD, ↓reduceIte, Int.reduceToNat]
      refine hK _ _ ?_; clear hK K
      refine WP.ret ?_
      exact Ends.pure (.inr rfl) rfl (Le.of_eq (by simp (decide := true) only [St.get, lk, W, possB, numF, q1, q4, q7, q8, q9, ↓reduceIte])) (by simp)
   ·
    refine WP.sr [1, 6, 24] (by kernel_rfl) fun K hK => ?_
    simp (decide := true) only [TF, q1, q4, q7, rdD, ↓reduceIte, Int.reduceToNat]
    refine hK _ _ ?_; clear hK K
    refine WP.cond (b := _) rfl (fun q10 => ?_) (fun q10 => ?_)
    ·
     refine WP.sr [2] (by kernel_rfl) fun K hK => ?_
     refine runOps.take 4 fun J hJ => ?_
     simp (decide := true) only [TF, q1, q4, q7, q10, rdD, ↓reduceIte, Int.reduceToNat]
     refine hJ _ _ ?_; clear hJ J
     refine runOps.part 29 rfl (fun q11 => ?_) (fun q11 => ?_)
     ·
      simp (decide := true) only [TF, q1, q4, q7, q10, q11, rdD, ↓reduceIte, Int.reduceToNat]
      refine CallK.pure (c_r_clean c.v (by have := hc.2.2; omega)) rfl rfl (by simp [-List.map_take]) ?_
      simp (decide := true) only [TF, q1, q4, q7, q10, q11, rdD, ↓reduceIte, Int.reduceToNat]
      refine hK _ _ ?_; clear hK K
      refine WP.ret ?_
      exact Ends.pure (.inr rfl) rfl (Le.of_eq (by simp (decide := true) only [St.get, lk, W, possB, numF, q1, q4, q7, q10, q11, ↓reduceIte])) (by simp)
     ·
      refine runOps.take 5 fun J hJ => ?_
      simp (decide := true) only [TF, q1, q4, q7, q10, q11, rdD, ↓reduceIte, Int.reduceToNat]
      refine hJ _ _ ?_; clear hJ J
      refine runOps.part 34 rfl (fun q12 => ?_) (fun q12 => ?_)
      ·
       simp (decide := true) only [TF, q1, q4, q7, q10, q11, q12, rdD, ↓reduceIte, Int.reduceToNat]
       refine CallK.pure (c_r_clean c.v (by have := hc.2.2; omega)) rfl rfl (by simp [-List.map_take]) ?_
       simp (decide := true) only [TF, q1, q4, q7, q10, q11, q12, rdD, ↓reduceIte, Int.reduceToNat]
       refine hK _ _ ?_; clear hK K
       refine WP.ret ?_
       exact Ends.pure (.inr rfl) rfl (Le.of_eq (by simp (decide := true) only [St.get, lk, W, possB, numF, q1, q4, q7, q10, q11, q12, ↓reduceIte])) (by simp)
      ·
       simp (decide := true) only [TF, q1, q4, q7, q10, q11, q12, rdD, ↓reduceIte, Int.reduceToNat]
       refine hK _ _ ?_; clear hK K
       refine WP.ret ?_
       exact Ends.pure (.inr rfl) rfl (Le.of_eq (by simp (decide := true) only [St.get, lk, W, possB, numF, q1, q4, q7, q10, q11, q12, ↓reduceIte])) (by simp)
    ·
     refine WP.sr [1, 6, 39] (by kernel_rfl) fun K hK => ?_
     simp (decide := true) only [TF, q1, q4, q7, q10, rdD, ↓reduceIte, Int.reduceToNat]
     refine hK _ _ ?_; clear hK K
     refine WP.cond (b := _) rfl (fun q13 => ?_) (fun q13 => ?_)
     ·
      refine WP.sr [2] (by kernel_rfl) fun K hK => ?_
      refine runOps.take 4 fun J hJ => ?_
      simp (decide := true) only [TF, q1, q4, q7, q10, q13, rdD, ↓reduceIte, Int.reduceToNat]
      refine hJ _ _ ?_; clear hJ J
      refine runOps.part 44 rfl (fun q14 => ?_) (fun q14 => ?_)
      ·
       simp (decide := true) only [TF, q1, q4, q7, q10, q13, q14, rdD, ↓reduceIte, Int.reduceToNat]
       refine CallK.pure (c_r_sc_check [c.v] false (by simp) nofun (by have := hc.2.2; simp; omega)) rfl rfl (by simp [-List.map_take]) ?_
       simp (decide := true) only [TF, q1, q4, q7, q10, q13, q14, rdD, ↓reduceIte, Int.reduceToNat]
       refine hK _ _ ?_; clear hK K
       refine WP.ret ?_
       exact Ends.pure (.inr rfl) rfl (Le.of_eq (by simp (decide := true) only [St.get, lk, W, possB, numF, q1, q4, q7, q10, q13, q14, ↓reduceIte])) (by simp)
      ·
       refine runOps.take 5 fun J hJ => ?_
       simp (decide := true) only [TF, q1, q4, q7, q10, q13, q14, rdD, ↓reduceIte, Int.reduceToNat]
       refine hJ _ _ ?_; clear hJ J
       refine runOps.part 49 rfl (fun q15 => ?_) (fun q15 => ?_)
       ·
        simp (decide := true) only [TF, q1, q4, q7, q10, q13, q14, q15, rdD, ↓reduceIte, Int.reduceToNat]
        refine CallK.pure (c_r_sc_check [c.v] false (by simp) nofun (by have := hc.2.2; simp; omega)) rfl rfl (by simp [-List.map_take]) ?_
        simp (decide := true) only [TF, q1, q4, q7, q10, q13, q14, q15, rdD, ↓reduceIte, Int.reduceToNat]
        refine hK _ _ ?_; clear hK K
        refine WP.ret ?_
        exact Ends.pure (.inr rfl) rfl (Le.of_eq (by simp (decide := true) only [St.get, lk, W, possB, numF, q1, q4, q7, q10, q13, q14, q15, ↓reduceIte])) (by simp)
       ·
        simp (decide := true) only [TF, q1, q4, q7, q10, q13, q14, q15, rdD, ↓reduceIte, Int.reduceToNat]
        refine hK _ _ ?_; clear hK K
        refine WP.ret ?_
        exact Ends.pure (.inr rfl) rfl (Le.of_eq (by simp (decide := true) only [St.get, lk, W, possB, numF, q1, q4, q7, q10, q13, q14, q15, ↓reduceIte])) (by simp)
     ·
      refine WP.sr [1, 56] (by kernel_rfl) fun K hK => ?_
      simp (decide := true) only [TF, q1, q4, q7, q10, q13, rdD, ↓reduceIte, Int.reduceToNat]
      refine hK _ _ ?_; clear hK K
      refine WP.cond (b := _) rfl (fun q16 => ?_) (fun q16 => ?_)
      ·
       refine WP.sr [2] (by kernel_rfl) fun K hK => ?_
       refine runOps.take 4 fun J hJ => ?_
       simp (decide := true) only [TF, q1, q4, q7, q10, q13, q16, rdD, ↓reduceIte, Int.reduceToNat]
       refine hJ _ _ ?_; clear hJ J
       refine runOps.part 61 rfl (fun q17 => ?_) (fun q17 => ?_)
       ·
        refine runOps.take 4 fun J hJ => ?_
        simp (decide := true) only [TF, q1, q4, q7, q10, q13, q16, q17, rdD, ↓reduceIte, Int.reduceToNat]
        refine hJ _ _ ?_; clear hJ J
        refine runOps.part 65 rfl (fun q18 => ?_) (fun q18 => ?_)
        ·
         simp (decide := true) only [TF, q1, q4, q7, q10, q13, q16, q17, q18, rdD, ↓reduceIte, Int.reduceToNat]
         refine hK _ _ ?_; clear hK K
         refine WP.ret ?_
         exact Ends.pure (.inr rfl) rfl (Le.of_eq (by simp (decide := true) only [St.get, lk, W, possB, numF, q1, q4, q7, q10, q13, q16, q17, q18, ↓reduceIte])) (by simp)
        ·
         simp (decide := true) only [TF, q1, q4, q7, q10, q13, q16, q17, q18, rdD, ↓reduceIte, Int.reduceToNat]
         refine hK _ _ ?_; clear hK K
         refine WP.ret ?_
         exact Ends.pure (.inr rfl) rfl (Le.of_eq (by simp (decide := true) only [St.get, lk, W, possB, numF, q1, q4, q7, q10, q13, q16, q17, q18, ↓reduceIte])) (by simp)
       ·
        simp (decide := true) only [TF, q1, q4, q7, q10, q13, q16, q17, rdD, ↓reduceIte, Int.reduceToNat]
        refine hK _ _ ?_; clear hK K
        refine WP.ret ?_
        exact Ends.pure (.inr rfl) rfl (Le.of_eq (by simp (decide := true) only [St.get, lk, W, possB, numF, q1, q4, q7, q10, q13, q16, q17, ↓reduceIte])) (by simp)
      ·
       refine WP.skip ?_
       show WP _ _ _ _ _ _
       refine WP.sr [1, 4] (by kernel_rfl) fun K hK => ?_
       simp (decide := true) only [TF, q1, q4, q7, q10, q13, q16, rdD, ↓reduceIte, Int.reduceToNat]
       refine CallK.pure (c_r_readint c.v hc.2.2) rfl rfl (by simp [-List.map_take]) ?_
       simp (decide := true) only [TF, q1, q4, q7, q10, q13, q16, rdD, ↓reduceIte, Int.reduceToNat]
       refine hK _ _ ?_; clear hK K
       refine WP.sr [2] (by kernel_rfl) fun K hK => ?_
       simp (decide := true) only [TF, q1, q4, q7, q10, q13, q16, rdD, ↓reduceIte, Int.reduceToNat]
       refine CallK.pure (c_r_number c.f) rfl rfl (by simp [-List.map_take]) ?_
       refine runOps.take 1 fun J hJ => ?_
       simp (decide := true) only [TF, q1, q4, q7, q10, q13, q16, rdD, ↓reduceIte, Int.reduceToNat]
       refine hJ _ _ ?_; clear hJ J
       refine runOps.part 80 rfl (fun q19 => ?_) (fun q19 => ?_)
       ·
        refine runOps.take 4 fun J hJ => ?_
        simp (decide := true) only [TF, q1, q4, q7, q10, q13, q16, q19, rdD, ↓reduceIte, Int.reduceToNat]
        refine hJ _ _ ?_; clear hJ J
        refine runOps.part 84 rfl (fun q20 => ?_) (fun q20 => ?_)
        ·
         simp (decide := true) only [TF, q1, q4, q7, q10, q13, q16, q19, q20, rdD, ↓reduceIte, Int.reduceToNat]
         refine hK _ _ ?_; clear hK K
         refine WP.ret ?_
         exact Ends.pure (.inr rfl) rfl (Le.of_eq (by simp_all [St.get, lk, W, LN, bne, possB, numF])) (by simp)
        ·
         refine runOps.take 6 fun J hJ => ?_
         simp (decide := true) only [TF, q1, q4, q7, q10, q13, q16, q19, q20, rdD, ↓reduceIte, Int.reduceToNat]
         refine hJ _ _ ?_; clear hJ J
         refine runOps.part 90 rfl (fun q21 => ?_) (fun q21 => ?_)
         ·
          simp (decide := true) only [TF, q1, q4, q7, q10, q13, q16, q19, q20, q21, rdD, ↓reduceIte, Int.reduceToNat]
          refine hK _ _ ?_; clear hK K
          refine WP.ret ?_
          exact Ends.pure (.inr rfl) rfl (Le.of_eq (by simp_all [St.get, lk, W, LN, bne, possB, numF])) (by simp)
         ·
          simp (decide := true) only [TF, q1, q4, q7, q10, q13, q16, q19, q20, q21, rdD, ↓reduceIte, Int.reduceToNat]
          refine hK _ _ ?_; clear hK K
          refine WP.ret ?_
          exact Ends.pure (.inr rfl) rfl (Le.of_eq (by simp (decide := true) only [St.get, lk, W, possB, numF, q1, q4, q7, q10, q13, q16, q19, q20, q21, ↓reduceIte])) (by simp)
       ·
        simp (decide := true) only [TF, q1, q4, q7, q10, q13, q16, q19, rdD, ↓reduceIte, Int.reduceToNat]
        refine hK _ _ ?_; clear hK K
        refine WP.ret ?_
        exact Ends.pure (.inr rfl) rfl (Le.of_eq (by simp_all [St.get, lk, W, LN, bne, possB, numF])) (by simp)
theorem c_pword (f : List UInt8) (r : Req) : CallP Pr 91 [.str f, .agg [.str r.user, .str r.client, .str r.tenant, .slice 1 r.ng (r.groups.map fun x => [.str x]) none, .slice 1 r.ns (r.scopes.map fun x => [.str x]) none, .int .i64 r.risk, .bool r.trusted, .int .i64 r.level, .int .i64 r.auth, .int .i64 r.now]] (.str (wordR f r)) := by
 refine CallP.of_wp Tryz.func91 rfl (by kernel_rfl) Tryz.ntmps91 (by simp) ?_
 simp only [frameOf, Nat.reduceAdd, Nat.zero_add]
 refine WP.sr [0, 3] (by kernel_rfl) fun K hK => ?_
 simp (decide := true) only [TF, ↓reduceIte, Int.reduceToNat]
 refine hK _ _ ?_; clear hK K
 refine WP.seq ?_
 refine WP.sr [3, 5] (by kernel_rfl) fun K hK => ?_
 simp (decide := true) only [TF, ↓reduceIte, Int.reduceToNat]
 refine hK _ _ ?_; clear hK K
 refine WP.block ?_
 refine WP.sr [3, 5, 6] (by kernel_rfl) fun K hK => ?_
 simp (decide := true) only [TF, ↓reduceIte, Int.reduceToNat]
 refine hK _ _ ?_; clear hK K
 refine WP.cond (b := _) rfl (fun q1 => ?_) (fun q1 => ?_)
 ·
  refine WP.sr [4] (by kernel_rfl) fun K hK => ?_
  simp (decide := true) only [TF, q1, ↓reduceIte, Int.reduceToNat]
  refine hK _ _ ?_; clear hK K
  refine WP.ret ?_
  exact Ends.pure (.inr rfl) rfl (Le.of_eq (by simp (decide := true) only [St.get, lk, W, wordR, q1, ↓reduceIte])) (by simp)
 ·
  refine WP.sr [3, 5, 10] (by kernel_rfl) fun K hK => ?_
  simp (decide := true) only [TF, q1, ↓reduceIte, Int.reduceToNat]
  refine hK _ _ ?_; clear hK K
  refine WP.cond (b := _) rfl (fun q2 => ?_) (fun q2 => ?_)
  ·
   refine WP.sr [4] (by kernel_rfl) fun K hK => ?_
   simp (decide := true) only [TF, q1, q2, ↓reduceIte, Int.reduceToNat]
   refine hK _ _ ?_; clear hK K
   refine WP.ret ?_
   exact Ends.pure (.inr rfl) rfl (Le.of_eq (by simp (decide := true) only [St.get, lk, W, wordR, q1, q2, ↓reduceIte])) (by simp)
  ·
   refine WP.sr [3, 14] (by kernel_rfl) fun K hK => ?_
   simp (decide := true) only [TF, q1, q2, ↓reduceIte, Int.reduceToNat]
   refine hK _ _ ?_; clear hK K
   refine WP.cond (b := _) rfl (fun q3 => ?_) (fun q3 => ?_)
   ·
    refine WP.sr [4] (by kernel_rfl) fun K hK => ?_
    simp (decide := true) only [TF, q1, q2, q3, ↓reduceIte, Int.reduceToNat]
    refine hK _ _ ?_; clear hK K
    refine WP.ret ?_
    exact Ends.pure (.inr rfl) rfl (Le.of_eq (by simp (decide := true) only [St.get, lk, W, wordR, q1, q2, q3, ↓reduceIte])) (by simp)
   ·
    refine WP.skip ?_
    show WP _ _ _ _ _ _
    refine WP.seq ?_
    refine WP.sr [19] (by kernel_rfl) fun K hK => ?_
    simp (decide := true) only [TF, q1, q2, q3, ↓reduceIte, Int.reduceToNat]
    refine hK _ _ ?_; clear hK K
    refine WP.cond (b := _) rfl (fun q4 => ?_) (fun q4 => ?_)
    ·
     refine WP.sr [4] (by kernel_rfl) fun K hK => ?_
     simp (decide := true) only [TF, q1, q2, q3, q4, ↓reduceIte, Int.reduceToNat]
     refine hK _ _ ?_; clear hK K
     refine WP.ret ?_
     exact Ends.pure (.inr rfl) rfl (Le.of_eq (by simp (decide := true) only [St.get, lk, W, wordR, q1, q2, q3, q4, ↓reduceIte])) (by simp)
    ·
     refine WP.skip ?_
     show WP _ _ _ _ _ _
     refine WP.sr [4] (by kernel_rfl) fun K hK => ?_
     simp (decide := true) only [TF, q1, q2, q3, q4, ↓reduceIte, Int.reduceToNat]
     refine hK _ _ ?_; clear hK K
     refine WP.ret ?_
     exact Ends.pure (.inr rfl) rfl (Le.of_eq (by simp (decide := true) only [St.get, lk, W, wordR, q1, q2, q3, q4, ↓reduceIte])) (by simp)
theorem c_members (f : List UInt8) (r : Req) : CallP Pr 92 [.str f, .agg [.str r.user, .str r.client, .str r.tenant, .slice 1 r.ng (r.groups.map fun x => [.str x]) none, .slice 1 r.ns (r.scopes.map fun x => [.str x]) none, .int .i64 r.risk, .bool r.trusted, .int .i64 r.level, .int .i64 r.auth, .int .i64 r.now]] (.slice 1 (nmembR f r) ((membR f r).map fun x => [.str x]) none) := by
 refine CallP.of_wp Tryz.func92 rfl (by kernel_rfl) Tryz.ntmps92 (by simp) ?_
 simp only [frameOf, Nat.reduceAdd, Nat.zero_add]
 refine WP.sr [0, 3] (by kernel_rfl) fun K hK => ?_
 simp (decide := true) only [TF, ↓reduceIte, Int.reduceToNat]
 refine hK _ _ ?_; clear hK K
 refine WP.seq ?_
 refine WP.sr [3, 6] (by kernel_rfl) fun K hK => ?_
 simp (decide := true) only [TF, ↓reduceIte, Int.reduceToNat]
 refine hK _ _ ?_; clear hK K
 refine WP.cond (b := _) rfl (fun q1 => ?_) (fun q1 => ?_)
 ·
  refine WP.sr [4] (by kernel_rfl) fun K hK => ?_
  simp (decide := true) only [TF, q1, ↓reduceIte, Int.reduceToNat]
  refine hK _ _ ?_; clear hK K
  refine WP.ret ?_
  exact Ends.pure (.inr rfl) rfl (Le.of_eq (by simp (decide := true) only [St.get, lk, W, membR, nmembR, q1, ↓reduceIte])) (by simp)
 ·
  refine WP.skip ?_
  show WP _ _ _ _ _ _
  refine WP.sr [4] (by kernel_rfl) fun K hK => ?_
  simp (decide := true) only [TF, q1, ↓reduceIte, Int.reduceToNat]
  refine hK _ _ ?_; clear hK K
  refine WP.ret ?_
  exact Ends.pure (.inr rfl) rfl (Le.of_eq (by simp (decide := true) only [St.get, lk, W, membR, nmembR, q1, ↓reduceIte])) (by simp)
theorem c_measure (f : List UInt8) (r : Req) : CallP Pr 93 [.str f, .agg [.str r.user, .str r.client, .str r.tenant, .slice 1 r.ng (r.groups.map fun x => [.str x]) none, .slice 1 r.ns (r.scopes.map fun x => [.str x]) none, .int .i64 r.risk, .bool r.trusted, .int .i64 r.level, .int .i64 r.auth, .int .i64 r.now]] (.int .i64 (measR f r)) := by
 refine CallP.of_wp Tryz.func93 rfl (by kernel_rfl) Tryz.ntmps93 (by simp) ?_
 simp only [frameOf, Nat.reduceAdd, Nat.zero_add]
 refine WP.sr [0, 3] (by kernel_rfl) fun K hK => ?_
 simp (decide := true) only [TF, lim_0, wrap_3600, ↓reduceIte, Int.reduceToNat]
 refine hK _ _ ?_; clear hK K
 refine WP.seq ?_
 refine WP.sr [3, 5] (by kernel_rfl) fun K hK => ?_
 simp (decide := true) only [TF, lim_0, wrap_3600, ↓reduceIte, Int.reduceToNat]
 refine hK _ _ ?_; clear hK K
 refine WP.block ?_
 refine WP.sr [3, 5, 6] (by kernel_rfl) fun K hK => ?_
 simp (decide := true) only [TF, lim_0, wrap_3600, ↓reduceIte, Int.reduceToNat]
 refine hK _ _ ?_; clear hK K
 refine WP.cond (b := _) rfl (fun q1 => ?_) (fun q1 => ?_)
 ·
  refine WP.sr [4] (by kernel_rfl) fun K hK => ?_
  simp (decide := true) only [TF, q1, lim_0, wrap_3600, ↓reduceIte, Int.reduceToNat]
  refine hK _ _ ?_; clear hK K
  refine WP.ret ?_
  exact Ends.pure (.inr rfl) rfl (Le.of_eq (by simp (decide := true) only [St.get, lk, W, measR, q1, ↓reduceIte])) (by simp)
 ·
  refine WP.sr [3, 5, 10] (by kernel_rfl) fun K hK => ?_
  simp (decide := true) only [TF, q1, lim_0, wrap_3600, ↓reduceIte, Int.reduceToNat]
  refine hK _ _ ?_; clear hK K
  refine WP.cond (b := _) rfl (fun q2 => ?_) (fun q2 => ?_)
  ·
   refine WP.sr [4] (by kernel_rfl) fun K hK => ?_
   simp (decide := true) only [TF, q1, q2, lim_0, wrap_3600, ↓reduceIte, Int.reduceToNat]
   refine hK _ _ ?_; clear hK K
   refine WP.ret ?_
   exact Ends.pure (.inr rfl) rfl (Le.of_eq (by simp (decide := true) only [St.get, lk, W, measR, q1, q2, ↓reduceIte])) (by simp)
  ·
   refine WP.sr [3, 14] (by kernel_rfl) fun K hK => ?_
   simp (decide := true) only [TF, q1, q2, lim_0, wrap_3600, ↓reduceIte, Int.reduceToNat]
   refine hK _ _ ?_; clear hK K
   refine WP.cond (b := _) rfl (fun q3 => ?_) (fun q3 => ?_)
   ·
    refine WP.sr [4] (by kernel_rfl) fun K hK => ?_
    simp (decide := true) only [TF, q1, q2, q3, lim_0, wrap_3600, ↓reduceIte, Int.reduceToNat]
    refine CallK.pure (c_clock_add _ _) rfl rfl (by simp [-List.map_take]) ?_
    simp (decide := true) only [TF, q1, q2, q3, lim_0, wrap_3600, ↓reduceIte, Int.reduceToNat]
    refine hK _ _ ?_; clear hK K
    refine WP.ret ?_
    exact Ends.pure (.inr rfl) rfl (Le.of_eq (by simp (decide := true) only [St.get, lk, W, measR, q1, q2, q3, ↓reduceIte])) (by simp)
   ·
    refine WP.skip ?_
    show WP _ _ _ _ _ _
    refine WP.sr [4] (by kernel_rfl) fun K hK => ?_
    simp (decide := true) only [TF, q1, q2, q3, lim_0, wrap_3600, ↓reduceIte, Int.reduceToNat]
    refine CallK.pure (c_clock_sub _ _) rfl rfl (by simp [-List.map_take]) ?_
    simp (decide := true) only [TF, q1, q2, q3, lim_0, wrap_3600, ↓reduceIte, Int.reduceToNat]
    refine hK _ _ ?_; clear hK K
    refine WP.ret ?_
    exact Ends.pure (.inr rfl) rfl (Le.of_eq (by simp (decide := true) only [St.get, lk, W, measR, q1, q2, q3, ↓reduceIte])) (by simp)
theorem c_r_amount (f : List UInt8) (r : Req) : CallP Pr 102 [.str f, .agg [.str r.user, .str r.client, .str r.tenant, .slice 1 r.ng (r.groups.map fun x => [.str x]) none, .slice 1 r.ns (r.scopes.map fun x => [.str x]) none, .int .i64 r.risk, .bool r.trusted, .int .i64 r.level, .int .i64 r.auth, .int .i64 r.now]] (.int .i64 (measR f r)) := by
 refine CallP.of_wp Tryz.func102 rfl (by kernel_rfl) Tryz.ntmps102 (by simp) ?_
 simp only [frameOf, Nat.reduceAdd, Nat.zero_add]
 refine WP.sr [0, 3] (by kernel_rfl) fun K hK => ?_
 simp (decide := true) only [TF, wrap_3600, ↓reduceIte, Int.reduceToNat]
 refine hK _ _ ?_; clear hK K
 refine WP.seq ?_
 refine WP.sr [3, 5] (by kernel_rfl) fun K hK => ?_
 simp (decide := true) only [TF, wrap_3600, ↓reduceIte, Int.reduceToNat]
 refine hK _ _ ?_; clear hK K
 refine WP.block ?_
 refine WP.sr [3, 5, 6] (by kernel_rfl) fun K hK => ?_
 simp (decide := true) only [TF, wrap_3600, ↓reduceIte, Int.reduceToNat]
 refine hK _ _ ?_; clear hK K
 refine WP.cond (b := _) rfl (fun q1 => ?_) (fun q1 => ?_)
 ·
  refine WP.sr [4] (by kernel_rfl) fun K hK => ?_
  simp (decide := true) only [TF, q1, wrap_3600, ↓reduceIte, Int.reduceToNat]
  refine hK _ _ ?_; clear hK K
  refine WP.ret ?_
  exact Ends.pure (.inr rfl) rfl (Le.of_eq (by simp (decide := true) only [St.get, lk, W, measR, q1, ↓reduceIte])) (by simp)
 ·
  refine WP.sr [3, 5, 10] (by kernel_rfl) fun K hK => ?_
  simp (decide := true) only [TF, q1, wrap_3600, ↓reduceIte, Int.reduceToNat]
  refine hK _ _ ?_; clear hK K
  refine WP.cond (b := _) rfl (fun q2 => ?_) (fun q2 => ?_)
  ·
   refine WP.sr [4] (by kernel_rfl) fun K hK => ?_
   simp (decide := true) only [TF, q1, q2, wrap_3600, ↓reduceIte, Int.reduceToNat]
   refine hK _ _ ?_; clear hK K
   refine WP.ret ?_
   exact Ends.pure (.inr rfl) rfl (Le.of_eq (by simp (decide := true) only [St.get, lk, W, measR, q1, q2, ↓reduceIte])) (by simp)
  ·
   refine WP.sr [3, 14] (by kernel_rfl) fun K hK => ?_
   simp (decide := true) only [TF, q1, q2, wrap_3600, ↓reduceIte, Int.reduceToNat]
   refine hK _ _ ?_; clear hK K
   refine WP.cond (b := _) rfl (fun q3 => ?_) (fun q3 => ?_)
   ·
    refine WP.sr [4] (by kernel_rfl) fun K hK => ?_
    simp (decide := true) only [TF, q1, q2, q3, wrap_3600, ↓reduceIte, Int.reduceToNat]
    refine CallK.pure (c_r_limit _) rfl rfl (by simp [-List.map_take]) ?_
    simp (decide := true) only [TF, q1, q2, q3, wrap_3600, ↓reduceIte, Int.reduceToNat]
    refine hK _ _ ?_; clear hK K
    refine WP.ret ?_
    exact Ends.pure (.inr rfl) rfl (Le.of_eq (by simp (decide := true) only [St.get, lk, W, measR, q1, q2, q3, ↓reduceIte])) (by simp)
   ·
    refine WP.skip ?_
    show WP _ _ _ _ _ _
    refine WP.sr [4] (by kernel_rfl) fun K hK => ?_
    simp (decide := true) only [TF, q1, q2, q3, wrap_3600, ↓reduceIte, Int.reduceToNat]
    refine CallK.pure (c_r_clock_sub _ _) rfl rfl (by simp [-List.map_take]) ?_
    simp (decide := true) only [TF, q1, q2, q3, wrap_3600, ↓reduceIte, Int.reduceToNat]
    refine hK _ _ ?_; clear hK K
    refine WP.ret ?_
    exact Ends.pure (.inr rfl) rfl (Le.of_eq (by simp (decide := true) only [St.get, lk, W, measR, q1, q2, q3, ↓reduceIte])) (by simp)
end Go.Proofs

set_option linter.unusedSimpArgs false
set_option linter.unusedVariables false
namespace Go.Proofs
open Go Go.Id
structure Rule where
  name : List UInt8
  deny : Bool
  conds : List Cond
  nc : Bool
  scopes : List (List UInt8)
  ns : Bool
  lvl : Int
  age : Int
def Rule.cs (p : Rule) : List D := [.str p.name, .bool p.deny, .slice 3 p.nc (p.conds.map Cond.cs) none, .slice 1 p.ns (p.scopes.map fun x => [.str x]) none, .int .i64 p.lvl, .int .i64 p.age]
@[simp] theorem clo_cond {S : Nat → Prop} (l : List Cond) : (∀ e ∈ l.map Cond.cs, ∀ d ∈ e, Clo S d) ↔ True := by
  simp only [iff_true]
  intro e he d hd
  simp only [List.mem_map] at he
  obtain ⟨c, _, rfl⟩ := he
  simp only [Cond.cs, List.mem_cons, List.mem_nil_iff, or_false] at hd
  rcases hd with rfl | rfl | rfl <;> simp
@[simp] theorem clo_cs {S : Nat → Prop} (l : List Cond) : (∀ a ∈ l, ∀ d ∈ a.cs, Clo S d) ↔ True := by
  simp only [iff_true]
  intro c _ d hd
  simp only [Cond.cs, List.mem_cons, List.mem_nil_iff, or_false] at hd
  rcases hd with rfl | rfl | rfl <;> simp
@[simp] theorem clo_rs {S : Nat → Prop} (l : List Rule) : (∀ a ∈ l, ∀ d ∈ a.cs, Clo S d) ↔ True := by
  simp only [iff_true]
  intro c _ d hd
  simp only [Rule.cs, List.mem_cons, List.mem_nil_iff, or_false] at hd
  rcases hd with rfl | rfl | rfl | rfl | rfl | rfl <;> simp
/-- Sizes. -/
def Rule.ok0 (p : Rule) : Prop := p.conds.length ≤ 1099511627776 ∧ (p.nc = true → p.conds = []) ∧ p.scopes.length ≤ 1099511627776 ∧ (p.ns = true → p.scopes = [])
def Rule.ok (p : Rule) : Prop := p.ok0 ∧ p.name.length ≤ 1099511627776 ∧ (∀ c ∈ p.conds, c.ok) ∧ (∀ s ∈ p.scopes, s.length ≤ 1099511627776)
theorem wrapBig {k n : Nat} (h : k < n) (hn : n ≤ 9223372036854775807) : IntKind.wrap .i64 ((k : Int) + 1) = ((k + 1 : Nat) : Int) := by
  rw [wrap_i64 (by omega) (by omega)]; rfl
def Rule.big (p : Rule) : Prop := p.conds.length ≤ 9223372036854775807 ∧ (p.nc = true → p.conds = []) ∧ p.scopes.length ≤ 9223372036854775807 ∧ (p.ns = true → p.scopes = [])
def Req.big (r : Req) : Prop := r.groups.length ≤ 9223372036854775807 ∧ (r.ng = true → r.groups = []) ∧ r.scopes.length ≤ 9223372036854775807 ∧ (r.ns = true → r.scopes = [])
theorem memb_len (f : List UInt8) (r : Req) (h : r.ok) : (membR f r).length ≤ 1099511627776 ∧ (nmembR f r = true → membR f r = []) := by
  unfold membR nmembR
  split
  · exact ⟨h.1, h.2.1⟩
  · exact ⟨h.2.2.1, h.2.2.2⟩
end Go.Proofs

set_option linter.unusedSimpArgs false
set_option linter.unusedVariables false
set_option maxRecDepth 10000
namespace Go.Proofs
open Go Go.Id

theorem holds_grp (c : Cond) (r : Req) (hp : possB c = true) (hf : (c.f == [103, 114, 111, 117, 112]) = true) : holdsB c r = (r.groups.contains c.v == (c.op == [105, 115] || c.op == [104, 97, 115])) := by
 have hf' : c.f = [103, 114, 111, 117, 112] := by simpa using hf
 have ho : c.op = [104, 97, 115] ∨ c.op = [108, 97, 99, 107, 115] := by
  simp [possB, hf'] at hp; exact hp.1
 unfold holdsB
 rw [hp]
 rcases ho with ho | ho <;> simp [ho, membR, hf']
theorem holds_scp (c : Cond) (r : Req) (hp : possB c = true) (hf : (c.f == [115, 99, 111, 112, 101]) = true) : holdsB c r = (r.scopes.contains c.v == (c.op == [105, 115] || c.op == [104, 97, 115])) := by
 have hf' : c.f = [115, 99, 111, 112, 101] := by simpa using hf
 have ho : c.op = [104, 97, 115] ∨ c.op = [108, 97, 99, 107, 115] := by
  simp [possB, hf'] at hp; exact hp.1
 unfold holdsB
 rw [hp]
 rcases ho with ho | ho <;> simp [ho, membR, hf']
theorem holds_tru (c : Cond) (r : Req) (hp : possB c = true) (hf : (c.f == [116, 114, 117, 115, 116, 101, 100]) = true) : holdsB c r = (r.trusted == (c.v == [121, 101, 115])) := by
 have hf' : c.f = [116, 114, 117, 115, 116, 101, 100] := by simpa using hf
 simp [possB, hf'] at hp
 unfold holdsB
 have hp' : possB c = true := by simp [possB, hf', hp]
 rw [hp']
 rcases hp.2 with hv | hv <;> cases ht : r.trusted <;> simp [hp.1, hv, wordR, hf', ht]

theorem c_holds (c : Cond) (r : Req) (hc : c.ok) (hr : r.ok) : CallP Pr 55 [.agg [.str c.f, .str c.op, .str c.v], .agg [.str r.user, .str r.client, .str r.tenant, .slice 1 r.ng (r.groups.map fun x => [.str x]) none, .slice 1 r.ns (r.scopes.map fun x => [.str x]) none, .int .i64 r.risk, .bool r.trusted, .int .i64 r.level, .int .i64 r.auth, .int .i64 r.now]] (.bool (holdsB c r)) := by
 have hm := memb_len c.f r hr
 refine CallP.of_wp Tryz.func55 rfl (by kernel_rfl) Tryz.ntmps55 (by simp) ?_
 simp only [frameOf, Nat.reduceAdd, Nat.zero_add]
 refine WP.sr [2, 3] (by kernel_rfl) fun K hK => ?_
 simp (decide := true) only [TF, ↓reduceIte, Int.reduceToNat]
 refine hK _ _ ?_; clear hK K
 refine WP.seq ?_
 refine WP.sr [2, 3, 9] (by kernel_rfl) fun K hK => ?_
 simp (decide := true) only [TF, ↓reduceIte, Int.reduceToNat]
 refine CallK.pure (c_possible c hc) rfl rfl (by simp [-List.map_take]) ?_
 simp (decide := true) only [TF, ↓reduceIte, Int.reduceToNat]
 refine hK _ _ ?_; clear hK K
 refine WP.cond (b := _) rfl (fun q1 => ?_) (fun q1 => ?_)
 ·
  simp only [Bool.not_eq_true', Bool.not_eq_false'] at q1
  refine WP.sr [4] (by kernel_rfl) fun K hK => ?_
  simp (decide := true) only [TF, q1, ↓reduceIte, Int.reduceToNat]
  refine hK _ _ ?_; clear hK K
  refine WP.ret ?_
  exact Ends.pure (.inr rfl) rfl (Le.of_eq (by simp (decide := true) only [St.get, lk, W, holdsB, q1, ↓reduceIte])) (by simp)
 ·
  simp only [Bool.not_eq_true', Bool.not_eq_false'] at q1
  refine WP.skip ?_
  show WP _ _ _ _ _ _
  refine WP.sr [2, 3, 5] (by kernel_rfl) fun K hK => ?_
  simp (decide := true) only [TF, q1, ↓reduceIte, Int.reduceToNat]
  refine CallK.pure (c_number c.v hc.2.2) rfl rfl (by simp [-List.map_take]) ?_
  simp (decide := true) only [TF, q1, ↓reduceIte, Int.reduceToNat]
  refine hK _ _ ?_; clear hK K
  refine WP.seq ?_
  refine WP.sr [2, 3, 5, 17] (by kernel_rfl) fun K hK => ?_
  simp (decide := true) only [TF, q1, ↓reduceIte, Int.reduceToNat]
  refine hK _ _ ?_; clear hK K
  refine WP.block ?_
  refine WP.sr [2, 3, 5, 17, 18] (by kernel_rfl) fun K hK => ?_
  simp (decide := true) only [TF, q1, ↓reduceIte, Int.reduceToNat]
  refine hK _ _ ?_; clear hK K
  refine WP.cond (b := _) rfl (fun q2 => ?_) (fun q2 => ?_)
  ·
   refine WP.sd [4] (by kernel_rfl) (by kernel_rfl) fun K hK => ?_
   simp (decide := true) only [TF, q1, q2, ↓reduceIte, Int.reduceToNat]
   refine CallK.pure (c_pword c.f r) rfl rfl (by simp [-List.map_take]) ?_
   simp (decide := true) only [TF, q1, q2, ↓reduceIte, Int.reduceToNat]
   refine hK _ _ (by kernel_rfl) ?_
   clear hK K
   refine WP.ret ?_
   exact Ends.pure (.inr rfl) rfl (Le.of_eq (by simp (decide := true) only [St.get, lk, W, holdsB, q1, q2, ↓reduceIte])) (by simp)
  ·
   refine WP.sr [2, 3, 5, 17, 27] (by kernel_rfl) fun K hK => ?_
   simp (decide := true) only [TF, q1, q2, ↓reduceIte, Int.reduceToNat]
   refine hK _ _ ?_; clear hK K
   refine WP.cond (b := _) rfl (fun q3 => ?_) (fun q3 => ?_)
   ·
    refine WP.sd [4] (by kernel_rfl) (by kernel_rfl) fun K hK => ?_
    simp (decide := true) only [TF, q1, q2, q3, ↓reduceIte, Int.reduceToNat]
    refine CallK.pure (c_pword c.f r) rfl rfl (by simp [-List.map_take]) ?_
    simp (decide := true) only [TF, q1, q2, q3, ↓reduceIte, Int.reduceToNat]
    refine hK _ _ (by kernel_rfl) ?_
    clear hK K
    refine WP.ret ?_
    exact Ends.pure (.inr rfl) rfl (Le.of_eq (by simp (decide := true) only [St.get, lk, W, holdsB, q1, q2, q3, ↓reduceIte])) (by simp)
   ·
    refine WP.sr [2, 3, 5, 17, 36] (by kernel_rfl) fun K hK => ?_
    simp (decide := true) only [TF, q1, q2, q3, ↓reduceIte, Int.reduceToNat]
    refine hK _ _ ?_; clear hK K
    refine WP.cond (b := _) rfl (fun q4 => ?_) (fun q4 => ?_)
    ·
     refine WP.sd [4] (by kernel_rfl) (by kernel_rfl) fun K hK => ?_
     simp (decide := true) only [TF, q1, q2, q3, q4, ↓reduceIte, Int.reduceToNat]
     refine CallK.pure (c_members c.f r) rfl rfl (by simp [-List.map_take]) ?_
     simp (decide := true) only [TF, q1, q2, q3, q4, ↓reduceIte, Int.reduceToNat]
     refine CallK.pure (c_contains (membR c.f r) (nmembR c.f r) c.v (by omega) hm.2) rfl rfl (by simp [-List.map_take]) ?_
     simp (decide := true) only [TF, q1, q2, q3, q4, ↓reduceIte, Int.reduceToNat]
     refine hK _ _ (by kernel_rfl) ?_
     clear hK K
     refine WP.ret ?_
     exact Ends.pure (.inr rfl) rfl (Le.of_eq (by simp (decide := true) only [St.get, lk, W, holdsB, q1, q2, q3, q4, ↓reduceIte])) (by simp)
    ·
     refine WP.sr [2, 3, 5, 17, 45] (by kernel_rfl) fun K hK => ?_
     simp (decide := true) only [TF, q1, q2, q3, q4, ↓reduceIte, Int.reduceToNat]
     refine hK _ _ ?_; clear hK K
     refine WP.cond (b := _) rfl (fun q5 => ?_) (fun q5 => ?_)
     ·
      refine WP.sd [4] (by kernel_rfl) (by kernel_rfl) fun K hK => ?_
      simp (decide := true) only [TF, q1, q2, q3, q4, q5, ↓reduceIte, Int.reduceToNat]
      refine CallK.pure (c_members c.f r) rfl rfl (by simp [-List.map_take]) ?_
      simp (decide := true) only [TF, q1, q2, q3, q4, q5, ↓reduceIte, Int.reduceToNat]
      refine CallK.pure (c_contains (membR c.f r) (nmembR c.f r) c.v (by omega) hm.2) rfl rfl (by simp [-List.map_take]) ?_
      simp (decide := true) only [TF, q1, q2, q3, q4, q5, ↓reduceIte, Int.reduceToNat]
      refine hK _ _ (by kernel_rfl) ?_
      clear hK K
      refine WP.ret ?_
      exact Ends.pure (.inr rfl) rfl (Le.of_eq (by simp (decide := true) only [St.get, lk, W, holdsB, q1, q2, q3, q4, q5, ↓reduceIte])) (by simp)
     ·
      refine WP.sr [2, 3, 5, 55] (by kernel_rfl) fun K hK => ?_
      simp (decide := true) only [TF, q1, q2, q3, q4, q5, ↓reduceIte, Int.reduceToNat]
      refine hK _ _ ?_; clear hK K
      refine WP.cond (b := _) rfl (fun q6 => ?_) (fun q6 => ?_)
      ·
       refine WP.sr [4] (by kernel_rfl) fun K hK => ?_
       simp (decide := true) only [TF, q1, q2, q3, q4, q5, q6, ↓reduceIte, Int.reduceToNat]
       refine CallK.pure (c_measure c.f r) rfl rfl (by simp [-List.map_take]) ?_
       simp (decide := true) only [TF, q1, q2, q3, q4, q5, q6, ↓reduceIte, Int.reduceToNat]
       refine hK _ _ ?_; clear hK K
       refine WP.ret ?_
       exact Ends.pure (.inr rfl) rfl (Le.of_eq (by simp (decide := true) only [St.get, lk, W, holdsB, q1, q2, q3, q4, q5, q6, ↓reduceIte])) (by simp)
      ·
       refine WP.skip ?_
       show WP _ _ _ _ _ _
       refine WP.sr [4] (by kernel_rfl) fun K hK => ?_
       simp (decide := true) only [TF, q1, q2, q3, q4, q5, q6, ↓reduceIte, Int.reduceToNat]
       refine CallK.pure (c_measure c.f r) rfl rfl (by simp [-List.map_take]) ?_
       simp (decide := true) only [TF, q1, q2, q3, q4, q5, q6, ↓reduceIte, Int.reduceToNat]
       refine hK _ _ ?_; clear hK K
       refine WP.ret ?_
       exact Ends.pure (.inr rfl) rfl (Le.of_eq (by simp (decide := true) only [St.get, lk, W, holdsB, q1, q2, q3, q4, q5, q6, ↓reduceIte])) (by simp)
theorem c_first1 (c : Cond) (r : Req) (hc : c.ok) (hr : r.ok) : CallE Pr 54 [.agg [.str c.f, .str c.op, .str c.v], .ref 1 0] [(1, .box 25 [.str r.user, .str r.client, .str r.tenant, .slice 1 r.ng (r.groups.map fun x => [.str x]) none, .slice 1 r.ns (r.scopes.map fun x => [.str x]) none, .int .i64 r.risk, .bool r.trusted, .int .i64 r.level, .int .i64 r.auth, .int .i64 r.now])] (.bool (!(holdsB c r))) [(1, .box 25 [.str r.user, .str r.client, .str r.tenant, .slice 1 r.ng (r.groups.map fun x => [.str x]) none, .slice 1 r.ns (r.scopes.map fun x => [.str x]) none, .int .i64 r.risk, .bool r.trusted, .int .i64 r.level, .int .i64 r.auth, .int .i64 r.now])] := by
 refine CallE.of_wp Tryz.func54 rfl (by kernel_rfl) Tryz.ntmps54 (by simp) ?_
 simp only [frameOf, Nat.reduceAdd, Nat.zero_add, List.map_cons, List.map_nil]
 refine WP.sr [1, 2] (by kernel_rfl) fun K hK => ?_
 simp (decide := true) only [TF, ↓reduceIte, Int.reduceToNat]
 refine hK _ _ ?_; clear hK K
 refine WP.sr [3] (by kernel_rfl) fun K hK => ?_
 simp (decide := true) only [TF, ↓reduceIte, Int.reduceToNat]
 refine CallK.pure (c_holds c r hc hr) rfl rfl (by simp [-List.map_take]) ?_
 simp (decide := true) only [TF, ↓reduceIte, Int.reduceToNat]
 refine hK _ _ ?_; clear hK K
 refine WP.ret ?_
 refine Ends.imp (.inr rfl) rfl (Le.of_eq (by simp (decide := true) only [St.get, lk, W, ↓reduceIte])) ?_ ?_ ?_
 · simp
 · simp [St.get, lk, W, BClo, W]
 · simp [lk]
theorem c_indexfunc_first (l : List Cond) (nl : Bool) (r : Req) (hn : l.length ≤ 1099511627776) (hnl : nl = true → l = []) (hl : ∀ c ∈ l, c.ok) (hr : r.ok) : CallE Pr 53 [.slice 3 nl (l.map Cond.cs) none, .fn (.func 54) [] [.ref 1 0]] [(1, .box 25 [.str r.user, .str r.client, .str r.tenant, .slice 1 r.ng (r.groups.map fun x => [.str x]) none, .slice 1 r.ns (r.scopes.map fun x => [.str x]) none, .int .i64 r.risk, .bool r.trusted, .int .i64 r.level, .int .i64 r.auth, .int .i64 r.now])] (.int .i64 (firstL r l 0)) [(1, .box 25 [.str r.user, .str r.client, .str r.tenant, .slice 1 r.ng (r.groups.map fun x => [.str x]) none, .slice 1 r.ns (r.scopes.map fun x => [.str x]) none, .int .i64 r.risk, .bool r.trusted, .int .i64 r.level, .int .i64 r.auth, .int .i64 r.now])] := by
 refine CallE.of_wp Tryz.func53 rfl (by kernel_rfl) Tryz.ntmps53 (by simp) ?_
 simp only [frameOf, Nat.reduceAdd, Nat.zero_add, List.map_cons, List.map_nil]
 refine WP.sr [0, 1] (by kernel_rfl) fun K hK => ?_
 simp (decide := true) only [TF, ↓reduceIte, Int.reduceToNat]
 refine hK _ _ ?_; clear hK K
 refine WP.seq ?_
 refine WP.sr [0, 1, 7, 8] (by kernel_rfl) fun K hK => ?_
 simp (decide := true) only [TF, ↓reduceIte, Int.reduceToNat]
 refine hK _ _ ?_; clear hK K
 refine WP.block ?_
 refine WP.lp [0, 1, 7] (X := {k : Nat // k ≤ l.length ∧ firstL r l 0 = firstL r (l.drop k) k}) (fun x => match x with | ⟨(k), _⟩ => [(8, .int .i64 k)]) (fun x => match x with | ⟨(k), _⟩ => [(1, .box 25 [.str r.user, .str r.client, .str r.tenant, .slice 1 r.ng (r.groups.map fun x => [.str x]) none, .slice 1 r.ns (r.scopes.map fun x => [.str x]) none, .int .i64 r.risk, .bool r.trusted, .int .i64 r.level, .int .i64 r.auth, .int .i64 r.now])]) (fun x => match x with | ⟨(k), _⟩ => l.length - k) (by simp (decide := true) only [W, ↓reduceIte, Int.reduceToNat]; rfl) ?_ ⟨(0), ⟨Nat.zero_le _, by simp⟩⟩ ?_
 rotate_left
 · exact Weak.store (by simp [St.get, lk, W, Le.refl, W]) (by simp [lk, W, W]) (by simp [lk, W]) (by simp [BClo, lk]) (by simp [lk])
 rintro ⟨k, hk, hI⟩
 dsimp only
 simp only [List.cons_append, List.nil_append]
 refine WP.sr [0, 1, 7, 8, 9] (by kernel_rfl) fun K hK => ?_
 simp (decide := true) only [TF, hk, ↓reduceIte, Int.reduceToNat]
 refine hK _ _ ?_; clear hK K
 refine WP.seq ?_
 refine WP.cond (b := _) rfl (fun q1 => ?_) (fun q1 => ?_)
 ·
  have hlt := lt_of_q q1
  have hg : (l.map Cond.cs)[k]? = some [.str l[k].f, .str l[k].op, .str l[k].v] := getM hlt
  have hnf := nl_false hnl hlt
  rw [dropE hlt] at hI
  simp only [firstL] at hI
  refine WP.skip ?_
  show WP _ _ _ _ _ _
  refine WP.seq ?_
  refine WP.block ?_
  refine WP.sr [0, 1, 5, 7, 8] (by kernel_rfl) fun K hK => ?_
  simp (decide := true) only [TF, hk, q1, hg, hnf, ↓reduceIte, Int.reduceToNat]
  refine hK _ _ ?_; clear hK K
  refine WP.sr [0, 1, 5, 7, 8, 16] (by kernel_rfl) fun K hK => ?_
  simp (decide := true) only [TF, hk, q1, hg, hnf, ↓reduceIte, Int.reduceToNat]
  refine CallK.imp (c_first1 l[k] r (hl _ (List.getElem_mem hlt)) hr) rfl rfl (by simp [lk, BClo]) (by simp [lk]) (by simp [lk]) ?_
  simp (decide := true) only [TF, hk, q1, hg, hnf, ↓reduceIte, Int.reduceToNat]
  refine hK _ _ ?_; clear hK K
  refine WP.cond (b := _) rfl (fun q2 => ?_) (fun q2 => ?_)
  ·
   refine WP.sr [4] (by kernel_rfl) fun K hK => ?_
   simp (decide := true) only [TF, hk, q1, hg, hnf, q2, ↓reduceIte, Int.reduceToNat]
   refine hK _ _ ?_; clear hK K
   refine WP.ret ?_
   refine Ends.imp (.inr rfl) rfl (Le.of_eq (by simp (decide := true) only [St.get, lk, W, hk, q1, hg, hnf, q2, hI, ↓reduceIte])) ?_ ?_ ?_
   · simp
   · simp [St.get, lk, W, BClo, hk, q1, hg, hnf, q2]
   · simp [lk]
  ·
   refine WP.skip ?_
   show WP _ _ _ _ _ _
   refine WP.region (by kernel_rfl) fun K hK => ?_
   simp (decide := true) only [TF, hk, q1, hg, hnf, q2, ↓reduceIte, Int.reduceToNat]
   refine hK _ _ ?_; clear hK K
   show ∃ y, _ ∧ Weak _ _ _
   refine ⟨⟨k + 1, ?_⟩, ?_, ?_⟩
   · exact ⟨by omega, by first | (simpa [hk, q1, hg, hnf, q2] using hI) | (simp_all; done)⟩
   · dsimp only; omega
   · exact Weak.store (by simp [St.get, lk, W, Le.refl, hk, q1, hg, hnf, q2, wrapS hlt (show l.length ≤ 140737488355328 by omega)]) (by simp [lk, W, hk, q1, hg, hnf, q2, wrapS hlt (show l.length ≤ 140737488355328 by omega)]) (by simp [lk, W]) (by simp [BClo, lk]) (by simp [lk])
 ·
  have hge := ge_of_q q1
  rw [dropN hge] at hI
  simp only [firstL] at hI
  refine WP.exit ?_
  show WP _ _ _ _ _ _
  refine WP.sr [4] (by kernel_rfl) fun K hK => ?_
  simp (decide := true) only [TF, hk, q1, ↓reduceIte, Int.reduceToNat]
  refine hK _ _ ?_; clear hK K
  refine WP.ret ?_
  refine Ends.imp (.inr rfl) rfl (Le.of_eq (by simp (decide := true) only [St.get, lk, W, hk, q1, hI, ↓reduceIte])) ?_ ?_ ?_
  · simp
  · simp [St.get, lk, W, BClo, hk, q1]
  · simp [lk]
theorem c_first (p : Rule) (r : Req) (hp : p.ok) (hr : r.ok) : CallP Pr 26 [.agg [.str p.name, .bool p.deny, .slice 3 p.nc (p.conds.map Cond.cs) none, .slice 1 p.ns (p.scopes.map fun x => [.str x]) none, .int .i64 p.lvl, .int .i64 p.age], .agg [.str r.user, .str r.client, .str r.tenant, .slice 1 r.ng (r.groups.map fun x => [.str x]) none, .slice 1 r.ns (r.scopes.map fun x => [.str x]) none, .int .i64 r.risk, .bool r.trusted, .int .i64 r.level, .int .i64 r.auth, .int .i64 r.now]] (.int .i64 (firstL r p.conds 0)) := by
 refine CallP.of_wp Tryz.func26 rfl (by kernel_rfl) Tryz.ntmps26 (by simp) ?_
 simp only [frameOf, Nat.reduceAdd, Nat.zero_add]
 refine WP.sr [2, 3] (by kernel_rfl) fun K hK => ?_
 simp (decide := true) only [TF, ↓reduceIte, Int.reduceToNat]
 refine hK _ _ ?_; clear hK K
 refine WP.sr [4] (by kernel_rfl) fun K hK => ?_
 simp (decide := true) only [TF, ↓reduceIte, Int.reduceToNat]
 refine CallK.imp (c_indexfunc_first p.conds p.nc r hp.1.1 hp.1.2.1 hp.2.2.1 hr) rfl rfl (by simp [lk, BClo]) (by simp [lk]) (by simp [lk]) ?_
 simp (decide := true) only [TF, ↓reduceIte, Int.reduceToNat]
 refine hK _ _ ?_; clear hK K
 refine WP.ret ?_
 exact Ends.pure (.inr rfl) rfl (Le.of_eq (by simp (decide := true) only [St.get, lk, W, ↓reduceIte])) (by simp)
theorem c_r_holds (c : Cond) (r : Req) (hc : c.ok) (hr : r.ok) : CallP Pr 65 [.agg [.str c.f, .str c.op, .str c.v], .agg [.str r.user, .str r.client, .str r.tenant, .slice 1 r.ng (r.groups.map fun x => [.str x]) none, .slice 1 r.ns (r.scopes.map fun x => [.str x]) none, .int .i64 r.risk, .bool r.trusted, .int .i64 r.level, .int .i64 r.auth, .int .i64 r.now]] (.bool (holdsB c r)) := by
 refine CallP.of_wp Tryz.func65 rfl (by kernel_rfl) Tryz.ntmps65 (by simp) ?_
 simp only [frameOf, Nat.reduceAdd, Nat.zero_add]
 refine WP.sr [2, 3] (by kernel_rfl) fun K hK => ?_
 simp (decide := true) only [TF, rdD, ↓reduceIte, Int.reduceToNat]
 refine hK _ _ ?_; clear hK K
 refine WP.seq ?_
 refine WP.sr [2, 3, 10] (by kernel_rfl) fun K hK => ?_
 simp (decide := true) only [TF, rdD, ↓reduceIte, Int.reduceToNat]
 refine CallK.pure (c_r_possible c hc) rfl rfl (by simp [-List.map_take]) ?_
 simp (decide := true) only [TF, rdD, ↓reduceIte, Int.reduceToNat]
 refine hK _ _ ?_; clear hK K
 refine WP.cond (b := _) rfl (fun q1 => ?_) (fun q1 => ?_)
 ·
  simp only [Bool.not_eq_true', Bool.not_eq_false'] at q1
  refine WP.sr [4] (by kernel_rfl) fun K hK => ?_
  simp (decide := true) only [TF, q1, rdD, ↓reduceIte, Int.reduceToNat]
  refine hK _ _ ?_; clear hK K
  refine WP.ret ?_
  exact Ends.pure (.inr rfl) rfl (Le.of_eq (by simp_all [St.get, lk, W, LN, bne, holdsB, possB, wordR, membR, nmembR])) (by simp)
 ·
  simp only [Bool.not_eq_true', Bool.not_eq_false'] at q1
  refine WP.skip ?_
  show WP _ _ _ _ _ _
  refine WP.sr [2, 3, 5] (by kernel_rfl) fun K hK => ?_
  refine runOps.take 4 fun J hJ => ?_
  simp (decide := true) only [TF, q1, rdD, ↓reduceIte, Int.reduceToNat]
  refine hJ _ _ ?_; clear hJ J
  refine runOps.part 14 rfl (fun q2 => ?_) (fun q2 => ?_)
  ·
   simp (decide := true) only [TF, q1, q2, rdD, ↓reduceIte, Int.reduceToNat]
   refine hK _ _ ?_; clear hK K
   refine WP.seq ?_
   refine WP.sr [2, 3, 5, 20] (by kernel_rfl) fun K hK => ?_
   simp (decide := true) only [TF, q1, q2, rdD, ↓reduceIte, Int.reduceToNat]
   refine hK _ _ ?_; clear hK K
   refine WP.block ?_
   refine WP.sr [2, 3, 5, 20, 21] (by kernel_rfl) fun K hK => ?_
   simp (decide := true) only [TF, q1, q2, rdD, ↓reduceIte, Int.reduceToNat]
   refine hK _ _ ?_; clear hK K
   refine WP.cond (b := _) rfl (fun q3 => ?_) (fun q3 => ?_)
   ·
    refine WP.sr [4] (by kernel_rfl) fun K hK => ?_
    simp (decide := true) only [TF, q1, q2, q3, rdD, ↓reduceIte, Int.reduceToNat]
    refine hK _ _ ?_; clear hK K
    refine WP.ret ?_
    exact Ends.pure (.inr rfl) rfl (Le.of_eq (by simp_all [St.get, lk, W, LN, bne, holdsB, possB, wordR, membR, nmembR])) (by simp)
   ·
    refine WP.sr [2, 3, 5, 20, 30] (by kernel_rfl) fun K hK => ?_
    simp (decide := true) only [TF, q1, q2, q3, rdD, ↓reduceIte, Int.reduceToNat]
    refine hK _ _ ?_; clear hK K
    refine WP.cond (b := _) rfl (fun q4 => ?_) (fun q4 => ?_)
    ·
     refine WP.sr [4] (by kernel_rfl) fun K hK => ?_
     simp (decide := true) only [TF, q1, q2, q3, q4, rdD, ↓reduceIte, Int.reduceToNat]
     refine hK _ _ ?_; clear hK K
     refine WP.ret ?_
     exact Ends.pure (.inr rfl) rfl (Le.of_eq (by simp_all [St.get, lk, W, LN, bne, holdsB, possB, wordR, membR, nmembR])) (by simp)
    ·
     refine WP.sr [2, 3, 5, 20, 39] (by kernel_rfl) fun K hK => ?_
     simp (decide := true) only [TF, q1, q2, q3, q4, rdD, ↓reduceIte, Int.reduceToNat]
     refine hK _ _ ?_; clear hK K
     refine WP.cond (b := _) rfl (fun q5 => ?_) (fun q5 => ?_)
     ·
      refine WP.sr [4] (by kernel_rfl) fun K hK => ?_
      simp (decide := true) only [TF, q1, q2, q3, q4, q5, rdD, ↓reduceIte, Int.reduceToNat]
      refine hK _ _ ?_; clear hK K
      refine WP.ret ?_
      exact Ends.pure (.inr rfl) rfl (Le.of_eq (by simp_all [St.get, lk, W, LN, bne, holdsB, possB, wordR, membR, nmembR])) (by simp)
     ·
      refine WP.sr [2, 3, 5, 20, 48] (by kernel_rfl) fun K hK => ?_
      simp (decide := true) only [TF, q1, q2, q3, q4, q5, rdD, ↓reduceIte, Int.reduceToNat]
      refine hK _ _ ?_; clear hK K
      refine WP.cond (b := _) rfl (fun q6 => ?_) (fun q6 => ?_)
      ·
       have hz := holds_grp c r q1 q6
       refine WP.sr [4] (by kernel_rfl) fun K hK => ?_
       simp (decide := true) only [TF, q1, q2, q3, q4, q5, q6, hz, rdD, ↓reduceIte, Int.reduceToNat]
       refine CallK.pure (c_r_contains r.groups r.ng c.v (by have := hr.1; omega) hr.2.1) rfl rfl (by simp [-List.map_take]) ?_
       simp (decide := true) only [TF, q1, q2, q3, q4, q5, q6, hz, rdD, ↓reduceIte, Int.reduceToNat]
       refine hK _ _ ?_; clear hK K
       refine WP.ret ?_
       exact Ends.pure (.inr rfl) rfl (Le.of_eq (by simp [St.get, lk, W, q1, q2, q3, q4, q5, q6, hz])) (by simp)
      ·
       refine WP.sr [2, 3, 5, 20, 57] (by kernel_rfl) fun K hK => ?_
       simp (decide := true) only [TF, q1, q2, q3, q4, q5, q6, rdD, ↓reduceIte, Int.reduceToNat]
       refine hK _ _ ?_; clear hK K
       refine WP.cond (b := _) rfl (fun q7 => ?_) (fun q7 => ?_)
       ·
        have hz := holds_scp c r q1 q7
        refine WP.sr [4] (by kernel_rfl) fun K hK => ?_
        simp (decide := true) only [TF, q1, q2, q3, q4, q5, q6, q7, hz, rdD, ↓reduceIte, Int.reduceToNat]
        refine CallK.pure (c_r_contains r.scopes r.ns c.v (by have := hr.2.2.1; omega) hr.2.2.2) rfl rfl (by simp [-List.map_take]) ?_
        simp (decide := true) only [TF, q1, q2, q3, q4, q5, q6, q7, hz, rdD, ↓reduceIte, Int.reduceToNat]
        refine hK _ _ ?_; clear hK K
        refine WP.ret ?_
        exact Ends.pure (.inr rfl) rfl (Le.of_eq (by simp [St.get, lk, W, q1, q2, q3, q4, q5, q6, q7, hz])) (by simp)
       ·
        refine WP.sr [2, 3, 66] (by kernel_rfl) fun K hK => ?_
        simp (decide := true) only [TF, q1, q2, q3, q4, q5, q6, q7, rdD, ↓reduceIte, Int.reduceToNat]
        refine hK _ _ ?_; clear hK K
        refine WP.cond (b := _) rfl (fun q8 => ?_) (fun q8 => ?_)
        ·
         have hz := holds_tru c r q1 q8
         refine WP.sr [4] (by kernel_rfl) fun K hK => ?_
         simp (decide := true) only [TF, q1, q2, q3, q4, q5, q6, q7, q8, hz, rdD, ↓reduceIte, Int.reduceToNat]
         refine hK _ _ ?_; clear hK K
         refine WP.ret ?_
         exact Ends.pure (.inr rfl) rfl (Le.of_eq (by simp [St.get, lk, W, q1, q2, q3, q4, q5, q6, q7, q8, hz])) (by simp)
        ·
         refine WP.skip ?_
         show WP _ _ _ _ _ _
         refine WP.sr [2, 3, 6] (by kernel_rfl) fun K hK => ?_
         simp (decide := true) only [TF, q1, q2, q3, q4, q5, q6, q7, q8, rdD, ↓reduceIte, Int.reduceToNat]
         refine CallK.pure (c_r_readint c.v hc.2.2) rfl rfl (by simp [-List.map_take]) ?_
         simp (decide := true) only [TF, q1, q2, q3, q4, q5, q6, q7, q8, rdD, ↓reduceIte, Int.reduceToNat]
         refine hK _ _ ?_; clear hK K
         refine WP.seq ?_
         refine WP.sr [2, 3, 6, 82] (by kernel_rfl) fun K hK => ?_
         simp (decide := true) only [TF, q1, q2, q3, q4, q5, q6, q7, q8, rdD, ↓reduceIte, Int.reduceToNat]
         refine hK _ _ ?_; clear hK K
         refine WP.cond (b := _) rfl (fun q9 => ?_) (fun q9 => ?_)
         ·
          refine WP.sr [4] (by kernel_rfl) fun K hK => ?_
          simp (decide := true) only [TF, q1, q2, q3, q4, q5, q6, q7, q8, q9, rdD, ↓reduceIte, Int.reduceToNat]
          refine CallK.pure (c_r_amount c.f r) rfl rfl (by simp [-List.map_take]) ?_
          simp (decide := true) only [TF, q1, q2, q3, q4, q5, q6, q7, q8, q9, rdD, ↓reduceIte, Int.reduceToNat]
          refine hK _ _ ?_; clear hK K
          refine WP.ret ?_
          exact Ends.pure (.inr rfl) rfl (Le.of_eq (by simp_all [St.get, lk, W, LN, bne, holdsB, possB, wordR, membR, nmembR])) (by simp)
         ·
          refine WP.skip ?_
          show WP _ _ _ _ _ _
          refine WP.sr [4] (by kernel_rfl) fun K hK => ?_
          simp (decide := true) only [TF, q1, q2, q3, q4, q5, q6, q7, q8, q9, rdD, ↓reduceIte, Int.reduceToNat]
          refine CallK.pure (c_r_amount c.f r) rfl rfl (by simp [-List.map_take]) ?_
          simp (decide := true) only [TF, q1, q2, q3, q4, q5, q6, q7, q8, q9, rdD, ↓reduceIte, Int.reduceToNat]
          refine hK _ _ ?_; clear hK K
          refine WP.ret ?_
          exact Ends.pure (.inr rfl) rfl (Le.of_eq (by simp_all [St.get, lk, W, LN, bne, holdsB, possB, wordR, membR, nmembR])) (by simp)
  ·
   simp (decide := true) only [TF, q1, q2, rdD, ↓reduceIte, Int.reduceToNat]
   refine hK _ _ ?_; clear hK K
   refine WP.seq ?_
   refine WP.sr [2, 3, 5, 20] (by kernel_rfl) fun K hK => ?_
   simp (decide := true) only [TF, q1, q2, rdD, ↓reduceIte, Int.reduceToNat]
   refine hK _ _ ?_; clear hK K
   refine WP.block ?_
   refine WP.sr [2, 3, 5, 20, 21] (by kernel_rfl) fun K hK => ?_
   simp (decide := true) only [TF, q1, q2, rdD, ↓reduceIte, Int.reduceToNat]
   refine hK _ _ ?_; clear hK K
   refine WP.cond (b := _) rfl (fun q10 => ?_) (fun q10 => ?_)
   ·
    refine WP.sr [4] (by kernel_rfl) fun K hK => ?_
    simp (decide := true) only [TF, q1, q2, q10, rdD, ↓reduceIte, Int.reduceToNat]
    refine hK _ _ ?_; clear hK K
    refine WP.ret ?_
    exact Ends.pure (.inr rfl) rfl (Le.of_eq (by simp_all [St.get, lk, W, LN, bne, holdsB, possB, wordR, membR, nmembR])) (by simp)
   ·
    refine WP.sr [2, 3, 5, 20, 30] (by kernel_rfl) fun K hK => ?_
    simp (decide := true) only [TF, q1, q2, q10, rdD, ↓reduceIte, Int.reduceToNat]
    refine hK _ _ ?_; clear hK K
    refine WP.cond (b := _) rfl (fun q11 => ?_) (fun q11 => ?_)
    ·
     refine WP.sr [4] (by kernel_rfl) fun K hK => ?_
     simp (decide := true) only [TF, q1, q2, q10, q11, rdD, ↓reduceIte, Int.reduceToNat]
     refine hK _ _ ?_; clear hK K
     refine WP.ret ?_
     exact Ends.pure (.inr rfl) rfl (Le.of_eq (by simp_all [St.get, lk, W, LN, bne, holdsB, possB, wordR, membR, nmembR])) (by simp)
    ·
     refine WP.sr [2, 3, 5, 20, 39] (by kernel_rfl) fun K hK => ?_
     simp (decide := true) only [TF, q1, q2, q10, q11, rdD, ↓reduceIte, Int.reduceToNat]
     refine hK _ _ ?_; clear hK K
     refine WP.cond (b := _) rfl (fun q12 => ?_) (fun q12 => ?_)
     ·
      refine WP.sr [4] (by kernel_rfl) fun K hK => ?_
      simp (decide := true) only [TF, q1, q2, q10, q11, q12, rdD, ↓reduceIte, Int.reduceToNat]
      refine hK _ _ ?_; clear hK K
      refine WP.ret ?_
      exact Ends.pure (.inr rfl) rfl (Le.of_eq (by simp_all [St.get, lk, W, LN, bne, holdsB, possB, wordR, membR, nmembR])) (by simp)
     ·
      refine WP.sr [2, 3, 5, 20, 48] (by kernel_rfl) fun K hK => ?_
      simp (decide := true) only [TF, q1, q2, q10, q11, q12, rdD, ↓reduceIte, Int.reduceToNat]
      refine hK _ _ ?_; clear hK K
      refine WP.cond (b := _) rfl (fun q13 => ?_) (fun q13 => ?_)
      ·
       have hz := holds_grp c r q1 q13
       refine WP.sr [4] (by kernel_rfl) fun K hK => ?_
       simp (decide := true) only [TF, q1, q2, q10, q11, q12, q13, hz, rdD, ↓reduceIte, Int.reduceToNat]
       refine CallK.pure (c_r_contains r.groups r.ng c.v (by have := hr.1; omega) hr.2.1) rfl rfl (by simp [-List.map_take]) ?_
       simp (decide := true) only [TF, q1, q2, q10, q11, q12, q13, hz, rdD, ↓reduceIte, Int.reduceToNat]
       refine hK _ _ ?_; clear hK K
       refine WP.ret ?_
       exact Ends.pure (.inr rfl) rfl (Le.of_eq (by simp [St.get, lk, W, q1, q2, q10, q11, q12, q13, hz])) (by simp)
      ·
       refine WP.sr [2, 3, 5, 20, 57] (by kernel_rfl) fun K hK => ?_
       simp (decide := true) only [TF, q1, q2, q10, q11, q12, q13, rdD, ↓reduceIte, Int.reduceToNat]
       refine hK _ _ ?_; clear hK K
       refine WP.cond (b := _) rfl (fun q14 => ?_) (fun q14 => ?_)
       ·
        have hz := holds_scp c r q1 q14
        refine WP.sr [4] (by kernel_rfl) fun K hK => ?_
        simp (decide := true) only [TF, q1, q2, q10, q11, q12, q13, q14, hz, rdD, ↓reduceIte, Int.reduceToNat]
        refine CallK.pure (c_r_contains r.scopes r.ns c.v (by have := hr.2.2.1; omega) hr.2.2.2) rfl rfl (by simp [-List.map_take]) ?_
        simp (decide := true) only [TF, q1, q2, q10, q11, q12, q13, q14, hz, rdD, ↓reduceIte, Int.reduceToNat]
        refine hK _ _ ?_; clear hK K
        refine WP.ret ?_
        exact Ends.pure (.inr rfl) rfl (Le.of_eq (by simp [St.get, lk, W, q1, q2, q10, q11, q12, q13, q14, hz])) (by simp)
       ·
        refine WP.sr [2, 3, 66] (by kernel_rfl) fun K hK => ?_
        simp (decide := true) only [TF, q1, q2, q10, q11, q12, q13, q14, rdD, ↓reduceIte, Int.reduceToNat]
        refine hK _ _ ?_; clear hK K
        refine WP.cond (b := _) rfl (fun q15 => ?_) (fun q15 => ?_)
        ·
         have hz := holds_tru c r q1 q15
         refine WP.sr [4] (by kernel_rfl) fun K hK => ?_
         simp (decide := true) only [TF, q1, q2, q10, q11, q12, q13, q14, q15, hz, rdD, ↓reduceIte, Int.reduceToNat]
         refine hK _ _ ?_; clear hK K
         refine WP.ret ?_
         exact Ends.pure (.inr rfl) rfl (Le.of_eq (by simp [St.get, lk, W, q1, q2, q10, q11, q12, q13, q14, q15, hz])) (by simp)
        ·
         refine WP.skip ?_
         show WP _ _ _ _ _ _
         refine WP.sr [2, 3, 6] (by kernel_rfl) fun K hK => ?_
         simp (decide := true) only [TF, q1, q2, q10, q11, q12, q13, q14, q15, rdD, ↓reduceIte, Int.reduceToNat]
         refine CallK.pure (c_r_readint c.v hc.2.2) rfl rfl (by simp [-List.map_take]) ?_
         simp (decide := true) only [TF, q1, q2, q10, q11, q12, q13, q14, q15, rdD, ↓reduceIte, Int.reduceToNat]
         refine hK _ _ ?_; clear hK K
         refine WP.seq ?_
         refine WP.sr [2, 3, 6, 82] (by kernel_rfl) fun K hK => ?_
         simp (decide := true) only [TF, q1, q2, q10, q11, q12, q13, q14, q15, rdD, ↓reduceIte, Int.reduceToNat]
         refine hK _ _ ?_; clear hK K
         refine WP.cond (b := _) rfl (fun q16 => ?_) (fun q16 => ?_)
         ·
          refine WP.sr [4] (by kernel_rfl) fun K hK => ?_
          simp (decide := true) only [TF, q1, q2, q10, q11, q12, q13, q14, q15, q16, rdD, ↓reduceIte, Int.reduceToNat]
          refine CallK.pure (c_r_amount c.f r) rfl rfl (by simp [-List.map_take]) ?_
          simp (decide := true) only [TF, q1, q2, q10, q11, q12, q13, q14, q15, q16, rdD, ↓reduceIte, Int.reduceToNat]
          refine hK _ _ ?_; clear hK K
          refine WP.ret ?_
          exact Ends.pure (.inr rfl) rfl (Le.of_eq (by simp_all [St.get, lk, W, LN, bne, holdsB, possB, wordR, membR, nmembR])) (by simp)
         ·
          refine WP.skip ?_
          show WP _ _ _ _ _ _
          refine WP.sr [4] (by kernel_rfl) fun K hK => ?_
          simp (decide := true) only [TF, q1, q2, q10, q11, q12, q13, q14, q15, q16, rdD, ↓reduceIte, Int.reduceToNat]
          refine CallK.pure (c_r_amount c.f r) rfl rfl (by simp [-List.map_take]) ?_
          simp (decide := true) only [TF, q1, q2, q10, q11, q12, q13, q14, q15, q16, rdD, ↓reduceIte, Int.reduceToNat]
          refine hK _ _ ?_; clear hK K
          refine WP.ret ?_
          exact Ends.pure (.inr rfl) rfl (Le.of_eq (by simp_all [St.get, lk, W, LN, bne, holdsB, possB, wordR, membR, nmembR])) (by simp)
theorem c_r_first (p : Rule) (r : Req) (hp : p.ok) (hr : r.ok) : CallP Pr 36 [.agg [.str p.name, .bool p.deny, .slice 3 p.nc (p.conds.map Cond.cs) none, .slice 1 p.ns (p.scopes.map fun x => [.str x]) none, .int .i64 p.lvl, .int .i64 p.age], .agg [.str r.user, .str r.client, .str r.tenant, .slice 1 r.ng (r.groups.map fun x => [.str x]) none, .slice 1 r.ns (r.scopes.map fun x => [.str x]) none, .int .i64 r.risk, .bool r.trusted, .int .i64 r.level, .int .i64 r.auth, .int .i64 r.now]] (.int .i64 (firstL r p.conds 0)) := by
 refine CallP.of_wp Tryz.func36 rfl (by kernel_rfl) Tryz.ntmps36 (by simp) ?_
 simp only [frameOf, Nat.reduceAdd, Nat.zero_add]
 refine WP.sr [2, 3] (by kernel_rfl) fun K hK => ?_
 simp (decide := true) only [TF, ↓reduceIte, Int.reduceToNat]
 refine hK _ _ ?_; clear hK K
 refine WP.seq ?_
 refine WP.sr [2, 3, 5] (by kernel_rfl) fun K hK => ?_
 simp (decide := true) only [TF, ↓reduceIte, Int.reduceToNat]
 refine hK _ _ ?_; clear hK K
 refine WP.block ?_
 refine WP.lp [2, 3] (X := {k : Nat // k ≤ p.conds.length ∧ firstL r p.conds 0 = firstL r (p.conds.drop k) k}) (fun x => match x with | ⟨(k), _⟩ => [(5, .int .i64 k)]) (fun x => match x with | ⟨(k), _⟩ => [(0, .box 44 [.str p.name, .bool p.deny, .slice 3 p.nc (p.conds.map Cond.cs) none, .slice 1 p.ns (p.scopes.map fun x => [.str x]) none, .int .i64 p.lvl, .int .i64 p.age]), (1, .box 25 [.str r.user, .str r.client, .str r.tenant, .slice 1 r.ng (r.groups.map fun x => [.str x]) none, .slice 1 r.ns (r.scopes.map fun x => [.str x]) none, .int .i64 r.risk, .bool r.trusted, .int .i64 r.level, .int .i64 r.auth, .int .i64 r.now])]) (fun x => match x with | ⟨(k), _⟩ => p.conds.length - k) (by simp (decide := true) only [W, ↓reduceIte, Int.reduceToNat]; rfl) ?_ ⟨(0), ⟨Nat.zero_le _, by simp⟩⟩ ?_
 rotate_left
 · exact Weak.store (by simp [St.get, lk, W, Le.refl, W]) (by simp [lk, W, W]) (by simp [lk, W]) (by simp [BClo, lk]) (by simp [lk])
 rintro ⟨k, hk, hI⟩
 dsimp only
 simp only [List.cons_append, List.nil_append]
 refine WP.seq ?_
 refine WP.sr [2, 3, 5, 10] (by kernel_rfl) fun K hK => ?_
 simp (decide := true) only [TF, hk, ↓reduceIte, Int.reduceToNat]
 refine hK _ _ ?_; clear hK K
 refine WP.cond (b := _) rfl (fun q1 => ?_) (fun q1 => ?_)
 ·
  have hlt := lt_of_q q1
  have hg : (p.conds.map Cond.cs)[k]? = some [.str p.conds[k].f, .str p.conds[k].op, .str p.conds[k].v] := getM hlt
  have hnf := nl_false hp.1.2.1 hlt
  rw [dropE hlt] at hI
  simp only [firstL] at hI
  have hp1 := hp.1.1
  refine WP.skip ?_
  show WP _ _ _ _ _ _
  refine WP.seq ?_
  refine WP.block ?_
  refine WP.sd [2, 3, 5, 20] (by kernel_rfl) (by kernel_rfl) fun K hK => ?_
  simp (decide := true) only [TF, hk, q1, hg, hnf, ↓reduceIte, Int.reduceToNat]
  refine CallK.pure (c_r_holds p.conds[k] r (hp.2.2.1 _ (List.getElem_mem hlt)) hr) rfl rfl (by simp [-List.map_take]) ?_
  simp (decide := true) only [TF, hk, q1, hg, hnf, ↓reduceIte, Int.reduceToNat]
  refine hK _ _ (by kernel_rfl) ?_
  clear hK K
  refine WP.cond (b := _) rfl (fun q2 => ?_) (fun q2 => ?_)
  ·
   simp only [Bool.not_eq_true', Bool.not_eq_false'] at q2
   refine WP.sr [4] (by kernel_rfl) fun K hK => ?_
   simp (decide := true) only [TF, hk, q1, hg, hnf, q2, ↓reduceIte, Int.reduceToNat]
   refine hK _ _ ?_; clear hK K
   refine WP.ret ?_
   exact Ends.pure (.inr rfl) rfl (Le.of_eq (by simp (decide := true) only [St.get, lk, W, hk, q1, hg, hnf, q2, hI, ↓reduceIte])) (by simp)
  ·
   simp only [Bool.not_eq_true', Bool.not_eq_false'] at q2
   refine WP.skip ?_
   show WP _ _ _ _ _ _
   refine WP.region (by kernel_rfl) fun K hK => ?_
   simp (decide := true) only [TF, hk, q1, hg, hnf, q2, ↓reduceIte, Int.reduceToNat]
   refine hK _ _ ?_; clear hK K
   show ∃ y, _ ∧ Weak _ _ _
   refine ⟨⟨k + 1, ?_⟩, ?_, ?_⟩
   · exact ⟨by omega, by first | (simpa [hk, q1, hg, hnf, q2] using hI) | (simp_all; done)⟩
   · dsimp only; omega
   · exact Weak.store (by simp [St.get, lk, W, Le.refl, hk, q1, hg, hnf, q2, wrapS hlt (show p.conds.length ≤ 140737488355328 by omega)]) (by simp [lk, W, hk, q1, hg, hnf, q2, wrapS hlt (show p.conds.length ≤ 140737488355328 by omega)]) (by simp [lk, W]) (by simp [BClo, lk]) (by simp [lk])
 ·
  have hge := ge_of_q q1
  rw [dropN hge] at hI
  simp only [firstL] at hI
  refine WP.exit ?_
  show WP _ _ _ _ _ _
  refine WP.sr [4] (by kernel_rfl) fun K hK => ?_
  simp (decide := true) only [TF, hk, q1, ↓reduceIte, Int.reduceToNat]
  refine hK _ _ ?_; clear hK K
  refine WP.ret ?_
  exact Ends.pure (.inr rfl) rfl (Le.of_eq (by simp (decide := true) only [St.get, lk, W, hk, q1, hI, ↓reduceIte])) (by simp)
end Go.Proofs

set_option linter.unusedSimpArgs false
set_option linter.unusedVariables false
namespace Go.Proofs
open Go Go.Id
def ixP {α : Type} (p : α → Bool) : List α → Int → Int
  | [], _ => -1
  | x :: l, i => if p x then i else ixP p l (i + 1)
theorem ixP_any {α : Type} (p : α → Bool) : ∀ (l : List α) (i : Int), 0 ≤ i → decide (ixP p l i ≥ 0) = l.any p
  | [], i, _ => by simp [ixP]
  | x :: l, i, hi => by
    have ih := ixP_any p l (i + 1) (by omega)
    by_cases h : p x = true
    · have e : ixP p (x :: l) i = i := by simp [ixP, h]
      simp only [e, List.any_cons, h, Bool.true_or]; simp; omega
    · have e : ixP p (x :: l) i = ixP p l (i + 1) := by simp [ixP, h]
      simp only [e, ih, List.any_cons]; simp [h]
theorem ixP_any0 {α : Type} (p : α → Bool) (l : List α) : decide (0 ≤ ixP p l 0) = l.any p := ixP_any p l 0 (Int.le_refl 0)
def badSc (s : List (List UInt8)) : Bool := (scopeE s != 0) || s.contains [108, 101, 118, 101, 108] || s.contains [97, 103, 101]
def ruleErrB (p : Rule) : Int :=
  if decide ((p.conds.length : Int) > 8) = true then 3
  else if p.conds.any (fun c => !possB c) = true then 4
  else if (p.deny && (decide ((p.scopes.length : Int) > 0) || p.lvl != 0 || p.age != 0)) = true then 2
  else if p.deny = true then 0
  else if ((p.scopes.length : Int) == 0) = true then 6
  else if badSc p.scopes = true then 19
  else if (decide (p.lvl < 0) || decide (p.lvl > 3) || decide (p.age < 0)) = true then 27 else 0
def ruleAt (seen : List Rule) (p : Rule) : Int :=
  if (!wordB p.name) = true then 5 else if seen.any (fun q => q.name == p.name) = true then 7 else ruleErrB p
def chkL (seen : List Rule) : List Rule → Int
  | [] => 0
  | p :: t => if (ruleAt seen p != 0) = true then ruleAt seen p else chkL (seen ++ [p]) t
def checkE (l : List Rule) : Int := if decide ((l.length : Int) > 64) = true then 3 else chkL [] l
end Go.Proofs

set_option linter.unusedSimpArgs false
set_option linter.unusedVariables false
set_option maxRecDepth 10000
namespace Go.Proofs
open Go Go.Id

theorem c_odd (c : Cond) (hc : c.ok) : CallP Pr 86 [.agg [.str c.f, .str c.op, .str c.v]] (.bool (!(possB c))) := by
 refine CallP.of_wp Tryz.func86 rfl (by kernel_rfl) Tryz.ntmps86 (by simp) ?_
 simp only [frameOf, Nat.reduceAdd, Nat.zero_add]
 refine WP.sr [1] (by kernel_rfl) fun K hK => ?_
 simp (decide := true) only [TF, ↓reduceIte, Int.reduceToNat]
 refine hK _ _ ?_; clear hK K
 refine WP.sr [2] (by kernel_rfl) fun K hK => ?_
 simp (decide := true) only [TF, ↓reduceIte, Int.reduceToNat]
 refine CallK.pure (c_possible c hc) rfl rfl (by simp [-List.map_take]) ?_
 simp (decide := true) only [TF, ↓reduceIte, Int.reduceToNat]
 refine hK _ _ ?_; clear hK K
 refine WP.ret ?_
 exact Ends.pure (.inr rfl) rfl (Le.of_eq (by simp (decide := true) only [St.get, lk, W, ↓reduceIte])) (by simp)
theorem c_indexfunc_odd (l : List Cond) (nl : Bool) (hn : l.length ≤ 1099511627776) (hnl : nl = true → l = []) (hl : ∀ c ∈ l, c.ok) : CallP Pr 53 [.slice 3 nl (l.map Cond.cs) none, .fn (.func 86) [] []] (.int .i64 (ixP (fun c => !(possB c)) l 0)) := by
 refine CallP.of_wp Tryz.func53 rfl (by kernel_rfl) Tryz.ntmps53 (by simp) ?_
 simp only [frameOf, Nat.reduceAdd, Nat.zero_add]
 refine WP.sr [0, 1] (by kernel_rfl) fun K hK => ?_
 simp (decide := true) only [TF, ↓reduceIte, Int.reduceToNat]
 refine hK _ _ ?_; clear hK K
 refine WP.seq ?_
 refine WP.sr [0, 1, 7, 8] (by kernel_rfl) fun K hK => ?_
 simp (decide := true) only [TF, ↓reduceIte, Int.reduceToNat]
 refine hK _ _ ?_; clear hK K
 refine WP.block ?_
 refine WP.lp [0, 1, 7] (X := {k : Nat // k ≤ l.length ∧ ixP (fun c => !(possB c)) l 0 = ixP (fun c => !(possB c)) (l.drop k) k}) (fun x => match x with | ⟨(k), _⟩ => [(8, .int .i64 k)]) (fun x => match x with | ⟨(k), _⟩ => []) (fun x => match x with | ⟨(k), _⟩ => l.length - k) (by simp (decide := true) only [W, ↓reduceIte, Int.reduceToNat]; rfl) ?_ ⟨(0), ⟨Nat.zero_le _, by simp⟩⟩ ?_
 rotate_left
 · exact Weak.store (by simp [St.get, lk, W, Le.refl, W]) (by simp [lk, W, W]) (by simp [lk, W]) (by simp [BClo, lk]) (by simp [lk])
 rintro ⟨k, hk, hI⟩
 dsimp only
 simp only [List.cons_append, List.nil_append]
 refine WP.sr [0, 1, 7, 8, 9] (by kernel_rfl) fun K hK => ?_
 simp (decide := true) only [TF, hk, ↓reduceIte, Int.reduceToNat]
 refine hK _ _ ?_; clear hK K
 refine WP.seq ?_
 refine WP.cond (b := _) rfl (fun q1 => ?_) (fun q1 => ?_)
 ·
  have hlt := lt_of_q q1
  have hg : (l.map Cond.cs)[k]? = some [.str l[k].f, .str l[k].op, .str l[k].v] := getM hlt
  have hnf := nl_false hnl hlt
  rw [dropE hlt] at hI
  simp only [ixP] at hI
  refine WP.skip ?_
  show WP _ _ _ _ _ _
  refine WP.seq ?_
  refine WP.block ?_
  refine WP.sr [0, 1, 5, 7, 8] (by kernel_rfl) fun K hK => ?_
  simp (decide := true) only [TF, hk, q1, hg, hnf, ↓reduceIte, Int.reduceToNat]
  refine hK _ _ ?_; clear hK K
  refine WP.sr [0, 1, 5, 7, 8, 16] (by kernel_rfl) fun K hK => ?_
  simp (decide := true) only [TF, hk, q1, hg, hnf, ↓reduceIte, Int.reduceToNat]
  refine CallK.pure (c_odd l[k] (hl _ (List.getElem_mem hlt))) rfl rfl (by simp [-List.map_take]) ?_
  simp (decide := true) only [TF, hk, q1, hg, hnf, ↓reduceIte, Int.reduceToNat]
  refine hK _ _ ?_; clear hK K
  refine WP.cond (b := _) rfl (fun q2 => ?_) (fun q2 => ?_)
  ·
   refine WP.sr [4] (by kernel_rfl) fun K hK => ?_
   simp (decide := true) only [TF, hk, q1, hg, hnf, q2, ↓reduceIte, Int.reduceToNat]
   refine hK _ _ ?_; clear hK K
   refine WP.ret ?_
   exact Ends.pure (.inr rfl) rfl (Le.of_eq (by simp (decide := true) only [St.get, lk, W, hk, q1, hg, hnf, q2, hI, ↓reduceIte])) (by simp)
  ·
   refine WP.skip ?_
   show WP _ _ _ _ _ _
   refine WP.region (by kernel_rfl) fun K hK => ?_
   simp (decide := true) only [TF, hk, q1, hg, hnf, q2, ↓reduceIte, Int.reduceToNat]
   refine hK _ _ ?_; clear hK K
   show ∃ y, _ ∧ Weak _ _ _
   refine ⟨⟨k + 1, ?_⟩, ?_, ?_⟩
   · exact ⟨by omega, by first | (simpa [hk, q1, hg, hnf, q2] using hI) | (simp_all; done)⟩
   · dsimp only; omega
   · exact Weak.store (by simp [St.get, lk, W, Le.refl, hk, q1, hg, hnf, q2, wrapS hlt (show l.length ≤ 140737488355328 by omega)]) (by simp [lk, W, hk, q1, hg, hnf, q2, wrapS hlt (show l.length ≤ 140737488355328 by omega)]) (by simp [lk, W]) (by simp [BClo, lk]) (by simp [lk])
 ·
  have hge := ge_of_q q1
  rw [dropN hge] at hI
  simp only [ixP] at hI
  refine WP.exit ?_
  show WP _ _ _ _ _ _
  refine WP.sr [4] (by kernel_rfl) fun K hK => ?_
  simp (decide := true) only [TF, hk, q1, ↓reduceIte, Int.reduceToNat]
  refine hK _ _ ?_; clear hK K
  refine WP.ret ?_
  exact Ends.pure (.inr rfl) rfl (Le.of_eq (by simp (decide := true) only [St.get, lk, W, hk, q1, hI, ↓reduceIte])) (by simp)
theorem c_contfunc_odd (l : List Cond) (nl : Bool) (hn : l.length ≤ 1099511627776) (hnl : nl = true → l = []) (hl : ∀ c ∈ l, c.ok) : CallP Pr 88 [.slice 3 nl (l.map Cond.cs) none, .fn (.func 86) [] []] (.bool (l.any fun c => !(possB c))) := by
 refine CallP.of_wp Tryz.func88 rfl (by kernel_rfl) Tryz.ntmps88 (by simp) ?_
 simp only [frameOf, Nat.reduceAdd, Nat.zero_add]
 refine WP.sr [0, 1] (by kernel_rfl) fun K hK => ?_
 simp (decide := true) only [TF, ↓reduceIte, Int.reduceToNat]
 refine hK _ _ ?_; clear hK K
 refine WP.sr [4] (by kernel_rfl) fun K hK => ?_
 simp (decide := true) only [TF, ↓reduceIte, Int.reduceToNat]
 refine CallK.pure (c_indexfunc_odd l nl hn hnl hl) rfl rfl (by simp [-List.map_take]) ?_
 simp (decide := true) only [TF, ↓reduceIte, Int.reduceToNat]
 refine hK _ _ ?_; clear hK K
 refine WP.ret ?_
 exact Ends.pure (.inr rfl) rfl (Le.of_eq (by simp (decide := true) only [St.get, lk, W, ixP_any0, ↓reduceIte])) (by simp)
theorem c_ruleerr (p : Rule) (hp : p.ok) : CallP Pr 52 [.agg [.str p.name, .bool p.deny, .slice 3 p.nc (p.conds.map Cond.cs) none, .slice 1 p.ns (p.scopes.map fun x => [.str x]) none, .int .i64 p.lvl, .int .i64 p.age]] (.int .i64 (ruleErrB p)) := by
 refine CallP.of_wp Tryz.func52 rfl (by kernel_rfl) Tryz.ntmps52 (by simp) ?_
 simp only [frameOf, Nat.reduceAdd, Nat.zero_add]
 refine WP.sr [1] (by kernel_rfl) fun K hK => ?_
 simp (decide := true) only [TF, ↓reduceIte, Int.reduceToNat]
 refine hK _ _ ?_; clear hK K
 refine WP.sr [1, 3] (by kernel_rfl) fun K hK => ?_
 simp (decide := true) only [TF, ↓reduceIte, Int.reduceToNat]
 refine hK _ _ ?_; clear hK K
 refine WP.seq ?_
 refine WP.block ?_
 refine WP.sr [1, 3, 4] (by kernel_rfl) fun K hK => ?_
 simp (decide := true) only [TF, ↓reduceIte, Int.reduceToNat]
 refine hK _ _ ?_; clear hK K
 refine WP.cond (b := _) rfl (fun q1 => ?_) (fun q1 => ?_)
 ·
  refine WP.sr [2] (by kernel_rfl) fun K hK => ?_
  simp (decide := true) only [TF, q1, ↓reduceIte, Int.reduceToNat]
  refine hK _ _ ?_; clear hK K
  refine WP.ret ?_
  exact Ends.pure (.inr rfl) rfl (Le.of_eq (by simp (decide := true) only [St.get, lk, W, ruleErrB, badSc, q1, ↓reduceIte])) (by simp)
 ·
  refine WP.sr [1, 9] (by kernel_rfl) fun K hK => ?_
  simp (decide := true) only [TF, q1, ↓reduceIte, Int.reduceToNat]
  refine CallK.pure (c_contfunc_odd p.conds p.nc hp.1.1 hp.1.2.1 hp.2.2.1) rfl rfl (by simp [-List.map_take]) ?_
  simp (decide := true) only [TF, q1, ↓reduceIte, Int.reduceToNat]
  refine hK _ _ ?_; clear hK K
  refine WP.cond (b := _) rfl (fun q2 => ?_) (fun q2 => ?_)
  ·
   refine WP.sr [2] (by kernel_rfl) fun K hK => ?_
   simp (decide := true) only [TF, q1, q2, ↓reduceIte, Int.reduceToNat]
   refine hK _ _ ?_; clear hK K
   refine WP.ret ?_
   exact Ends.pure (.inr rfl) rfl (Le.of_eq (by simp (decide := true) only [St.get, lk, W, ruleErrB, badSc, q1, q2, ↓reduceIte])) (by simp)
  ·
   refine WP.sr [1, 14] (by kernel_rfl) fun K hK => ?_
   refine runOps.take 3 fun J hJ => ?_
   simp (decide := true) only [TF, q1, q2, ↓reduceIte, Int.reduceToNat]
   refine hJ _ _ ?_; clear hJ J
   refine runOps.part 17 rfl (fun q3 => ?_) (fun q3 => ?_)
   ·
    refine runOps.take 5 fun J hJ => ?_
    simp (decide := true) only [TF, q1, q2, q3, ↓reduceIte, Int.reduceToNat]
    refine hJ _ _ ?_; clear hJ J
    refine runOps.part 22 rfl (fun q4 => ?_) (fun q4 => ?_)
    ·
     simp (decide := true) only [TF, q1, q2, q3, q4, ↓reduceIte, Int.reduceToNat]
     refine hK _ _ ?_; clear hK K
     refine WP.cond (b := true) (by rfl) (fun _ => ?_) nofun
     refine WP.sr [2] (by kernel_rfl) fun K hK => ?_
     simp (decide := true) only [TF, q1, q2, q3, q4, ↓reduceIte, Int.reduceToNat]
     refine hK _ _ ?_; clear hK K
     refine WP.ret ?_
     exact Ends.pure (.inr rfl) rfl (Le.of_eq (by simp (decide := true) only [St.get, lk, W, ruleErrB, badSc, q1, q2, q3, q4, ↓reduceIte])) (by simp)
    ·
     refine runOps.take 5 fun J hJ => ?_
     simp (decide := true) only [TF, q1, q2, q3, q4, ↓reduceIte, Int.reduceToNat]
     refine hJ _ _ ?_; clear hJ J
     refine runOps.part 27 rfl (fun q5 => ?_) (fun q5 => ?_)
     ·
      simp (decide := true) only [TF, q1, q2, q3, q4, q5, ↓reduceIte, Int.reduceToNat]
      refine hK _ _ ?_; clear hK K
      refine WP.cond (b := true) (by rfl) (fun _ => ?_) nofun
      refine WP.sr [2] (by kernel_rfl) fun K hK => ?_
      simp (decide := true) only [TF, q1, q2, q3, q4, q5, ↓reduceIte, Int.reduceToNat]
      refine hK _ _ ?_; clear hK K
      refine WP.ret ?_
      exact Ends.pure (.inr rfl) rfl (Le.of_eq (by simp (decide := true) only [St.get, lk, W, ruleErrB, badSc, q1, q2, q3, q4, q5, ↓reduceIte])) (by simp)
     ·
      simp (decide := true) only [TF, q1, q2, q3, q4, q5, ↓reduceIte, Int.reduceToNat]
      refine hK _ _ ?_; clear hK K
      refine WP.cond (b := _) rfl (fun q6 => ?_) (fun q6 => ?_)
      ·
       refine WP.sr [2] (by kernel_rfl) fun K hK => ?_
       simp (decide := true) only [TF, q1, q2, q3, q4, q5, q6, ↓reduceIte, Int.reduceToNat]
       refine hK _ _ ?_; clear hK K
       refine WP.ret ?_
       exact Ends.pure (.inr rfl) rfl (Le.of_eq (by simp (decide := true) only [St.get, lk, W, ruleErrB, badSc, q1, q2, q3, q4, q5, q6, ↓reduceIte])) (by simp)
      ·
       refine WP.sr [1, 33] (by kernel_rfl) fun K hK => ?_
       simp (decide := true) only [TF, q1, q2, q3, q4, q5, q6, ↓reduceIte, Int.reduceToNat]
       refine hK _ _ ?_; clear hK K
       refine WP.cond (b := true) (by rfl) (fun _ => ?_) nofun
       refine WP.sr [2] (by kernel_rfl) fun K hK => ?_
       simp (decide := true) only [TF, q1, q2, q3, q4, q5, q6, ↓reduceIte, Int.reduceToNat]
       refine hK _ _ ?_; clear hK K
       refine WP.ret ?_
       exact Ends.pure (.inr rfl) rfl (Le.of_eq (by simp (decide := true) only [St.get, lk, W, ruleErrB, badSc, q1, q2, q3, q4, q5, q6, ↓reduceIte])) (by simp)
   ·
    simp (decide := true) only [TF, q1, q2, q3, ↓reduceIte, Int.reduceToNat]
    refine hK _ _ ?_; clear hK K
    refine WP.cond (b := false) (by rfl) nofun (fun _ => ?_)
    refine WP.sr [1, 33] (by kernel_rfl) fun K hK => ?_
    simp (decide := true) only [TF, q1, q2, q3, ↓reduceIte, Int.reduceToNat]
    refine hK _ _ ?_; clear hK K
    refine WP.cond (b := false) (by rfl) nofun (fun _ => ?_)
    refine WP.sr [1, 36] (by kernel_rfl) fun K hK => ?_
    simp (decide := true) only [TF, q1, q2, q3, ↓reduceIte, Int.reduceToNat]
    refine hK _ _ ?_; clear hK K
    refine WP.cond (b := _) rfl (fun q7 => ?_) (fun q7 => ?_)
    ·
     refine WP.sr [2] (by kernel_rfl) fun K hK => ?_
     simp (decide := true) only [TF, q1, q2, q3, q7, ↓reduceIte, Int.reduceToNat]
     refine hK _ _ ?_; clear hK K
     refine WP.ret ?_
     exact Ends.pure (.inr rfl) rfl (Le.of_eq (by simp (decide := true) only [St.get, lk, W, ruleErrB, badSc, q1, q2, q3, q7, ↓reduceIte])) (by simp)
    ·
     refine WP.sr [1, 41] (by kernel_rfl) fun K hK => ?_
     simp (decide := true) only [TF, q1, q2, q3, q7, ↓reduceIte, Int.reduceToNat]
     refine CallK.pure (c_sc_check p.scopes p.ns (by have := hp.1.2.2.1; omega) hp.1.2.2.2 (fun x hx => by have := hp.2.2.2 x hx; omega)) rfl rfl (by simp [-List.map_take]) ?_
     refine runOps.take 2 fun J hJ => ?_
     simp (decide := true) only [TF, q1, q2, q3, q7, ↓reduceIte, Int.reduceToNat]
     refine hJ _ _ ?_; clear hJ J
     refine runOps.part 46 rfl (fun q8 => ?_) (fun q8 => ?_)
     ·
      simp (decide := true) only [TF, q1, q2, q3, q7, q8, ↓reduceIte, Int.reduceToNat]
      refine hK _ _ ?_; clear hK K
      refine WP.cond (b := true) (by rfl) (fun _ => ?_) nofun
      refine WP.sr [2] (by kernel_rfl) fun K hK => ?_
      simp (decide := true) only [TF, q1, q2, q3, q7, q8, ↓reduceIte, Int.reduceToNat]
      refine hK _ _ ?_; clear hK K
      refine WP.ret ?_
      exact Ends.pure (.inr rfl) rfl (Le.of_eq (by simp (decide := true) only [St.get, lk, W, ruleErrB, badSc, q1, q2, q3, q7, q8, ↓reduceIte])) (by simp)
     ·
      simp (decide := true) only [TF, q1, q2, q3, q7, q8, ↓reduceIte, Int.reduceToNat]
      refine CallK.pure (c_contains p.scopes p.ns _ (by have := hp.1.2.2.1; omega) hp.1.2.2.2) rfl rfl (by simp [-List.map_take]) ?_
      refine runOps.take 2 fun J hJ => ?_
      simp (decide := true) only [TF, q1, q2, q3, q7, q8, ↓reduceIte, Int.reduceToNat]
      refine hJ _ _ ?_; clear hJ J
      refine runOps.part 51 rfl (fun q9 => ?_) (fun q9 => ?_)
      ·
       simp (decide := true) only [TF, q1, q2, q3, q7, q8, q9, ↓reduceIte, Int.reduceToNat]
       refine hK _ _ ?_; clear hK K
       refine WP.cond (b := true) (by rfl) (fun _ => ?_) nofun
       refine WP.sr [2] (by kernel_rfl) fun K hK => ?_
       simp (decide := true) only [TF, q1, q2, q3, q7, q8, q9, ↓reduceIte, Int.reduceToNat]
       refine hK _ _ ?_; clear hK K
       refine WP.ret ?_
       exact Ends.pure (.inr rfl) rfl (Le.of_eq (by simp (decide := true) only [St.get, lk, W, ruleErrB, badSc, q1, q2, q3, q7, q8, q9, ↓reduceIte])) (by simp)
      ·
       simp (decide := true) only [TF, q1, q2, q3, q7, q8, q9, ↓reduceIte, Int.reduceToNat]
       refine CallK.pure (c_contains p.scopes p.ns _ (by have := hp.1.2.2.1; omega) hp.1.2.2.2) rfl rfl (by simp [-List.map_take]) ?_
       simp (decide := true) only [TF, q1, q2, q3, q7, q8, q9, ↓reduceIte, Int.reduceToNat]
       refine hK _ _ ?_; clear hK K
       refine WP.cond (b := _) rfl (fun q10 => ?_) (fun q10 => ?_)
       ·
        refine WP.sr [2] (by kernel_rfl) fun K hK => ?_
        simp (decide := true) only [TF, q1, q2, q3, q7, q8, q9, q10, ↓reduceIte, Int.reduceToNat]
        refine hK _ _ ?_; clear hK K
        refine WP.ret ?_
        exact Ends.pure (.inr rfl) rfl (Le.of_eq (by simp (decide := true) only [St.get, lk, W, ruleErrB, badSc, q1, q2, q3, q7, q8, q9, q10, ↓reduceIte])) (by simp)
       ·
        refine WP.sr [56] (by kernel_rfl) fun K hK => ?_
        refine runOps.take 4 fun J hJ => ?_
        simp (decide := true) only [TF, q1, q2, q3, q7, q8, q9, q10, ↓reduceIte, Int.reduceToNat]
        refine hJ _ _ ?_; clear hJ J
        refine runOps.part 60 rfl (fun q11 => ?_) (fun q11 => ?_)
        ·
         simp (decide := true) only [TF, q1, q2, q3, q7, q8, q9, q10, q11, ↓reduceIte, Int.reduceToNat]
         refine hK _ _ ?_; clear hK K
         refine WP.cond (b := true) (by rfl) (fun _ => ?_) nofun
         refine WP.sr [2] (by kernel_rfl) fun K hK => ?_
         simp (decide := true) only [TF, q1, q2, q3, q7, q8, q9, q10, q11, ↓reduceIte, Int.reduceToNat]
         refine hK _ _ ?_; clear hK K
         refine WP.ret ?_
         exact Ends.pure (.inr rfl) rfl (Le.of_eq (by simp (decide := true) only [St.get, lk, W, ruleErrB, badSc, q1, q2, q3, q7, q8, q9, q10, q11, ↓reduceIte])) (by simp)
        ·
         refine runOps.take 5 fun J hJ => ?_
         simp (decide := true) only [TF, q1, q2, q3, q7, q8, q9, q10, q11, ↓reduceIte, Int.reduceToNat]
         refine hJ _ _ ?_; clear hJ J
         refine runOps.part 65 rfl (fun q12 => ?_) (fun q12 => ?_)
         ·
          simp (decide := true) only [TF, q1, q2, q3, q7, q8, q9, q10, q11, q12, ↓reduceIte, Int.reduceToNat]
          refine hK _ _ ?_; clear hK K
          refine WP.cond (b := true) (by rfl) (fun _ => ?_) nofun
          refine WP.sr [2] (by kernel_rfl) fun K hK => ?_
          simp (decide := true) only [TF, q1, q2, q3, q7, q8, q9, q10, q11, q12, ↓reduceIte, Int.reduceToNat]
          refine hK _ _ ?_; clear hK K
          refine WP.ret ?_
          exact Ends.pure (.inr rfl) rfl (Le.of_eq (by simp (decide := true) only [St.get, lk, W, ruleErrB, badSc, q1, q2, q3, q7, q8, q9, q10, q11, q12, ↓reduceIte])) (by simp)
         ·
          simp (decide := true) only [TF, q1, q2, q3, q7, q8, q9, q10, q11, q12, ↓reduceIte, Int.reduceToNat]
          refine hK _ _ ?_; clear hK K
          refine WP.cond (b := _) rfl (fun q13 => ?_) (fun q13 => ?_)
          ·
           refine WP.sr [2] (by kernel_rfl) fun K hK => ?_
           simp (decide := true) only [TF, q1, q2, q3, q7, q8, q9, q10, q11, q12, q13, ↓reduceIte, Int.reduceToNat]
           refine hK _ _ ?_; clear hK K
           refine WP.ret ?_
           exact Ends.pure (.inr rfl) rfl (Le.of_eq (by simp (decide := true) only [St.get, lk, W, ruleErrB, badSc, q1, q2, q3, q7, q8, q9, q10, q11, q12, q13, ↓reduceIte])) (by simp)
          ·
           refine WP.skip ?_
           show WP _ _ _ _ _ _
           refine WP.sr [2] (by kernel_rfl) fun K hK => ?_
           simp (decide := true) only [TF, q1, q2, q3, q7, q8, q9, q10, q11, q12, q13, ↓reduceIte, Int.reduceToNat]
           refine hK _ _ ?_; clear hK K
           refine WP.ret ?_
           exact Ends.pure (.inr rfl) rfl (Le.of_eq (by simp (decide := true) only [St.get, lk, W, ruleErrB, badSc, q1, q2, q3, q7, q8, q9, q10, q11, q12, q13, ↓reduceIte])) (by simp)
theorem c_named (q p : Rule) : CallE Pr 49 [.agg [.str q.name, .bool q.deny, .slice 3 q.nc (q.conds.map Cond.cs) none, .slice 1 q.ns (q.scopes.map fun x => [.str x]) none, .int .i64 q.lvl, .int .i64 q.age], .ref 0 0] [(0, .box 44 [.str p.name, .bool p.deny, .slice 3 p.nc (p.conds.map Cond.cs) none, .slice 1 p.ns (p.scopes.map fun x => [.str x]) none, .int .i64 p.lvl, .int .i64 p.age])] (.bool (q.name == p.name)) [(0, .box 44 [.str p.name, .bool p.deny, .slice 3 p.nc (p.conds.map Cond.cs) none, .slice 1 p.ns (p.scopes.map fun x => [.str x]) none, .int .i64 p.lvl, .int .i64 p.age])] := by
 refine CallE.of_wp Tryz.func49 rfl (by kernel_rfl) Tryz.ntmps49 (by simp) ?_
 simp only [frameOf, Nat.reduceAdd, Nat.zero_add, List.map_cons, List.map_nil]
 refine WP.sr [1, 2] (by kernel_rfl) fun K hK => ?_
 simp (decide := true) only [TF, ↓reduceIte, Int.reduceToNat]
 refine hK _ _ ?_; clear hK K
 refine WP.sr [3] (by kernel_rfl) fun K hK => ?_
 simp (decide := true) only [TF, ↓reduceIte, Int.reduceToNat]
 refine hK _ _ ?_; clear hK K
 refine WP.ret ?_
 refine Ends.imp (.inr rfl) rfl (Le.of_eq (by simp (decide := true) only [St.get, lk, W, ↓reduceIte])) ?_ ?_ ?_
 · simp
 · simp [St.get, lk, W, BClo, W]
 · simp [lk]
theorem c_indexfunc_named (l : List Rule) (nl : Bool) (p : Rule) (hn : l.length ≤ 1099511627776) (hnl : nl = true → l = []) : CallE Pr 85 [.slice 6 nl (l.map Rule.cs) none, .fn (.func 49) [] [.ref 0 0]] [(0, .box 44 [.str p.name, .bool p.deny, .slice 3 p.nc (p.conds.map Cond.cs) none, .slice 1 p.ns (p.scopes.map fun x => [.str x]) none, .int .i64 p.lvl, .int .i64 p.age])] (.int .i64 (ixP (fun q => q.name == p.name) l 0)) [(0, .box 44 [.str p.name, .bool p.deny, .slice 3 p.nc (p.conds.map Cond.cs) none, .slice 1 p.ns (p.scopes.map fun x => [.str x]) none, .int .i64 p.lvl, .int .i64 p.age])] := by
 refine CallE.of_wp Tryz.func85 rfl (by kernel_rfl) Tryz.ntmps85 (by simp) ?_
 simp only [frameOf, Nat.reduceAdd, Nat.zero_add, List.map_cons, List.map_nil]
 refine WP.sr [0, 1] (by kernel_rfl) fun K hK => ?_
 simp (decide := true) only [TF, ↓reduceIte, Int.reduceToNat]
 refine hK _ _ ?_; clear hK K
 refine WP.seq ?_
 refine WP.sr [0, 1, 7, 8] (by kernel_rfl) fun K hK => ?_
 simp (decide := true) only [TF, ↓reduceIte, Int.reduceToNat]
 refine hK _ _ ?_; clear hK K
 refine WP.block ?_
 refine WP.lp [0, 1, 7] (X := {k : Nat // k ≤ l.length ∧ ixP (fun q => q.name == p.name) l 0 = ixP (fun q => q.name == p.name) (l.drop k) k}) (fun x => match x with | ⟨(k), _⟩ => [(8, .int .i64 k)]) (fun x => match x with | ⟨(k), _⟩ => [(0, .box 44 [.str p.name, .bool p.deny, .slice 3 p.nc (p.conds.map Cond.cs) none, .slice 1 p.ns (p.scopes.map fun x => [.str x]) none, .int .i64 p.lvl, .int .i64 p.age])]) (fun x => match x with | ⟨(k), _⟩ => l.length - k) (by simp (decide := true) only [W, ↓reduceIte, Int.reduceToNat]; rfl) ?_ ⟨(0), ⟨Nat.zero_le _, by simp⟩⟩ ?_
 rotate_left
 · exact Weak.store (by simp [St.get, lk, W, Le.refl, W]) (by simp [lk, W, W]) (by simp [lk, W]) (by simp [BClo, lk]) (by simp [lk])
 rintro ⟨k, hk, hI⟩
 dsimp only
 simp only [List.cons_append, List.nil_append]
 refine WP.sr [0, 1, 7, 8, 9] (by kernel_rfl) fun K hK => ?_
 simp (decide := true) only [TF, hk, ↓reduceIte, Int.reduceToNat]
 refine hK _ _ ?_; clear hK K
 refine WP.seq ?_
 refine WP.cond (b := _) rfl (fun q1 => ?_) (fun q1 => ?_)
 ·
  have hlt := lt_of_q q1
  have hg : (l.map Rule.cs)[k]? = some [.str l[k].name, .bool l[k].deny, .slice 3 l[k].nc (l[k].conds.map Cond.cs) none, .slice 1 l[k].ns (l[k].scopes.map fun x => [.str x]) none, .int .i64 l[k].lvl, .int .i64 l[k].age] := getM hlt
  have hnf := nl_false hnl hlt
  rw [dropE hlt] at hI
  simp only [ixP] at hI
  refine WP.skip ?_
  show WP _ _ _ _ _ _
  refine WP.seq ?_
  refine WP.block ?_
  refine WP.sr [0, 1, 5, 7, 8] (by kernel_rfl) fun K hK => ?_
  simp (decide := true) only [TF, hk, q1, hg, hnf, ↓reduceIte, Int.reduceToNat]
  refine hK _ _ ?_; clear hK K
  refine WP.sr [0, 1, 5, 7, 8, 16] (by kernel_rfl) fun K hK => ?_
  simp (decide := true) only [TF, hk, q1, hg, hnf, ↓reduceIte, Int.reduceToNat]
  refine CallK.imp (c_named l[k] p) rfl rfl (by simp [lk, BClo]) (by simp [lk]) (by simp [lk]) ?_
  simp (decide := true) only [TF, hk, q1, hg, hnf, ↓reduceIte, Int.reduceToNat]
  refine hK _ _ ?_; clear hK K
  refine WP.cond (b := _) rfl (fun q2 => ?_) (fun q2 => ?_)
  ·
   refine WP.sr [4] (by kernel_rfl) fun K hK => ?_
   simp (decide := true) only [TF, hk, q1, hg, hnf, q2, ↓reduceIte, Int.reduceToNat]
   refine hK _ _ ?_; clear hK K
   refine WP.ret ?_
   refine Ends.imp (.inr rfl) rfl (Le.of_eq (by simp (decide := true) only [St.get, lk, W, hk, q1, hg, hnf, q2, hI, ↓reduceIte])) ?_ ?_ ?_
   · simp
   · simp [St.get, lk, W, BClo, hk, q1, hg, hnf, q2]
   · simp [lk]
  ·
   refine WP.skip ?_
   show WP _ _ _ _ _ _
   refine WP.region (by kernel_rfl) fun K hK => ?_
   simp (decide := true) only [TF, hk, q1, hg, hnf, q2, ↓reduceIte, Int.reduceToNat]
   refine hK _ _ ?_; clear hK K
   show ∃ y, _ ∧ Weak _ _ _
   refine ⟨⟨k + 1, ?_⟩, ?_, ?_⟩
   · exact ⟨by omega, by first | (simpa [hk, q1, hg, hnf, q2] using hI) | (simp_all; done)⟩
   · dsimp only; omega
   · exact Weak.store (by simp [St.get, lk, W, Le.refl, hk, q1, hg, hnf, q2, wrapS hlt (show l.length ≤ 140737488355328 by omega)]) (by simp [lk, W, hk, q1, hg, hnf, q2, wrapS hlt (show l.length ≤ 140737488355328 by omega)]) (by simp [lk, W]) (by simp [BClo, lk]) (by simp [lk])
 ·
  have hge := ge_of_q q1
  rw [dropN hge] at hI
  simp only [ixP] at hI
  refine WP.exit ?_
  show WP _ _ _ _ _ _
  refine WP.sr [4] (by kernel_rfl) fun K hK => ?_
  simp (decide := true) only [TF, hk, q1, ↓reduceIte, Int.reduceToNat]
  refine hK _ _ ?_; clear hK K
  refine WP.ret ?_
  refine Ends.imp (.inr rfl) rfl (Le.of_eq (by simp (decide := true) only [St.get, lk, W, hk, q1, hI, ↓reduceIte])) ?_ ?_ ?_
  · simp
  · simp [St.get, lk, W, BClo, hk, q1]
  · simp [lk]
theorem c_contfunc_named (l : List Rule) (nl : Bool) (p : Rule) (hn : l.length ≤ 1099511627776) (hnl : nl = true → l = []) : CallE Pr 51 [.slice 6 nl (l.map Rule.cs) none, .fn (.func 49) [] [.ref 0 0]] [(0, .box 44 [.str p.name, .bool p.deny, .slice 3 p.nc (p.conds.map Cond.cs) none, .slice 1 p.ns (p.scopes.map fun x => [.str x]) none, .int .i64 p.lvl, .int .i64 p.age])] (.bool (l.any fun q => q.name == p.name)) [(0, .box 44 [.str p.name, .bool p.deny, .slice 3 p.nc (p.conds.map Cond.cs) none, .slice 1 p.ns (p.scopes.map fun x => [.str x]) none, .int .i64 p.lvl, .int .i64 p.age])] := by
 refine CallE.of_wp Tryz.func51 rfl (by kernel_rfl) Tryz.ntmps51 (by simp) ?_
 simp only [frameOf, Nat.reduceAdd, Nat.zero_add, List.map_cons, List.map_nil]
 refine WP.sr [0, 1] (by kernel_rfl) fun K hK => ?_
 simp (decide := true) only [TF, ↓reduceIte, Int.reduceToNat]
 refine hK _ _ ?_; clear hK K
 refine WP.sr [4] (by kernel_rfl) fun K hK => ?_
 simp (decide := true) only [TF, ↓reduceIte, Int.reduceToNat]
 refine CallK.imp (c_indexfunc_named l nl p hn hnl) rfl rfl (by simp [lk, BClo]) (by simp [lk]) (by simp [lk]) ?_
 simp (decide := true) only [TF, ↓reduceIte, Int.reduceToNat]
 refine hK _ _ ?_; clear hK K
 refine WP.ret ?_
 refine Ends.imp (.inr rfl) rfl (Le.of_eq (by simp (decide := true) only [St.get, lk, W, ixP_any0, ↓reduceIte])) ?_ ?_ ?_
 · simp
 · simp [St.get, lk, W, BClo, W]
 · simp [lk]
theorem c_check (l : List Rule) (nl : Bool) (hn : l.length ≤ 1099511627776) (hnl : nl = true → l = []) (hl : ∀ p ∈ l, p.ok) : CallP Pr 25 [.slice 6 nl (l.map Rule.cs) none] (.int .i64 (checkE l)) := by
 refine CallP.of_wp Tryz.func25 rfl (by kernel_rfl) Tryz.ntmps25 (by simp) ?_
 simp only [frameOf, Nat.reduceAdd, Nat.zero_add]
 refine WP.sr [0] (by kernel_rfl) fun K hK => ?_
 simp (decide := true) only [TF, ← List.map_take, ↓reduceIte, Int.reduceToNat]
 refine hK _ _ ?_; clear hK K
 refine WP.seq ?_
 refine WP.sr [0, 9] (by kernel_rfl) fun K hK => ?_
 simp (decide := true) only [TF, ← List.map_take, ↓reduceIte, Int.reduceToNat]
 refine hK _ _ ?_; clear hK K
 refine WP.cond (b := _) rfl (fun q1 => ?_) (fun q1 => ?_)
 ·
  refine WP.sr [2] (by kernel_rfl) fun K hK => ?_
  simp (decide := true) only [TF, q1, ← List.map_take, ↓reduceIte, Int.reduceToNat]
  refine hK _ _ ?_; clear hK K
  refine WP.ret ?_
  exact Ends.pure (.inr rfl) rfl (Le.of_eq (by simp (decide := true) only [St.get, lk, W, checkE, ruleAt, q1, ↓reduceIte])) (by simp)
 ·
  refine WP.skip ?_
  show WP _ _ _ _ _ _
  refine WP.seq ?_
  refine WP.sr [0, 10, 11, 12] (by kernel_rfl) fun K hK => ?_
  simp (decide := true) only [TF, q1, ← List.map_take, ↓reduceIte, Int.reduceToNat]
  refine hK _ _ ?_; clear hK K
  refine WP.block ?_
  refine WP.lp [0, 10, 11] (X := {k : Nat // k ≤ l.length ∧ chkL [] l = chkL (l.take k) (l.drop k)}) (fun x => match x with | ⟨(k), _⟩ => [(12, .int .i64 k)]) (fun x => match x with | ⟨(k), _⟩ => []) (fun x => match x with | ⟨(k), _⟩ => l.length - k) (by simp (decide := true) only [W, ↓reduceIte, Int.reduceToNat]; rfl) ?_ ⟨(0), ⟨Nat.zero_le _, by simp⟩⟩ ?_
  rotate_left
  · exact Weak.store (by simp [St.get, lk, W, Le.refl, q1]) (by simp [lk, W, q1]) (by simp [lk, W]) (by simp [BClo, lk]) (by simp [lk])
  rintro ⟨k, hk, hI⟩
  dsimp only
  simp only [List.cons_append, List.nil_append]
  refine WP.sr [0, 10, 11, 12, 13] (by kernel_rfl) fun K hK => ?_
  simp (decide := true) only [TF, q1, hk, ← List.map_take, ↓reduceIte, Int.reduceToNat]
  refine hK _ _ ?_; clear hK K
  refine WP.seq ?_
  refine WP.cond (b := _) rfl (fun q2 => ?_) (fun q2 => ?_)
  ·
   have hlt := lt_of_q q2
   have hg : (l.map Rule.cs)[k]? = some [.str l[k].name, .bool l[k].deny, .slice 3 l[k].nc (l[k].conds.map Cond.cs) none, .slice 1 l[k].ns (l[k].scopes.map fun x => [.str x]) none, .int .i64 l[k].lvl, .int .i64 l[k].age] := getM hlt
   have hnf := nl_false hnl hlt
   rw [dropE hlt] at hI
   simp only [chkL, ruleAt] at hI
   refine WP.skip ?_
   show WP _ _ _ _ _ _
   refine WP.seq ?_
   refine WP.block ?_
   refine WP.sr [0, 3, 4, 10, 11, 12] (by kernel_rfl) fun K hK => ?_
   simp (decide := true) only [TF, q1, hk, q2, hg, hnf, ← List.map_take, ↓reduceIte, Int.reduceToNat]
   refine hK _ _ ?_; clear hK K
   refine WP.sr [0, 3, 4, 5, 10, 11, 12] (by kernel_rfl) fun K hK => ?_
   simp (decide := true) only [TF, q1, hk, q2, hg, hnf, ← List.map_take, ↓reduceIte, Int.reduceToNat]
   refine hK _ _ ?_; clear hK K
   refine WP.seq ?_
   refine WP.sr [0, 3, 4, 5, 10, 11, 12, 21] (by kernel_rfl) fun K hK => ?_
   simp (decide := true) only [TF, q1, hk, q2, hg, hnf, ← List.map_take, ↓reduceIte, Int.reduceToNat]
   refine CallK.pure (c_word l[k].name (by have := (hl _ (List.getElem_mem hlt)).2.1; omega)) rfl rfl (by simp [-List.map_take]) ?_
   simp (decide := true) only [TF, q1, hk, q2, hg, hnf, ← List.map_take, ↓reduceIte, Int.reduceToNat]
   refine hK _ _ ?_; clear hK K
   refine WP.cond (b := _) rfl (fun q3 => ?_) (fun q3 => ?_)
   ·
    simp only [Bool.not_eq_true', Bool.not_eq_false'] at q3
    refine WP.sr [2] (by kernel_rfl) fun K hK => ?_
    simp (decide := true) only [TF, q1, hk, q2, hg, hnf, q3, ← List.map_take, ↓reduceIte, Int.reduceToNat]
    refine hK _ _ ?_; clear hK K
    refine WP.ret ?_
    exact Ends.pure (.inr rfl) rfl (Le.of_eq (by simp (decide := true) only [St.get, lk, W, checkE, ruleAt, q1, hk, q2, hg, hnf, q3, hI, ↓reduceIte])) (by simp)
   ·
    simp only [Bool.not_eq_true', Bool.not_eq_false'] at q3
    refine WP.skip ?_
    show WP _ _ _ _ _ _
    refine WP.seq ?_
    refine WP.sr [0, 4, 10, 11, 12, 26] (by kernel_rfl) fun K hK => ?_
    simp (decide := true) only [TF, q1, hk, q2, hg, hnf, q3, ← List.map_take, ↓reduceIte, Int.reduceToNat]
    refine CallK.imp (c_contfunc_named (l.take k) false l[k] (by simp; omega) nofun) rfl rfl (by simp [lk, BClo]) (by simp [lk]) (by simp [lk, -List.map_take]) ?_
    simp (decide := true) only [TF, q1, hk, q2, hg, hnf, q3, ← List.map_take, ↓reduceIte, Int.reduceToNat]
    refine hK _ _ ?_; clear hK K
    refine WP.cond (b := _) rfl (fun q4 => ?_) (fun q4 => ?_)
    ·
     refine WP.sr [2] (by kernel_rfl) fun K hK => ?_
     simp (decide := true) only [TF, q1, hk, q2, hg, hnf, q3, q4, ← List.map_take, ↓reduceIte, Int.reduceToNat]
     refine hK _ _ ?_; clear hK K
     refine WP.ret ?_
     exact Ends.pure (.inr rfl) rfl (Le.of_eq (by simp (decide := true) only [St.get, lk, W, checkE, ruleAt, q1, hk, q2, hg, hnf, q3, q4, hI, ↓reduceIte])) (by simp)
    ·
     refine WP.skip ?_
     show WP _ _ _ _ _ _
     refine WP.sr [0, 6, 10, 11, 12] (by kernel_rfl) fun K hK => ?_
     simp (decide := true) only [TF, q1, hk, q2, hg, hnf, q3, q4, ← List.map_take, ↓reduceIte, Int.reduceToNat]
     refine CallK.pure (c_ruleerr l[k] (hl _ (List.getElem_mem hlt))) rfl rfl (by simp [-List.map_take]) ?_
     simp (decide := true) only [TF, q1, hk, q2, hg, hnf, q3, q4, ← List.map_take, ↓reduceIte, Int.reduceToNat]
     refine hK _ _ ?_; clear hK K
     refine WP.sr [0, 6, 10, 11, 12, 30] (by kernel_rfl) fun K hK => ?_
     simp (decide := true) only [TF, q1, hk, q2, hg, hnf, q3, q4, ← List.map_take, ↓reduceIte, Int.reduceToNat]
     refine hK _ _ ?_; clear hK K
     refine WP.cond (b := _) rfl (fun q5 => ?_) (fun q5 => ?_)
     ·
      refine WP.sr [2] (by kernel_rfl) fun K hK => ?_
      simp (decide := true) only [TF, q1, hk, q2, hg, hnf, q3, q4, q5, ← List.map_take, ↓reduceIte, Int.reduceToNat]
      refine hK _ _ ?_; clear hK K
      refine WP.ret ?_
      exact Ends.pure (.inr rfl) rfl (Le.of_eq (by simp (decide := true) only [St.get, lk, W, checkE, ruleAt, q1, hk, q2, hg, hnf, q3, q4, q5, hI, ↓reduceIte])) (by simp)
     ·
      refine WP.skip ?_
      show WP _ _ _ _ _ _
      refine WP.region (by kernel_rfl) fun K hK => ?_
      simp (decide := true) only [TF, q1, hk, q2, hg, hnf, q3, q4, q5, ← List.map_take, ↓reduceIte, Int.reduceToNat]
      refine hK _ _ ?_; clear hK K
      show ∃ y, _ ∧ Weak _ _ _
      refine ⟨⟨k + 1, ?_⟩, ?_, ?_⟩
      · exact ⟨by omega, by first | (simpa [q1, hk, q2, hg, hnf, q3, q4, q5] using hI) | (simp_all; done)⟩
      · dsimp only; omega
      · exact Weak.store (by simp [St.get, lk, W, Le.refl, q1, hk, q2, hg, hnf, q3, q4, q5, wrapS hlt (show l.length ≤ 140737488355328 by omega)]) (by simp [lk, W, q1, hk, q2, hg, hnf, q3, q4, q5, wrapS hlt (show l.length ≤ 140737488355328 by omega)]) (by simp [lk, W]) (by simp [BClo, lk]) (by simp [lk])
  ·
   have hge := ge_of_q q2
   rw [dropN hge] at hI
   simp only [chkL] at hI
   refine WP.exit ?_
   show WP _ _ _ _ _ _
   refine WP.sr [2] (by kernel_rfl) fun K hK => ?_
   simp (decide := true) only [TF, q1, hk, q2, ← List.map_take, ↓reduceIte, Int.reduceToNat]
   refine hK _ _ ?_; clear hK K
   refine WP.ret ?_
   exact Ends.pure (.inr rfl) rfl (Le.of_eq (by simp (decide := true) only [St.get, lk, W, checkE, ruleAt, q1, hk, q2, hI, ↓reduceIte])) (by simp)
theorem c_r_rule (l : List Rule) (nl : Bool) (i : Nat) (hi : i < l.length) (hn : l.length ≤ 1099511627776) (hnl : nl = true → l = []) (hl : ∀ p ∈ l, p.ok) : CallP Pr 64 [.slice 6 nl (l.map Rule.cs) none, .int .i64 i] (.int .i64 (ruleAt (l.take i) l[i])) := by
 have hg0 : (l.map Rule.cs)[i]? = some [.str l[i].name, .bool l[i].deny, .slice 3 l[i].nc (l[i].conds.map Cond.cs) none, .slice 1 l[i].ns (l[i].scopes.map fun x => [.str x]) none, .int .i64 l[i].lvl, .int .i64 l[i].age] := getM hi
 have hnf0 := nl_false hnl hi
 have hp := hl _ (List.getElem_mem hi)
 refine CallP.of_wp Tryz.func64 rfl (by kernel_rfl) Tryz.ntmps64 (by simp) ?_
 simp only [frameOf, Nat.reduceAdd, Nat.zero_add]
 refine WP.sr [0, 1] (by kernel_rfl) fun K hK => ?_
 simp (decide := true) only [TF, hg0, hnf0, ↓reduceIte, Int.reduceToNat]
 refine hK _ _ ?_; clear hK K
 refine WP.sr [0, 1, 5] (by kernel_rfl) fun K hK => ?_
 simp (decide := true) only [TF, hg0, hnf0, ↓reduceIte, Int.reduceToNat]
 refine hK _ _ ?_; clear hK K
 refine WP.seq ?_
 refine WP.sr [0, 1, 5, 15] (by kernel_rfl) fun K hK => ?_
 simp (decide := true) only [TF, hg0, hnf0, ↓reduceIte, Int.reduceToNat]
 refine CallK.pure (c_r_word l[i].name (by have := hp.2.1; omega)) rfl rfl (by simp [-List.map_take]) ?_
 simp (decide := true) only [TF, hg0, hnf0, ↓reduceIte, Int.reduceToNat]
 refine hK _ _ ?_; clear hK K
 refine WP.cond (b := _) rfl (fun q1 => ?_) (fun q1 => ?_)
 ·
  simp only [Bool.not_eq_true', Bool.not_eq_false'] at q1
  refine WP.sr [4] (by kernel_rfl) fun K hK => ?_
  simp (decide := true) only [TF, hg0, hnf0, q1, ↓reduceIte, Int.reduceToNat]
  refine hK _ _ ?_; clear hK K
  refine WP.ret ?_
  exact Ends.pure (.inr rfl) rfl (Le.of_eq (by simp (decide := true) only [St.get, lk, W, ruleAt, ruleErrB, badSc, hg0, hnf0, q1, ↓reduceIte])) (by simp)
 ·
  simp only [Bool.not_eq_true', Bool.not_eq_false'] at q1
  refine WP.skip ?_
  show WP _ _ _ _ _ _
  refine WP.seq ?_
  refine WP.sr [0, 1, 5, 6] (by kernel_rfl) fun K hK => ?_
  simp (decide := true) only [TF, hg0, hnf0, q1, ↓reduceIte, Int.reduceToNat]
  refine hK _ _ ?_; clear hK K
  refine WP.block ?_
  refine WP.lp [0, 1, 5] (X := {j : Nat // j ≤ i ∧ ((l.take i).any fun q => q.name == l[i].name) = ((l.take i).drop j).any (fun q => q.name == l[i].name)}) (fun x => match x with | ⟨(j), _⟩ => [(6, .int .i64 j)]) (fun x => match x with | ⟨(j), _⟩ => [(0, .box 44 [.str l[i].name, .bool l[i].deny, .slice 3 l[i].nc (l[i].conds.map Cond.cs) none, .slice 1 l[i].ns (l[i].scopes.map fun x => [.str x]) none, .int .i64 l[i].lvl, .int .i64 l[i].age])]) (fun x => match x with | ⟨(j), _⟩ => i - j) (by simp (decide := true) only [W, ↓reduceIte, Int.reduceToNat]; rfl) ?_ ⟨(0), ⟨Nat.zero_le _, by rw [List.drop_zero]⟩⟩ ?_
  rotate_left
  · exact Weak.store (by simp [St.get, lk, W, Le.refl, hg0, hnf0, q1]) (by simp [lk, W, hg0, hnf0, q1]) (by simp [lk, W]) (by simp [BClo, lk]) (by simp [lk])
  rintro ⟨j, hj, hJ⟩
  dsimp only
  simp only [List.cons_append, List.nil_append]
  refine WP.seq ?_
  refine WP.sr [0, 1, 5, 6, 18] (by kernel_rfl) fun K hK => ?_
  simp (decide := true) only [TF, hg0, hnf0, q1, ↓reduceIte, Int.reduceToNat]
  refine hK _ _ ?_; clear hK K
  refine WP.cond (b := _) rfl (fun q2 => ?_) (fun q2 => ?_)
  ·
   have hjl : j < (l.take i).length := by simp at q2 ⊢; omega
   have hjk : j < i := by simp at hjl; omega
   have hgj : (l.map Rule.cs)[j]? = some [.str l[j].name, .bool l[j].deny, .slice 3 l[j].nc (l[j].conds.map Cond.cs) none, .slice 1 l[j].ns (l[j].scopes.map fun x => [.str x]) none, .int .i64 l[j].lvl, .int .i64 l[j].age] := getM (by omega)
   rw [dropE hjl] at hJ
   simp only [List.any_cons, List.getElem_take] at hJ
   refine WP.skip ?_
   show WP _ _ _ _ _ _
   refine WP.seq ?_
   refine WP.block ?_
   refine WP.sd [0, 1, 5, 6, 28] (by kernel_rfl) (by kernel_rfl) fun K hK => ?_
   simp (decide := true) only [TF, hg0, hnf0, q1, q2, hgj, ↓reduceIte, Int.reduceToNat]
   refine hK _ _ (by kernel_rfl) ?_
   clear hK K
   refine WP.cond (b := _) rfl (fun q3 => ?_) (fun q3 => ?_)
   ·
    refine WP.sr [4] (by kernel_rfl) fun K hK => ?_
    simp (decide := true) only [TF, hg0, hnf0, q1, q2, hgj, q3, ↓reduceIte, Int.reduceToNat]
    refine hK _ _ ?_; clear hK K
    refine WP.ret ?_
    exact Ends.pure (.inr rfl) rfl (Le.of_eq (by simp (decide := true) only [St.get, lk, W, ruleAt, ruleErrB, badSc, hg0, hnf0, q1, q2, hgj, q3, hJ, ↓reduceIte])) (by simp)
   ·
    refine WP.skip ?_
    show WP _ _ _ _ _ _
    refine WP.region (by kernel_rfl) fun K hK => ?_
    simp (decide := true) only [TF, hg0, hnf0, q1, q2, hgj, q3, ↓reduceIte, Int.reduceToNat]
    refine hK _ _ ?_; clear hK K
    show ∃ y, _ ∧ Weak _ _ _
    refine ⟨⟨j + 1, ?_⟩, ?_, ?_⟩
    · exact ⟨by omega, by first | (simpa [hg0, hnf0, q1, q2, hgj, q3] using hJ) | (simp_all; done)⟩
    · dsimp only; omega
    · exact Weak.store (by simp [St.get, lk, W, Le.refl, hg0, hnf0, q1, q2, hgj, q3, wrapS hjk (show i ≤ 140737488355328 by omega)]) (by simp [lk, W, hg0, hnf0, q1, q2, hgj, q3, wrapS hjk (show i ≤ 140737488355328 by omega)]) (by simp [lk, W]) (by simp [BClo, lk]) (by simp [lk])
  ·
   have hjg : (l.take i).length ≤ j := by simp at q2 ⊢; omega
   rw [dropN hjg] at hJ
   simp only [List.any_nil] at hJ
   refine WP.exit ?_
   show WP _ _ _ _ _ _
   refine WP.seq ?_
   refine WP.sr [5, 32] (by kernel_rfl) fun K hK => ?_
   simp (decide := true) only [TF, hg0, hnf0, q1, q2, ↓reduceIte, Int.reduceToNat]
   refine hK _ _ ?_; clear hK K
   refine WP.cond (b := _) rfl (fun q4 => ?_) (fun q4 => ?_)
   ·
    refine WP.sr [4] (by kernel_rfl) fun K hK => ?_
    simp (decide := true) only [TF, hg0, hnf0, q1, q2, q4, ↓reduceIte, Int.reduceToNat]
    refine hK _ _ ?_; clear hK K
    refine WP.ret ?_
    exact Ends.pure (.inr rfl) rfl (Le.of_eq (by simp (decide := true) only [St.get, lk, W, ruleAt, ruleErrB, badSc, hg0, hnf0, q1, q2, q4, hJ, ↓reduceIte])) (by simp)
   ·
    refine WP.skip ?_
    show WP _ _ _ _ _ _
    refine WP.seq ?_
    refine WP.sr [5, 7] (by kernel_rfl) fun K hK => ?_
    simp (decide := true) only [TF, hg0, hnf0, q1, q2, q4, ↓reduceIte, Int.reduceToNat]
    refine hK _ _ ?_; clear hK K
    refine WP.block ?_
    refine WP.lp [5] (X := {k : Nat // k ≤ l[i].conds.length ∧ (l[i].conds.any fun c => !possB c) = (l[i].conds.drop k).any (fun c => !possB c)}) (fun x => match x with | ⟨(k), _⟩ => [(7, .int .i64 k)]) (fun x => match x with | ⟨(k), _⟩ => [(0, .box 44 [.str l[i].name, .bool l[i].deny, .slice 3 l[i].nc (l[i].conds.map Cond.cs) none, .slice 1 l[i].ns (l[i].scopes.map fun x => [.str x]) none, .int .i64 l[i].lvl, .int .i64 l[i].age])]) (fun x => match x with | ⟨(k), _⟩ => l[i].conds.length - k) (by simp (decide := true) only [W, ↓reduceIte, Int.reduceToNat]; rfl) ?_ ⟨(0), ⟨Nat.zero_le _, by rw [List.drop_zero]⟩⟩ ?_
    rotate_left
    · exact Weak.store (by simp [St.get, lk, W, Le.refl, hg0, hnf0, q1, q2, q4]) (by simp [lk, W, hg0, hnf0, q1, q2, q4]) (by simp [lk, W]) (by simp [BClo, lk]) (by simp [lk])
    rintro ⟨k, hk, hC⟩
    dsimp only
    simp only [List.cons_append, List.nil_append]
    refine WP.seq ?_
    refine WP.sr [5, 7, 37] (by kernel_rfl) fun K hK => ?_
    simp (decide := true) only [TF, hg0, hnf0, q1, q2, q4, hk, ↓reduceIte, Int.reduceToNat]
    refine hK _ _ ?_; clear hK K
    refine WP.cond (b := _) rfl (fun q5 => ?_) (fun q5 => ?_)
    ·
     have hlt := lt_of_q q5
     have hg : (l[i].conds.map Cond.cs)[k]? = some [.str l[i].conds[k].f, .str l[i].conds[k].op, .str l[i].conds[k].v] := getM hlt
     have hnf := nl_false hp.1.2.1 hlt
     rw [dropE hlt] at hC
     simp only [List.any_cons] at hC
     have hp1 := hp.1.1
     refine WP.skip ?_
     show WP _ _ _ _ _ _
     refine WP.seq ?_
     refine WP.block ?_
     refine WP.sr [5, 7, 46] (by kernel_rfl) fun K hK => ?_
     simp (decide := true) only [TF, hg0, hnf0, q1, q2, q4, hk, q5, hg, hnf, ↓reduceIte, Int.reduceToNat]
     refine CallK.pure (c_r_possible l[i].conds[k] (hp.2.2.1 _ (List.getElem_mem hlt))) rfl rfl (by simp [-List.map_take]) ?_
     simp (decide := true) only [TF, hg0, hnf0, q1, q2, q4, hk, q5, hg, hnf, ↓reduceIte, Int.reduceToNat]
     refine hK _ _ ?_; clear hK K
     refine WP.cond (b := _) rfl (fun q6 => ?_) (fun q6 => ?_)
     ·
      simp only [Bool.not_eq_true', Bool.not_eq_false'] at q6
      refine WP.sr [4] (by kernel_rfl) fun K hK => ?_
      simp (decide := true) only [TF, hg0, hnf0, q1, q2, q4, hk, q5, hg, hnf, q6, ↓reduceIte, Int.reduceToNat]
      refine hK _ _ ?_; clear hK K
      refine WP.ret ?_
      exact Ends.pure (.inr rfl) rfl (Le.of_eq (by simp (decide := true) only [St.get, lk, W, ruleAt, ruleErrB, badSc, hg0, hnf0, q1, q2, q4, hk, q5, hg, hnf, q6, hC, hJ, ↓reduceIte])) (by simp)
     ·
      simp only [Bool.not_eq_true', Bool.not_eq_false'] at q6
      refine WP.skip ?_
      show WP _ _ _ _ _ _
      refine WP.region (by kernel_rfl) fun K hK => ?_
      simp (decide := true) only [TF, hg0, hnf0, q1, q2, q4, hk, q5, hg, hnf, q6, ↓reduceIte, Int.reduceToNat]
      refine hK _ _ ?_; clear hK K
      show ∃ y, _ ∧ Weak _ _ _
      refine ⟨⟨k + 1, ?_⟩, ?_, ?_⟩
      · exact ⟨by omega, by first | (simpa [hg0, hnf0, q1, q2, q4, hk, q5, hg, hnf, q6] using hC) | (simp_all; done)⟩
      · dsimp only; omega
      · exact Weak.store (by simp [St.get, lk, W, Le.refl, hg0, hnf0, q1, q2, q4, hk, q5, hg, hnf, q6, wrapS hlt (show l[i].conds.length ≤ 140737488355328 by omega)]) (by simp [lk, W, hg0, hnf0, q1, q2, q4, hk, q5, hg, hnf, q6, wrapS hlt (show l[i].conds.length ≤ 140737488355328 by omega)]) (by simp [lk, W]) (by simp [BClo, lk]) (by simp [lk])
    ·
     have hge := ge_of_q q5
     rw [dropN hge] at hC
     simp only [List.any_nil] at hC
     refine WP.exit ?_
     show WP _ _ _ _ _ _
     refine WP.seq ?_
     refine WP.sr [5, 48] (by kernel_rfl) fun K hK => ?_
     simp (decide := true) only [TF, hg0, hnf0, q1, q2, q4, hk, q5, ↓reduceIte, Int.reduceToNat]
     refine hK _ _ ?_; clear hK K
     refine WP.cond (b := _) rfl (fun q7 => ?_) (fun q7 => ?_)
     ·
      refine WP.seq ?_
      refine WP.sr [62] (by kernel_rfl) fun K hK => ?_
      refine runOps.take 5 fun J hJ => ?_
      simp (decide := true) only [TF, hg0, hnf0, q1, q2, q4, hk, q5, q7, ↓reduceIte, Int.reduceToNat]
      refine hJ _ _ ?_; clear hJ J
      refine runOps.part 53 rfl (fun q8 => ?_) (fun q8 => ?_)
      ·
       simp (decide := true) only [TF, hg0, hnf0, q1, q2, q4, hk, q5, q7, q8, ↓reduceIte, Int.reduceToNat]
       refine hK _ _ ?_; clear hK K
       refine WP.cond (b := true) (by rfl) (fun _ => ?_) nofun
       refine WP.sr [4] (by kernel_rfl) fun K hK => ?_
       simp (decide := true) only [TF, hg0, hnf0, q1, q2, q4, hk, q5, q7, q8, ↓reduceIte, Int.reduceToNat]
       refine hK _ _ ?_; clear hK K
       refine WP.ret ?_
       exact Ends.pure (.inr rfl) rfl (Le.of_eq (by simp (decide := true) only [St.get, lk, W, ruleAt, ruleErrB, badSc, hg0, hnf0, q1, q2, q4, hk, q5, q7, q8, hC, hJ, ↓reduceIte])) (by simp)
      ·
       refine runOps.take 5 fun J hJ => ?_
       simp (decide := true) only [TF, hg0, hnf0, q1, q2, q4, hk, q5, q7, q8, ↓reduceIte, Int.reduceToNat]
       refine hJ _ _ ?_; clear hJ J
       refine runOps.part 58 rfl (fun q9 => ?_) (fun q9 => ?_)
       ·
        simp (decide := true) only [TF, hg0, hnf0, q1, q2, q4, hk, q5, q7, q8, q9, ↓reduceIte, Int.reduceToNat]
        refine hK _ _ ?_; clear hK K
        refine WP.cond (b := true) (by rfl) (fun _ => ?_) nofun
        refine WP.sr [4] (by kernel_rfl) fun K hK => ?_
        simp (decide := true) only [TF, hg0, hnf0, q1, q2, q4, hk, q5, q7, q8, q9, ↓reduceIte, Int.reduceToNat]
        refine hK _ _ ?_; clear hK K
        refine WP.ret ?_
        exact Ends.pure (.inr rfl) rfl (Le.of_eq (by simp (decide := true) only [St.get, lk, W, ruleAt, ruleErrB, badSc, hg0, hnf0, q1, q2, q4, hk, q5, q7, q8, q9, hC, hJ, ↓reduceIte])) (by simp)
       ·
        simp (decide := true) only [TF, hg0, hnf0, q1, q2, q4, hk, q5, q7, q8, q9, ↓reduceIte, Int.reduceToNat]
        refine hK _ _ ?_; clear hK K
        refine WP.cond (b := _) rfl (fun q10 => ?_) (fun q10 => ?_)
        ·
         refine WP.sr [4] (by kernel_rfl) fun K hK => ?_
         simp (decide := true) only [TF, hg0, hnf0, q1, q2, q4, hk, q5, q7, q8, q9, q10, ↓reduceIte, Int.reduceToNat]
         refine hK _ _ ?_; clear hK K
         refine WP.ret ?_
         exact Ends.pure (.inr rfl) rfl (Le.of_eq (by simp (decide := true) only [St.get, lk, W, ruleAt, ruleErrB, badSc, hg0, hnf0, q1, q2, q4, hk, q5, q7, q8, q9, q10, hC, hJ, ↓reduceIte])) (by simp)
        ·
         refine WP.skip ?_
         show WP _ _ _ _ _ _
         refine WP.sr [4] (by kernel_rfl) fun K hK => ?_
         simp (decide := true) only [TF, hg0, hnf0, q1, q2, q4, hk, q5, q7, q8, q9, q10, ↓reduceIte, Int.reduceToNat]
         refine hK _ _ ?_; clear hK K
         refine WP.ret ?_
         exact Ends.pure (.inr rfl) rfl (Le.of_eq (by simp (decide := true) only [St.get, lk, W, ruleAt, ruleErrB, badSc, hg0, hnf0, q1, q2, q4, hk, q5, q7, q8, q9, q10, hC, hJ, ↓reduceIte])) (by simp)
     ·
      refine WP.skip ?_
      show WP _ _ _ _ _ _
      refine WP.seq ?_
      refine WP.sr [5, 66] (by kernel_rfl) fun K hK => ?_
      simp (decide := true) only [TF, hg0, hnf0, q1, q2, q4, hk, q5, q7, ↓reduceIte, Int.reduceToNat]
      refine hK _ _ ?_; clear hK K
      refine WP.cond (b := _) rfl (fun q11 => ?_) (fun q11 => ?_)
      ·
       refine WP.sr [4] (by kernel_rfl) fun K hK => ?_
       simp (decide := true) only [TF, hg0, hnf0, q1, q2, q4, hk, q5, q7, q11, ↓reduceIte, Int.reduceToNat]
       refine hK _ _ ?_; clear hK K
       refine WP.ret ?_
       exact Ends.pure (.inr rfl) rfl (Le.of_eq (by simp (decide := true) only [St.get, lk, W, ruleAt, ruleErrB, badSc, hg0, hnf0, q1, q2, q4, hk, q5, q7, q11, hC, hJ, ↓reduceIte])) (by simp)
      ·
       refine WP.skip ?_
       show WP _ _ _ _ _ _
       refine WP.seq ?_
       refine WP.sr [5, 80] (by kernel_rfl) fun K hK => ?_
       simp (decide := true) only [TF, hg0, hnf0, q1, q2, q4, hk, q5, q7, q11, ↓reduceIte, Int.reduceToNat]
       refine CallK.pure (c_r_sc_check l[i].scopes l[i].ns (by have := hp.1.2.2.1; omega) hp.1.2.2.2 (fun x hx => by have := hp.2.2.2 x hx; omega)) rfl rfl (by simp [-List.map_take]) ?_
       refine runOps.take 2 fun J hJ => ?_
       simp (decide := true) only [TF, hg0, hnf0, q1, q2, q4, hk, q5, q7, q11, ↓reduceIte, Int.reduceToNat]
       refine hJ _ _ ?_; clear hJ J
       refine runOps.part 71 rfl (fun q12 => ?_) (fun q12 => ?_)
       ·
        simp (decide := true) only [TF, hg0, hnf0, q1, q2, q4, hk, q5, q7, q11, q12, ↓reduceIte, Int.reduceToNat]
        refine hK _ _ ?_; clear hK K
        refine WP.cond (b := true) (by rfl) (fun _ => ?_) nofun
        refine WP.sr [4] (by kernel_rfl) fun K hK => ?_
        simp (decide := true) only [TF, hg0, hnf0, q1, q2, q4, hk, q5, q7, q11, q12, ↓reduceIte, Int.reduceToNat]
        refine hK _ _ ?_; clear hK K
        refine WP.ret ?_
        exact Ends.pure (.inr rfl) rfl (Le.of_eq (by simp (decide := true) only [St.get, lk, W, ruleAt, ruleErrB, badSc, hg0, hnf0, q1, q2, q4, hk, q5, q7, q11, q12, hC, hJ, ↓reduceIte])) (by simp)
       ·
        simp (decide := true) only [TF, hg0, hnf0, q1, q2, q4, hk, q5, q7, q11, q12, ↓reduceIte, Int.reduceToNat]
        refine CallK.pure (c_r_contains l[i].scopes l[i].ns _ (by have := hp.1.2.2.1; omega) hp.1.2.2.2) rfl rfl (by simp [-List.map_take]) ?_
        refine runOps.take 2 fun J hJ => ?_
        simp (decide := true) only [TF, hg0, hnf0, q1, q2, q4, hk, q5, q7, q11, q12, ↓reduceIte, Int.reduceToNat]
        refine hJ _ _ ?_; clear hJ J
        refine runOps.part 76 rfl (fun q13 => ?_) (fun q13 => ?_)
        ·
         simp (decide := true) only [TF, hg0, hnf0, q1, q2, q4, hk, q5, q7, q11, q12, q13, ↓reduceIte, Int.reduceToNat]
         refine hK _ _ ?_; clear hK K
         refine WP.cond (b := true) (by rfl) (fun _ => ?_) nofun
         refine WP.sr [4] (by kernel_rfl) fun K hK => ?_
         simp (decide := true) only [TF, hg0, hnf0, q1, q2, q4, hk, q5, q7, q11, q12, q13, ↓reduceIte, Int.reduceToNat]
         refine hK _ _ ?_; clear hK K
         refine WP.ret ?_
         exact Ends.pure (.inr rfl) rfl (Le.of_eq (by simp (decide := true) only [St.get, lk, W, ruleAt, ruleErrB, badSc, hg0, hnf0, q1, q2, q4, hk, q5, q7, q11, q12, q13, hC, hJ, ↓reduceIte])) (by simp)
        ·
         simp (decide := true) only [TF, hg0, hnf0, q1, q2, q4, hk, q5, q7, q11, q12, q13, ↓reduceIte, Int.reduceToNat]
         refine CallK.pure (c_r_contains l[i].scopes l[i].ns _ (by have := hp.1.2.2.1; omega) hp.1.2.2.2) rfl rfl (by simp [-List.map_take]) ?_
         simp (decide := true) only [TF, hg0, hnf0, q1, q2, q4, hk, q5, q7, q11, q12, q13, ↓reduceIte, Int.reduceToNat]
         refine hK _ _ ?_; clear hK K
         refine WP.cond (b := _) rfl (fun q14 => ?_) (fun q14 => ?_)
         ·
          refine WP.sr [4] (by kernel_rfl) fun K hK => ?_
          simp (decide := true) only [TF, hg0, hnf0, q1, q2, q4, hk, q5, q7, q11, q12, q13, q14, ↓reduceIte, Int.reduceToNat]
          refine hK _ _ ?_; clear hK K
          refine WP.ret ?_
          exact Ends.pure (.inr rfl) rfl (Le.of_eq (by simp (decide := true) only [St.get, lk, W, ruleAt, ruleErrB, badSc, hg0, hnf0, q1, q2, q4, hk, q5, q7, q11, q12, q13, q14, hC, hJ, ↓reduceIte])) (by simp)
         ·
          refine WP.skip ?_
          show WP _ _ _ _ _ _
          refine WP.seq ?_
          refine WP.sr [93] (by kernel_rfl) fun K hK => ?_
          refine runOps.take 4 fun J hJ => ?_
          simp (decide := true) only [TF, hg0, hnf0, q1, q2, q4, hk, q5, q7, q11, q12, q13, q14, ↓reduceIte, Int.reduceToNat]
          refine hJ _ _ ?_; clear hJ J
          refine runOps.part 84 rfl (fun q15 => ?_) (fun q15 => ?_)
          ·
           simp (decide := true) only [TF, hg0, hnf0, q1, q2, q4, hk, q5, q7, q11, q12, q13, q14, q15, ↓reduceIte, Int.reduceToNat]
           refine hK _ _ ?_; clear hK K
           refine WP.cond (b := true) (by rfl) (fun _ => ?_) nofun
           refine WP.sr [4] (by kernel_rfl) fun K hK => ?_
           simp (decide := true) only [TF, hg0, hnf0, q1, q2, q4, hk, q5, q7, q11, q12, q13, q14, q15, ↓reduceIte, Int.reduceToNat]
           refine hK _ _ ?_; clear hK K
           refine WP.ret ?_
           exact Ends.pure (.inr rfl) rfl (Le.of_eq (by simp (decide := true) only [St.get, lk, W, ruleAt, ruleErrB, badSc, hg0, hnf0, q1, q2, q4, hk, q5, q7, q11, q12, q13, q14, q15, hC, hJ, ↓reduceIte])) (by simp)
          ·
           refine runOps.take 5 fun J hJ => ?_
           simp (decide := true) only [TF, hg0, hnf0, q1, q2, q4, hk, q5, q7, q11, q12, q13, q14, q15, ↓reduceIte, Int.reduceToNat]
           refine hJ _ _ ?_; clear hJ J
           refine runOps.part 89 rfl (fun q16 => ?_) (fun q16 => ?_)
           ·
            simp (decide := true) only [TF, hg0, hnf0, q1, q2, q4, hk, q5, q7, q11, q12, q13, q14, q15, q16, ↓reduceIte, Int.reduceToNat]
            refine hK _ _ ?_; clear hK K
            refine WP.cond (b := true) (by rfl) (fun _ => ?_) nofun
            refine WP.sr [4] (by kernel_rfl) fun K hK => ?_
            simp (decide := true) only [TF, hg0, hnf0, q1, q2, q4, hk, q5, q7, q11, q12, q13, q14, q15, q16, ↓reduceIte, Int.reduceToNat]
            refine hK _ _ ?_; clear hK K
            refine WP.ret ?_
            exact Ends.pure (.inr rfl) rfl (Le.of_eq (by simp (decide := true) only [St.get, lk, W, ruleAt, ruleErrB, badSc, hg0, hnf0, q1, q2, q4, hk, q5, q7, q11, q12, q13, q14, q15, q16, hC, hJ, ↓reduceIte])) (by simp)
           ·
            simp (decide := true) only [TF, hg0, hnf0, q1, q2, q4, hk, q5, q7, q11, q12, q13, q14, q15, q16, ↓reduceIte, Int.reduceToNat]
            refine hK _ _ ?_; clear hK K
            refine WP.cond (b := _) rfl (fun q17 => ?_) (fun q17 => ?_)
            ·
             refine WP.sr [4] (by kernel_rfl) fun K hK => ?_
             simp (decide := true) only [TF, hg0, hnf0, q1, q2, q4, hk, q5, q7, q11, q12, q13, q14, q15, q16, q17, ↓reduceIte, Int.reduceToNat]
             refine hK _ _ ?_; clear hK K
             refine WP.ret ?_
             exact Ends.pure (.inr rfl) rfl (Le.of_eq (by simp (decide := true) only [St.get, lk, W, ruleAt, ruleErrB, badSc, hg0, hnf0, q1, q2, q4, hk, q5, q7, q11, q12, q13, q14, q15, q16, q17, hC, hJ, ↓reduceIte])) (by simp)
            ·
             refine WP.skip ?_
             show WP _ _ _ _ _ _
             refine WP.sr [4] (by kernel_rfl) fun K hK => ?_
             simp (decide := true) only [TF, hg0, hnf0, q1, q2, q4, hk, q5, q7, q11, q12, q13, q14, q15, q16, q17, ↓reduceIte, Int.reduceToNat]
             refine hK _ _ ?_; clear hK K
             refine WP.ret ?_
             exact Ends.pure (.inr rfl) rfl (Le.of_eq (by simp (decide := true) only [St.get, lk, W, ruleAt, ruleErrB, badSc, hg0, hnf0, q1, q2, q4, hk, q5, q7, q11, q12, q13, q14, q15, q16, q17, hC, hJ, ↓reduceIte])) (by simp)
theorem c_r_check (l : List Rule) (nl : Bool) (hn : l.length ≤ 1099511627776) (hnl : nl = true → l = []) (hl : ∀ p ∈ l, p.ok) : CallP Pr 34 [.slice 6 nl (l.map Rule.cs) none] (.int .i64 (checkE l)) := by
 refine CallP.of_wp Tryz.func34 rfl (by kernel_rfl) Tryz.ntmps34 (by simp) ?_
 simp only [frameOf, Nat.reduceAdd, Nat.zero_add]
 refine WP.sr [0] (by kernel_rfl) fun K hK => ?_
 simp (decide := true) only [TF, ↓reduceIte, Int.reduceToNat]
 refine hK _ _ ?_; clear hK K
 refine WP.seq ?_
 refine WP.sr [0, 7] (by kernel_rfl) fun K hK => ?_
 simp (decide := true) only [TF, ↓reduceIte, Int.reduceToNat]
 refine hK _ _ ?_; clear hK K
 refine WP.cond (b := _) rfl (fun q1 => ?_) (fun q1 => ?_)
 ·
  refine WP.sr [2] (by kernel_rfl) fun K hK => ?_
  simp (decide := true) only [TF, q1, ↓reduceIte, Int.reduceToNat]
  refine hK _ _ ?_; clear hK K
  refine WP.ret ?_
  exact Ends.pure (.inr rfl) rfl (Le.of_eq (by simp (decide := true) only [St.get, lk, W, checkE, q1, ↓reduceIte])) (by simp)
 ·
  refine WP.skip ?_
  show WP _ _ _ _ _ _
  refine WP.seq ?_
  refine WP.sr [0, 3] (by kernel_rfl) fun K hK => ?_
  simp (decide := true) only [TF, q1, ↓reduceIte, Int.reduceToNat]
  refine hK _ _ ?_; clear hK K
  refine WP.block ?_
  refine WP.lp [0] (X := {k : Nat // k ≤ l.length ∧ chkL [] l = chkL (l.take k) (l.drop k)}) (fun x => match x with | ⟨(k), _⟩ => [(3, .int .i64 k)]) (fun x => match x with | ⟨(k), _⟩ => []) (fun x => match x with | ⟨(k), _⟩ => l.length - k) (by simp (decide := true) only [W, ↓reduceIte, Int.reduceToNat]; rfl) ?_ ⟨(0), ⟨Nat.zero_le _, by simp⟩⟩ ?_
  rotate_left
  · exact Weak.store (by simp [St.get, lk, W, Le.refl, q1]) (by simp [lk, W, q1]) (by simp [lk, W]) (by simp [BClo, lk]) (by simp [lk])
  rintro ⟨k, hk, hI⟩
  dsimp only
  simp only [List.cons_append, List.nil_append]
  refine WP.seq ?_
  refine WP.sr [0, 3, 11] (by kernel_rfl) fun K hK => ?_
  simp (decide := true) only [TF, q1, hk, ↓reduceIte, Int.reduceToNat]
  refine hK _ _ ?_; clear hK K
  refine WP.cond (b := _) rfl (fun q2 => ?_) (fun q2 => ?_)
  ·
   have hlt := lt_of_q q2
   have hg : (l.map Rule.cs)[k]? = some [.str l[k].name, .bool l[k].deny, .slice 3 l[k].nc (l[k].conds.map Cond.cs) none, .slice 1 l[k].ns (l[k].scopes.map fun x => [.str x]) none, .int .i64 l[k].lvl, .int .i64 l[k].age] := getM hlt
   have hnf := nl_false hnl hlt
   rw [dropE hlt] at hI
   simp only [chkL] at hI
   refine WP.skip ?_
   show WP _ _ _ _ _ _
   refine WP.seq ?_
   refine WP.block ?_
   refine WP.sr [0, 3, 4] (by kernel_rfl) fun K hK => ?_
   simp (decide := true) only [TF, q1, hk, q2, hg, hnf, ↓reduceIte, Int.reduceToNat]
   refine CallK.pure (c_r_rule l false k hlt hn nofun hl) rfl rfl (by simp [-List.map_take]) ?_
   simp (decide := true) only [TF, q1, hk, q2, hg, hnf, ↓reduceIte, Int.reduceToNat]
   refine hK _ _ ?_; clear hK K
   refine WP.sr [0, 3, 4, 18] (by kernel_rfl) fun K hK => ?_
   simp (decide := true) only [TF, q1, hk, q2, hg, hnf, ↓reduceIte, Int.reduceToNat]
   refine hK _ _ ?_; clear hK K
   refine WP.cond (b := _) rfl (fun q3 => ?_) (fun q3 => ?_)
   ·
    refine WP.sr [2] (by kernel_rfl) fun K hK => ?_
    simp (decide := true) only [TF, q1, hk, q2, hg, hnf, q3, ↓reduceIte, Int.reduceToNat]
    refine hK _ _ ?_; clear hK K
    refine WP.ret ?_
    exact Ends.pure (.inr rfl) rfl (Le.of_eq (by simp (decide := true) only [St.get, lk, W, checkE, q1, hk, q2, hg, hnf, q3, hI, ↓reduceIte])) (by simp)
   ·
    refine WP.skip ?_
    show WP _ _ _ _ _ _
    refine WP.region (by kernel_rfl) fun K hK => ?_
    simp (decide := true) only [TF, q1, hk, q2, hg, hnf, q3, ↓reduceIte, Int.reduceToNat]
    refine hK _ _ ?_; clear hK K
    show ∃ y, _ ∧ Weak _ _ _
    refine ⟨⟨k + 1, ?_⟩, ?_, ?_⟩
    · exact ⟨by omega, by first | (simpa [q1, hk, q2, hg, hnf, q3] using hI) | (simp_all; done)⟩
    · dsimp only; omega
    · exact Weak.store (by simp [St.get, lk, W, Le.refl, q1, hk, q2, hg, hnf, q3, wrapS hlt (show l.length ≤ 140737488355328 by omega)]) (by simp [lk, W, q1, hk, q2, hg, hnf, q3, wrapS hlt (show l.length ≤ 140737488355328 by omega)]) (by simp [lk, W]) (by simp [BClo, lk]) (by simp [lk])
  ·
   have hge := ge_of_q q2
   rw [dropN hge] at hI
   simp only [chkL] at hI
   refine WP.exit ?_
   show WP _ _ _ _ _ _
   refine WP.sr [2] (by kernel_rfl) fun K hK => ?_
   simp (decide := true) only [TF, q1, hk, q2, ↓reduceIte, Int.reduceToNat]
   refine hK _ _ ?_; clear hK K
   refine WP.ret ?_
   exact Ends.pure (.inr rfl) rfl (Le.of_eq (by simp (decide := true) only [St.get, lk, W, checkE, q1, hk, q2, hI, ↓reduceIte])) (by simp)
end Go.Proofs
