import Derived.Test.YtabkoicelflhcaaGreatDoorG03
import Derived.Test.YtabkoicelflhcaaGreatDoorG05
set_option linter.unusedVariables false
set_option linter.unusedSimpArgs false
set_option linter.unusedSimpArgs false
set_option linter.unusedVariables false
set_option maxRecDepth 10000
namespace Go.Proofs
open Go Go.Id

theorem h45t : (((45 : UInt8).toNat : Int) == 45) = true := by decide
theorem gt0 (n : Nat) : decide (((n + 1 : Nat) : Int) > 0) = true := decide_eq_true (by omega)
theorem le1 (n : Nat) : (1 ≤ n + 1) = True := eq_true (by omega)
theorem gt0s {s : List UInt8} (h : 0 < s.length) : decide ((s.length : Int) > 0) = true := decide_eq_true (by omega)
theorem rdN_pos (s : List UInt8) (h : 0 < s.length) (hc : ¬ s[0] = 45) : rdN s = if decOk s true then (if decV s < 9223372036854775808 then ((decV s : Int), 0) else (0, 27)) else (0, 4) := by
 match s, h, hc with
 | c :: t, _, hc => simp only [rdN]; rw [if_neg (by simpa using hc)]
theorem dd_step (s : List UInt8) (k : Nat) (h0 : 1 ≤ k) (h : k < s.length) : ddB (s.drop (k - 1)) = ((((s[k].toNat : Int) == 46) && ((s[k - 1].toNat : Int) == 46)) || ddB (s.drop k)) := by
 have e : ∀ c : UInt8, ((c.toNat : Int) == 46) = (c == 46) := by
  intro c
  rw [Bool.eq_iff_iff]
  simp only [beq_iff_eq]
  exact ⟨fun e => UInt8.toNat_inj.1 (by show c.toNat = 46; omega), fun e => by rw [e]; rfl⟩
 rw [e, e]
 have h1 : s.drop (k - 1) = s[k - 1] :: s.drop k := by
  have := List.drop_eq_getElem_cons (l := s) (i := k - 1) (by omega)
  rw [this]; congr 2; omega
 rw [h1, ddB, List.drop_eq_getElem_cons h]
 simp only [List.head?_cons]
 have : (some s[k] == some (46 : UInt8)) = (s[k] == 46) := by
  rw [Bool.eq_iff_iff]; simp
 rw [this, Bool.and_comm]
theorem dd_end (s : List UInt8) (k : Nat) (h : s.length ≤ k) (h1 : 1 ≤ k) (h2 : k ≤ s.length) : ddB (s.drop (k - 1)) = false := by
 have hk : k = s.length := by omega
 subst hk
 have h3 : s.drop (s.length - 1) = [s[s.length - 1]] := by
  rw [List.drop_eq_getElem_cons (by omega)]
  congr 1
  exact List.drop_eq_nil_of_le (by omega)
 rw [h3]; simp [ddB]
theorem wrapM {k : Nat} (h : 1 ≤ k) (hn : k ≤ 140737488355328) : IntKind.wrap .i64 ((k : Int) - 1) = ((k - 1 : Nat) : Int) := by
 rw [wrap_i64 (by omega) (by omega)]; omega

theorem c_r_readint_nil : CallP Pr 79 [.str []] (rdD []) := by
 have h00 : decide (((0 : Nat) : Int) > 0) = false := by decide
 refine CallP.of_wp Tryz.func79 rfl (by kernel_rfl) Tryz.ntmps79 (by simp) ?_
 simp only [frameOf, Nat.reduceAdd, Nat.zero_add]
 refine WP.sr [0] (by kernel_rfl) fun K hK => ?_
 simp (decide := true) only [TF, h00, ↓reduceIte, Int.reduceToNat]
 refine hK _ _ ?_; clear hK K
 refine WP.sr [0, 4] (by kernel_rfl) fun K hK => ?_
 simp (decide := true) only [TF, h00, ↓reduceIte, Int.reduceToNat]
 refine hK _ _ ?_; clear hK K
 refine WP.sr [0, 4, 5] (by kernel_rfl) fun K hK => ?_
 simp (decide := true) only [TF, h00, ↓reduceIte, Int.reduceToNat]
 refine hK _ _ ?_; clear hK K
 refine WP.sr [0, 4, 5, 6] (by kernel_rfl) fun K hK => ?_
 simp (decide := true) only [TF, h00, ↓reduceIte, Int.reduceToNat]
 refine hK _ _ ?_; clear hK K
 refine WP.seq ?_
 refine WP.sr [0, 4, 5, 6, 19] (by kernel_rfl) fun K hK => ?_
 simp (decide := true) only [TF, h00, ↓reduceIte, Int.reduceToNat]
 refine hK _ _ ?_; clear hK K
 refine WP.cond (b := false) (by rfl) nofun (fun _ => ?_)
 refine WP.skip ?_
 show WP _ _ _ _ _ _
 refine WP.seq ?_
 refine WP.sr [4, 5, 6, 26] (by kernel_rfl) fun K hK => ?_
 simp (decide := true) only [TF, h00, ↓reduceIte, Int.reduceToNat]
 refine CallK.pure (c_r_decimal [] true (by simp)) rfl rfl (by simp [-List.map_take]) ?_
 simp (decide := true) only [TF, h00, ↓reduceIte, Int.reduceToNat]
 refine hK _ _ ?_; clear hK K
 refine WP.cond (b := _) rfl (fun q1 => ?_) (fun q1 => ?_)
 ·
  simp only [Bool.not_eq_true', Bool.not_eq_false'] at q1
  refine WP.sr [2, 3] (by kernel_rfl) fun K hK => ?_
  simp (decide := true) only [TF, h00, q1, ↓reduceIte, Int.reduceToNat]
  refine hK _ _ ?_; clear hK K
  refine WP.ret ?_
  exact Ends.pure (d := .tup [_, _]) (.inr rfl) rfl (Le.of_eq (by simp (decide := true) only [St.get, lk, W, rdD, rdN, h00, q1, ↓reduceIte])) (by simp)
 ·
  simp only [Bool.not_eq_true', Bool.not_eq_false'] at q1
  exact absurd q1 (by decide)
theorem c_r_readint_neg (t : List UInt8) (hs : t.length < 1099511627776) : CallP Pr 79 [.str (45 :: t)] (rdD (45 :: t)) := by
 have hL : t.length ≤ 140737488355328 := by omega
 refine CallP.of_wp Tryz.func79 rfl (by kernel_rfl) Tryz.ntmps79 (by simp) ?_
 simp only [frameOf, Nat.reduceAdd, Nat.zero_add]
 refine WP.sr [0] (by kernel_rfl) fun K hK => ?_
 simp (decide := true) only [TF, List.take_length, h45t, gt0, le1, ↓reduceIte, Int.reduceToNat]
 refine hK _ _ ?_; clear hK K
 refine WP.sr [0, 4] (by kernel_rfl) fun K hK => ?_
 simp (decide := true) only [TF, List.take_length, h45t, gt0, le1, ↓reduceIte, Int.reduceToNat]
 refine hK _ _ ?_; clear hK K
 refine WP.sr [0, 4, 5] (by kernel_rfl) fun K hK => ?_
 simp (decide := true) only [TF, List.take_length, h45t, gt0, le1, ↓reduceIte, Int.reduceToNat]
 refine hK _ _ ?_; clear hK K
 refine WP.sr [0, 4, 5, 6] (by kernel_rfl) fun K hK => ?_
 simp (decide := true) only [TF, List.take_length, h45t, gt0, le1, ↓reduceIte, Int.reduceToNat]
 refine hK _ _ ?_; clear hK K
 refine WP.seq ?_
 refine WP.sr [0, 4, 5, 6, 19] (by kernel_rfl) fun K hK => ?_
 simp (decide := true) only [TF, List.take_length, h45t, gt0, le1, ↓reduceIte, Int.reduceToNat]
 refine hK _ _ ?_; clear hK K
 refine WP.cond (b := true) (by rfl) (fun _ => ?_) nofun
 refine WP.region (by kernel_rfl) fun K hK => ?_
 simp (decide := true) only [TF, List.take_length, h45t, gt0, le1, ↓reduceIte, Int.reduceToNat]
 refine hK _ _ ?_; clear hK K
 show WP _ _ _ _ _ _
 refine WP.seq ?_
 refine WP.sr [4, 5, 6, 26] (by kernel_rfl) fun K hK => ?_
 simp (decide := true) only [TF, List.take_length, h45t, gt0, le1, ↓reduceIte, Int.reduceToNat]
 refine CallK.pure (c_r_decimal (t) false (by omega)) rfl rfl (by simp [-List.map_take]) ?_
 simp (decide := true) only [TF, List.take_length, h45t, gt0, le1, ↓reduceIte, Int.reduceToNat]
 refine hK _ _ ?_; clear hK K
 refine WP.cond (b := _) rfl (fun q1 => ?_) (fun q1 => ?_)
 ·
  simp only [Bool.not_eq_true', Bool.not_eq_false'] at q1
  have hok : decOk t false = false := by simpa using q1
  refine WP.sr [2, 3] (by kernel_rfl) fun K hK => ?_
  simp (decide := true) only [TF, q1, List.take_length, h45t, gt0, le1, ↓reduceIte, Int.reduceToNat]
  refine hK _ _ ?_; clear hK K
  refine WP.ret ?_
  exact Ends.pure (d := .tup [_, _]) (.inr rfl) rfl (Le.of_eq (by simp [St.get, lk, W, bne, rdD, rdN, hok])) (by simp)
 ·
  simp only [Bool.not_eq_true', Bool.not_eq_false'] at q1
  have hok : decOk t false = true := by simpa using q1
  have hall := decOk_all hok
  refine WP.skip ?_
  show WP _ _ _ _ _ _
  refine WP.sr [4, 5, 6, 7] (by kernel_rfl) fun K hK => ?_
  simp (decide := true) only [TF, q1, List.take_length, h45t, gt0, le1, ↓reduceIte, Int.reduceToNat]
  refine hK _ _ ?_; clear hK K
  refine WP.seq ?_
  refine WP.sr [4, 5, 6, 7, 8] (by kernel_rfl) fun K hK => ?_
  simp (decide := true) only [TF, q1, List.take_length, h45t, gt0, le1, ↓reduceIte, Int.reduceToNat]
  refine hK _ _ ?_; clear hK K
  refine WP.block ?_
  refine WP.lp [4, 5, 6] (X := {k : Nat // k ≤ t.length ∧ decV (t.take k) ≤ 9223372036854775808}) (fun x => match x with | ⟨(k), _⟩ => [(7, .int .i64 (-(decV (t.take k) : Int))), (8, .int .i64 k)]) (fun x => match x with | ⟨(k), _⟩ => []) (fun x => match x with | ⟨(k), _⟩ => t.length - k) (by simp (decide := true) only [W, ↓reduceIte, Int.reduceToNat]; rfl) ?_ ⟨(0), ⟨Nat.zero_le _, by simp [decV]⟩⟩ ?_
  rotate_left
  · exact Weak.nil (by simp [St.get, lk, W, Le.refl, decV, q1]) (by simp)
  rintro ⟨k, hk, hI⟩
  dsimp only
  simp only [List.cons_append, List.nil_append]
  refine WP.seq ?_
  refine WP.sr [4, 5, 6, 7, 8, 30] (by kernel_rfl) fun K hK => ?_
  simp (decide := true) only [TF, q1, List.take_length, h45t, gt0, le1, ↓reduceIte, Int.reduceToNat]
  refine hK _ _ ?_; clear hK K
  refine WP.cond (b := _) rfl (fun q2 => ?_) (fun q2 => ?_)
  ·
   have hlt := lt_of_q q2
   have hg := getE hlt
   have hdg := all_at hall hlt
   have hdc := dig_conv _ hdg
   have hd9 := dig_le _ hdg
   have hcm := rd_cmp (decV (t.take k)) _ hI hd9
   have htk := decV_take t k hlt
   have hle := decV_le t (k + 1)
   refine WP.skip ?_
   show WP _ _ _ _ _ _
   refine WP.seq ?_
   refine WP.block ?_
   refine WP.sr [4, 5, 6, 7, 8, 9] (by kernel_rfl) fun K hK => ?_
   simp (decide := true) only [TF, q1, q2, hg, hdc, hcm, List.take_length, h45t, gt0, le1, ↓reduceIte, Int.reduceToNat]
   refine hK _ _ ?_; clear hK K
   refine WP.seq ?_
   refine WP.sr [4, 5, 6, 7, 8, 9, 43] (by kernel_rfl) fun K hK => ?_
   simp (decide := true) only [TF, q1, q2, hg, hdc, hcm, List.take_length, h45t, gt0, le1, ↓reduceIte, Int.reduceToNat]
   refine hK _ _ ?_; clear hK K
   refine WP.cond (b := _) rfl (fun q3 => ?_) (fun q3 => ?_)
   ·
    have hov : 9223372036854775808 < decV (t.take k) * 10 + (t[k].toNat - 48) := of_decide_eq_true q3
    have hbig : ¬ decV (t) ≤ 9223372036854775808 := by omega
    refine WP.sr [2, 3] (by kernel_rfl) fun K hK => ?_
    simp (decide := true) only [TF, q1, q2, hg, hdc, hcm, q3, List.take_length, h45t, gt0, le1, ↓reduceIte, Int.reduceToNat]
    refine hK _ _ ?_; clear hK K
    refine WP.ret ?_
    exact Ends.pure (d := .tup [_, _]) (.inr rfl) rfl (Le.of_eq (by simp [St.get, lk, W, bne, rdD, rdN, hok, hbig, q1, q2, hg, hdc, hcm, q3])) (by simp)
   ·
    have hov := of_decide_eq_false q3
    have hst := rd_step (decV (t.take k)) _ hd9 (by omega)
    refine WP.skip ?_
    show WP _ _ _ _ _ _
    refine WP.region (by kernel_rfl) fun K hK => ?_
    simp (decide := true) only [TF, q1, q2, hg, hdc, hcm, q3, hst, List.take_length, h45t, gt0, le1, ↓reduceIte, Int.reduceToNat]
    refine hK _ _ ?_; clear hK K
    show WP _ _ _ _ _ _
    refine WP.region (by kernel_rfl) fun K hK => ?_
    simp (decide := true) only [TF, q1, q2, hg, hdc, hcm, q3, hst, List.take_length, h45t, gt0, le1, ↓reduceIte, Int.reduceToNat]
    refine hK _ _ ?_; clear hK K
    show ∃ y, _ ∧ Weak _ _ _
    refine ⟨⟨k + 1, ?_⟩, ?_, Weak.nil ?_ ?_⟩
    · exact ⟨by omega, by omega⟩
    · dsimp only; omega
    · simp [St.get, lk, W, Le.refl, htk, hst, wrapS hlt hL]
    · simp [W]
  ·
   have hge := ge_of_q q2
   obtain rfl : k = t.length := by omega
   rw [List.take_length] at hI
   refine WP.exit ?_
   show WP _ _ _ _ _ _
   refine WP.seq ?_
   refine WP.sr [4, 7, 48] (by kernel_rfl) fun K hK => ?_
   simp (decide := true) only [TF, q1, q2, List.take_length, h45t, gt0, le1, ↓reduceIte, Int.reduceToNat]
   refine hK _ _ ?_; clear hK K
   refine WP.cond (b := true) (by rfl) (fun _ => ?_) nofun
   refine WP.sr [2, 3] (by kernel_rfl) fun K hK => ?_
   simp (decide := true) only [TF, q1, q2, List.take_length, h45t, gt0, le1, ↓reduceIte, Int.reduceToNat]
   refine hK _ _ ?_; clear hK K
   refine WP.ret ?_
   exact Ends.pure (d := .tup [_, _]) (.inr rfl) rfl (Le.of_eq (by simp [St.get, lk, W, bne, rdD, rdN, hok, hI])) (by simp)
theorem c_r_readint_pos (s : List UInt8) (hs : s.length ≤ 1099511627776) (hne : 0 < s.length) (hc : ¬ s[0] = 45) : CallP Pr 79 [.str (s)] (rdD (s)) := by
 have hL : s.length ≤ 140737488355328 := by omega
 have hn45 := ne45 hc
 have e0 := getE hne
 have gt0 := gt0s hne
 have hrn := rdN_pos s hne hc
 refine CallP.of_wp Tryz.func79 rfl (by kernel_rfl) Tryz.ntmps79 (by simp) ?_
 simp only [frameOf, Nat.reduceAdd, Nat.zero_add]
 refine WP.sr [0] (by kernel_rfl) fun K hK => ?_
 simp (decide := true) only [TF, hn45, e0, gt0, List.take_length, h45t, le1, ↓reduceIte, Int.reduceToNat]
 refine hK _ _ ?_; clear hK K
 refine WP.sr [0, 4] (by kernel_rfl) fun K hK => ?_
 simp (decide := true) only [TF, hn45, e0, gt0, List.take_length, h45t, le1, ↓reduceIte, Int.reduceToNat]
 refine hK _ _ ?_; clear hK K
 refine WP.sr [0, 4, 5] (by kernel_rfl) fun K hK => ?_
 simp (decide := true) only [TF, hn45, e0, gt0, List.take_length, h45t, le1, ↓reduceIte, Int.reduceToNat]
 refine hK _ _ ?_; clear hK K
 refine WP.sr [0, 4, 5, 6] (by kernel_rfl) fun K hK => ?_
 simp (decide := true) only [TF, hn45, e0, gt0, List.take_length, h45t, le1, ↓reduceIte, Int.reduceToNat]
 refine hK _ _ ?_; clear hK K
 refine WP.seq ?_
 refine WP.sr [0, 4, 5, 6, 19] (by kernel_rfl) fun K hK => ?_
 simp (decide := true) only [TF, hn45, e0, gt0, List.take_length, h45t, le1, ↓reduceIte, Int.reduceToNat]
 refine hK _ _ ?_; clear hK K
 refine WP.cond (b := false) (by rfl) nofun (fun _ => ?_)
 refine WP.skip ?_
 show WP _ _ _ _ _ _
 refine WP.seq ?_
 refine WP.sr [4, 5, 6, 26] (by kernel_rfl) fun K hK => ?_
 simp (decide := true) only [TF, hn45, e0, gt0, List.take_length, h45t, le1, ↓reduceIte, Int.reduceToNat]
 refine CallK.pure (c_r_decimal (s) true (by omega)) rfl rfl (by simp [-List.map_take]) ?_
 simp (decide := true) only [TF, hn45, e0, gt0, List.take_length, h45t, le1, ↓reduceIte, Int.reduceToNat]
 refine hK _ _ ?_; clear hK K
 refine WP.cond (b := _) rfl (fun q1 => ?_) (fun q1 => ?_)
 ·
  simp only [Bool.not_eq_true', Bool.not_eq_false'] at q1
  have hok : decOk s true = false := by simpa using q1
  refine WP.sr [2, 3] (by kernel_rfl) fun K hK => ?_
  simp (decide := true) only [TF, hn45, e0, gt0, q1, List.take_length, h45t, le1, ↓reduceIte, Int.reduceToNat]
  refine hK _ _ ?_; clear hK K
  refine WP.ret ?_
  exact Ends.pure (d := .tup [_, _]) (.inr rfl) rfl (Le.of_eq (by simp [St.get, lk, W, bne, rdD, hrn, hok])) (by simp)
 ·
  simp only [Bool.not_eq_true', Bool.not_eq_false'] at q1
  have hok : decOk s true = true := by simpa using q1
  have hall := decOk_all hok
  refine WP.skip ?_
  show WP _ _ _ _ _ _
  refine WP.sr [4, 5, 6, 7] (by kernel_rfl) fun K hK => ?_
  simp (decide := true) only [TF, hn45, e0, gt0, q1, List.take_length, h45t, le1, ↓reduceIte, Int.reduceToNat]
  refine hK _ _ ?_; clear hK K
  refine WP.seq ?_
  refine WP.sr [4, 5, 6, 7, 8] (by kernel_rfl) fun K hK => ?_
  simp (decide := true) only [TF, hn45, e0, gt0, q1, List.take_length, h45t, le1, ↓reduceIte, Int.reduceToNat]
  refine hK _ _ ?_; clear hK K
  refine WP.block ?_
  refine WP.lp [4, 5, 6] (X := {k : Nat // k ≤ s.length ∧ decV (s.take k) ≤ 9223372036854775808}) (fun x => match x with | ⟨(k), _⟩ => [(7, .int .i64 (-(decV (s.take k) : Int))), (8, .int .i64 k)]) (fun x => match x with | ⟨(k), _⟩ => []) (fun x => match x with | ⟨(k), _⟩ => s.length - k) (by simp (decide := true) only [W, ↓reduceIte, Int.reduceToNat]; rfl) ?_ ⟨(0), ⟨Nat.zero_le _, by simp [decV]⟩⟩ ?_
  rotate_left
  · exact Weak.nil (by simp [St.get, lk, W, Le.refl, decV, hn45, e0, gt0, q1]) (by simp)
  rintro ⟨k, hk, hI⟩
  dsimp only
  simp only [List.cons_append, List.nil_append]
  refine WP.seq ?_
  refine WP.sr [4, 5, 6, 7, 8, 30] (by kernel_rfl) fun K hK => ?_
  simp (decide := true) only [TF, hn45, e0, gt0, q1, List.take_length, h45t, le1, ↓reduceIte, Int.reduceToNat]
  refine hK _ _ ?_; clear hK K
  refine WP.cond (b := _) rfl (fun q2 => ?_) (fun q2 => ?_)
  ·
   have hlt := lt_of_q q2
   have hg := getE hlt
   have hdg := all_at hall hlt
   have hdc := dig_conv _ hdg
   have hd9 := dig_le _ hdg
   have hcm := rd_cmp (decV (s.take k)) _ hI hd9
   have htk := decV_take s k hlt
   have hle := decV_le s (k + 1)
   refine WP.skip ?_
   show WP _ _ _ _ _ _
   refine WP.seq ?_
   refine WP.block ?_
   refine WP.sr [4, 5, 6, 7, 8, 9] (by kernel_rfl) fun K hK => ?_
   simp (decide := true) only [TF, hn45, e0, gt0, q1, q2, hg, hdc, hcm, List.take_length, h45t, le1, ↓reduceIte, Int.reduceToNat]
   refine hK _ _ ?_; clear hK K
   refine WP.seq ?_
   refine WP.sr [4, 5, 6, 7, 8, 9, 43] (by kernel_rfl) fun K hK => ?_
   simp (decide := true) only [TF, hn45, e0, gt0, q1, q2, hg, hdc, hcm, List.take_length, h45t, le1, ↓reduceIte, Int.reduceToNat]
   refine hK _ _ ?_; clear hK K
   refine WP.cond (b := _) rfl (fun q3 => ?_) (fun q3 => ?_)
   ·
    have hov : 9223372036854775808 < decV (s.take k) * 10 + (s[k].toNat - 48) := of_decide_eq_true q3
    have hbig : ¬ decV (s) < 9223372036854775808 := by omega
    refine WP.sr [2, 3] (by kernel_rfl) fun K hK => ?_
    simp (decide := true) only [TF, hn45, e0, gt0, q1, q2, hg, hdc, hcm, q3, List.take_length, h45t, le1, ↓reduceIte, Int.reduceToNat]
    refine hK _ _ ?_; clear hK K
    refine WP.ret ?_
    exact Ends.pure (d := .tup [_, _]) (.inr rfl) rfl (Le.of_eq (by simp [St.get, lk, W, bne, rdD, hrn, hok, hbig, hn45, e0, gt0, q1, q2, hg, hdc, hcm, q3])) (by simp)
   ·
    have hov := of_decide_eq_false q3
    have hst := rd_step (decV (s.take k)) _ hd9 (by omega)
    refine WP.skip ?_
    show WP _ _ _ _ _ _
    refine WP.region (by kernel_rfl) fun K hK => ?_
    simp (decide := true) only [TF, hn45, e0, gt0, q1, q2, hg, hdc, hcm, q3, hst, List.take_length, h45t, le1, ↓reduceIte, Int.reduceToNat]
    refine hK _ _ ?_; clear hK K
    show WP _ _ _ _ _ _
    refine WP.region (by kernel_rfl) fun K hK => ?_
    simp (decide := true) only [TF, hn45, e0, gt0, q1, q2, hg, hdc, hcm, q3, hst, List.take_length, h45t, le1, ↓reduceIte, Int.reduceToNat]
    refine hK _ _ ?_; clear hK K
    show ∃ y, _ ∧ Weak _ _ _
    refine ⟨⟨k + 1, ?_⟩, ?_, Weak.nil ?_ ?_⟩
    · exact ⟨by omega, by omega⟩
    · dsimp only; omega
    · simp [St.get, lk, W, Le.refl, htk, hst, wrapS hlt hL]
    · simp [W]
  ·
   have hge := ge_of_q q2
   obtain rfl : k = s.length := by omega
   rw [List.take_length] at hI
   refine WP.exit ?_
   show WP _ _ _ _ _ _
   refine WP.seq ?_
   refine WP.sr [4, 7, 48] (by kernel_rfl) fun K hK => ?_
   simp (decide := true) only [TF, hn45, e0, gt0, q1, q2, List.take_length, h45t, le1, ↓reduceIte, Int.reduceToNat]
   refine hK _ _ ?_; clear hK K
   refine WP.cond (b := false) (by rfl) nofun (fun _ => ?_)
   refine WP.skip ?_
   show WP _ _ _ _ _ _
   refine WP.seq ?_
   refine WP.sr [7, 52] (by kernel_rfl) fun K hK => ?_
   simp (decide := true) only [TF, hn45, e0, gt0, q1, q2, List.take_length, h45t, le1, ↓reduceIte, Int.reduceToNat]
   refine hK _ _ ?_; clear hK K
   refine WP.cond (b := _) rfl (fun q4 => ?_) (fun q4 => ?_)
   ·
    have he : ¬ decV (s) < 9223372036854775808 := by simp at q4; omega
    refine WP.sr [2, 3] (by kernel_rfl) fun K hK => ?_
    simp (decide := true) only [TF, hn45, e0, gt0, q1, q2, q4, List.take_length, h45t, le1, ↓reduceIte, Int.reduceToNat]
    refine hK _ _ ?_; clear hK K
    refine WP.ret ?_
    exact Ends.pure (d := .tup [_, _]) (.inr rfl) rfl (Le.of_eq (by first | (simp [St.get, lk, W, bne, rdD, hrn, hok, hbig, hn45, e0, gt0, q1, q2, q4]; done) | (simp [St.get, lk, W, bne, rdD, hrn, hok, hI]; done) | (simp [St.get, lk, W, bne, rdD, hrn, hok, he, hng]; done) | (simp [St.get, lk, W, bne, rdD, hrn, hok]; done) | (simp_all [rdD, rdN, St.get, lk, W]; try omega; done))) (by simp)
   ·
    have he : decV (s) < 9223372036854775808 := by simp at q4; omega
    have hng := rd_neg _ he
    refine WP.skip ?_
    show WP _ _ _ _ _ _
    refine WP.sr [2, 3] (by kernel_rfl) fun K hK => ?_
    simp (decide := true) only [TF, hn45, e0, gt0, q1, q2, q4, hng, List.take_length, h45t, le1, ↓reduceIte, Int.reduceToNat]
    refine hK _ _ ?_; clear hK K
    refine WP.ret ?_
    exact Ends.pure (d := .tup [_, _]) (.inr rfl) rfl (Le.of_eq (by simp [St.get, lk, W, bne, rdD, hrn, hok, he, hng])) (by simp)
theorem c_r_readint (s : List UInt8) (hs : s.length ≤ 1099511627776) : CallP Pr 79 [.str s] (rdD s) := by
 match s, hs with
 | [], _ => exact c_r_readint_nil
 | c :: t, hs =>
  by_cases h : c = 45
  · subst h; exact c_r_readint_neg t (by simp at hs; omega)
  · exact c_r_readint_pos (c :: t) hs (by simp) (by simpa using h)
end Go.Proofs
