import Derived.Test.YtabkoicelflhcaaGreatDoorG09
set_option linter.unusedVariables false
set_option linter.unusedSimpArgs false
/-
  Plain: text forms. What is written is read again, and what is read is written again. Conditions: as each theorem says.
-/
set_option linter.unusedSimpArgs false
set_option linter.unusedVariables false
namespace Go.Proofs
open Go Go.Id
/-! Numerals. -/
theorem dig_nat (d : Nat) (h : d < 10) : (UInt8.ofNat (48 + d)).toNat = 48 + d := by
  simp only [UInt8.toNat_ofNat']; omega
theorem decV_dec (u : Nat) : decV (Lib.decDigits u) = u := by
  induction u using Nat.strongRecOn with
  | ind u ih =>
    by_cases h : u < 10
    · rw [decDigits_small u h]
      have := dig_nat u h
      simp only [decV, List.foldl_cons, List.foldl_nil]
      omega
    · rw [decDigits_step u (by omega), decV_snoc, ih (u / 10) (by omega), dig_nat (u % 10) (by omega)]
      omega
theorem dgB_dig (d : Nat) (h : d < 10) : dgB ((UInt8.ofNat (48 + d)).toNat : Int) = true := by
  rw [dig_nat d h]; simp [dgB]; omega
theorem dec_all (u : Nat) : (Lib.decDigits u).all (fun c => dgB c.toNat) = true := by
  induction u using Nat.strongRecOn with
  | ind u ih =>
    by_cases h : u < 10
    · rw [decDigits_small u h, List.all_cons, dgB_dig u h]; rfl
    · rw [decDigits_step u (by omega), List.all_append, ih (u / 10) (by omega), List.all_cons, dgB_dig _ (by omega)]; rfl
theorem dec_ne (u : Nat) : ∃ c t, Lib.decDigits u = c :: t ∧ 48 ≤ c.toNat ∧ c.toNat ≤ 57 ∧ (0 < u → c.toNat ≠ 48) := by
  induction u using Nat.strongRecOn with
  | ind u ih =>
    by_cases h : u < 10
    · rw [decDigits_small u h]
      have := dig_nat u h
      exact ⟨_, _, rfl, by omega, by omega, by omega⟩
    · obtain ⟨c, t, h1, h2, h3, h4⟩ := ih (u / 10) (by omega)
      rw [decDigits_step u (by omega), h1]
      exact ⟨c, _, rfl, h2, h3, fun _ => h4 (by omega)⟩
theorem chAt_cons (c : UInt8) (t : List UInt8) : chAt (c :: t) 0 = c.toNat := rfl
theorem decOk_dec (u : Nat) (z : Bool) (h : 0 < u ∨ z = true) : decOk (Lib.decDigits u) z = true := by
  have ha := dec_all u
  obtain ⟨c, t, h1, h2, h3, h4⟩ := dec_ne u
  unfold decOk
  rw [ha, h1, chAt_cons]
  by_cases h0 : 0 < u
  · have : ((c.toNat : Int) == 48) = false := by simp; have := h4 h0; omega
    simp [this]
  · have hz : z = true := h.elim (fun h => absurd h h0) id
    obtain rfl : u = 0 := by omega
    rw [decDigits_small 0 (by omega)] at h1
    cases h1
    subst hz
    simp
theorem rdN_itoa (n : Int) (h0 : -9223372036854775808 ≤ n) (h1 : n ≤ 9223372036854775807) : rdN (Lib.itoa n) = (n, 0) := by
  by_cases h : n < 0
  · rw [itoa_neg n h]
    have hu : decV (Lib.decDigits n.natAbs) = n.natAbs := decV_dec _
    simp only [rdN, ↓reduceIte, decOk_dec n.natAbs false (.inl (by omega)), hu]
    rw [if_pos (by omega)]
    congr 1; omega
  · rw [itoa_pos n h]
    have hu : decV (Lib.decDigits n.natAbs) = n.natAbs := decV_dec _
    have hd := decOk_dec n.natAbs true (.inr rfl)
    obtain ⟨c, t, e1, e2, e3, e4⟩ := dec_ne n.natAbs
    rw [e1] at hu hd ⊢
    have hc : ¬ c = 45 := by intro hc; subst hc; simp at e2
    simp only [rdN, hc, ↓reduceIte, hd, hu]
    rw [if_pos (by omega)]
    congr 1; omega
theorem dgB_iff (c : UInt8) (h : dgB c.toNat = true) : 48 ≤ c.toNat ∧ c.toNat ≤ 57 ∧ UInt8.ofNat (48 + (c.toNat - 48)) = c := by
  simp only [dgB, Bool.and_eq_true, decide_eq_true_eq] at h
  refine ⟨by omega, by omega, ?_⟩
  rw [show 48 + (c.toNat - 48) = c.toNat by omega]
  exact UInt8.ofNat_toNat
theorem dec_decV : ∀ (n : Nat) (t : List UInt8), t.length = n + 1 → t.all (fun c => dgB c.toNat) = true → (chAt t 0 ≠ 48 ∨ n = 0) → Lib.decDigits (decV t) = t
  | 0, t, hl, ha, _ => by
    match t, hl with
    | [c], _ =>
      simp only [List.all_cons, List.all_nil, Bool.and_true] at ha
      obtain ⟨h1, h2, h3⟩ := dgB_iff c ha
      have : decV [c] = c.toNat - 48 := by simp [decV]
      rw [this, decDigits_small _ (by omega), h3]
  | n + 1, t, hl, ha, hh => by
    have hne : t ≠ [] := by rintro rfl; simp at hl
    obtain ⟨a, c, rfl⟩ : ∃ a c, t = a ++ [c] := ⟨t.dropLast, t.getLast hne, (List.dropLast_concat_getLast hne).symm⟩
    have hal : a.length = n + 1 := by simpa using hl
    simp only [List.all_append, List.all_cons, List.all_nil, Bool.and_true, Bool.and_eq_true] at ha
    obtain ⟨h1, h2, h3⟩ := dgB_iff c ha.2
    have hch : chAt (a ++ [c]) 0 = chAt a 0 := by
      match a, hal with
      | x :: a, _ => rfl
    rw [hch] at hh
    have hh : chAt a 0 ≠ 48 := hh.elim id (fun h => by omega)
    have ih := dec_decV n a hal ha.1 (.inl hh)
    have hp : decV a ≠ 0 := by
      intro h0
      rw [h0, decDigits_small 0 (by omega)] at ih
      rw [← ih] at hh
      exact hh rfl
    rw [decV_snoc, decDigits_step _ (by omega), show (decV a * 10 + (c.toNat - 48)) / 10 = decV a by omega, show (decV a * 10 + (c.toNat - 48)) % 10 = c.toNat - 48 by omega, ih, h3]
theorem decOk_dec' {t : List UInt8} {z : Bool} (h : decOk t z = true) : Lib.decDigits (decV t) = t ∧ (z = false → 0 < decV t) := by
  simp only [decOk, Bool.and_eq_true, Bool.not_eq_true', beq_eq_false_iff_ne, Bool.and_eq_false_iff, Bool.or_eq_false_iff, decide_eq_false_iff_not] at h
  obtain ⟨⟨h1, h2⟩, h3⟩ := h
  have hl : t.length = (t.length - 1) + 1 := by
    have := List.length_pos_iff.2 h1
    omega
  have key := dec_decV (t.length - 1) t hl h3 (by
    rcases h2 with h2 | ⟨h2, _⟩
    · exact .inl h2
    · right; omega)
  refine ⟨key, fun hz => ?_⟩
  have h48 : chAt t 0 ≠ 48 := by
    rcases h2 with h2 | ⟨_, h2⟩
    · exact h2
    · simp [hz] at h2
  rcases Nat.eq_zero_or_pos (decV t) with h0 | h0
  · rw [h0, decDigits_small 0 (by omega)] at key
    rw [← key] at h48
    exact absurd rfl h48
  · exact h0
theorem itoa_rdN {s : List UInt8} (h : (rdN s).2 = 0) : Lib.itoa (rdN s).1 = s := by
  match s with
  | [] => simp [rdN] at h
  | c :: t =>
    by_cases hc : c = 45
    · subst hc
      cases hd : decOk t false with
      | false => simp [rdN, hd] at h
      | true =>
        by_cases hv : decV t ≤ 9223372036854775808
        · obtain ⟨h1, h2⟩ := decOk_dec' hd
          have h2 := h2 rfl
          simp only [rdN, ↓reduceIte, hd, if_pos hv]
          rw [itoa_neg _ (by omega), show (-(decV t : Int)).natAbs = decV t by omega, h1]
        · simp [rdN, hd, if_neg hv] at h
    · cases hd : decOk (c :: t) true with
      | false => simp [rdN, hd, hc] at h
      | true =>
        by_cases hv : decV (c :: t) < 9223372036854775808
        · obtain ⟨h1, h2⟩ := decOk_dec' hd
          simp only [rdN, hc, ↓reduceIte, hd, if_pos hv]
          rw [itoa_pos _ (by omega), show ((decV (c :: t) : Int)).natAbs = decV (c :: t) by omega, h1]
        · simp [rdN, hd, hc, if_neg hv] at h
/-! Escapes. -/
theorem escB_unB {v x : List UInt8} (h : unB v = some x) : escB x = v := ((unB_unR v.length v (Nat.le_refl _) x).1 h).2
theorem unB_escC (c : UInt8) (t : List UInt8) : unB (escC c ++ t) = (unB t).map (c :: ·) := by
  unfold escC
  cases hp : plainB c.toNat with
  | true => simp only [if_true, List.cons_append, List.nil_append]; rw [unB_cons, hp, if_pos rfl]
  | false =>
    have hb : hexB (hexD (c.toNat / 16)) (hexD (c.toNat % 16)) = c := by
      have hq : c.toNat / 16 < 16 := by have := c.toNat_lt; omega
      unfold hexB
      rw [hexv_hexD _ hq, hexv_hexD _ (by omega)]
      simp only [Int.toNat_natCast]
      rw [show c.toNat / 16 * 16 + c.toNat % 16 = c.toNat by omega]
      exact UInt8.ofNat_toNat
    have hq : ¬ hexv (hexD (c.toNat / 16)) < 0 := by rw [hexv_hexD _ (by have := c.toNat_lt; omega)]; omega
    have hr : ¬ hexv (hexD (c.toNat % 16)) < 0 := by rw [hexv_hexD _ (by omega)]; omega
    simp only [Bool.false_eq_true, if_false, List.cons_append, List.nil_append]
    rw [unB_cons, not37, if_neg (by simp), if_pos rfl]
    simp only [unHex, hb, hp, hq, hr, or_self, Bool.false_eq_true, if_false]
theorem unB_escB : ∀ s : List UInt8, unB (escB s) = some s
  | [] => by simp [escB, unB]
  | c :: t => by
    show unB (escC c ++ escB t) = _
    rw [unB_escC, unB_escB t]; rfl
/-- A word of a line: not empty, no space, no end of a line. -/
def wfW (w : List UInt8) : Prop := w ≠ [] ∧ (32 : UInt8) ∉ w ∧ (10 : UInt8) ∉ w
theorem hexD_32 : ∀ n, n < 16 → hexD n ≠ 32 ∧ hexD n ≠ 10 := by decide +kernel
theorem escC_w (c : UInt8) : (32 : UInt8) ∉ escC c ∧ (10 : UInt8) ∉ escC c := by
  unfold escC
  cases hp : plainB c.toNat with
  | true =>
    simp only [if_true, List.mem_singleton]
    constructor <;> (rintro rfl; revert hp; decide)
  | false =>
    have h1 := hexD_32 (c.toNat / 16) (by have := c.toNat_lt; omega)
    have h2 := hexD_32 (c.toNat % 16) (by omega)
    simp only [Bool.false_eq_true, if_false, List.mem_cons, List.not_mem_nil, or_false, not_or]
    exact ⟨⟨by decide, h1.1.symm, h2.1.symm⟩, ⟨by decide, h1.2.symm, h2.2.symm⟩⟩
theorem escB_w {s : List UInt8} (h : s ≠ []) : wfW (escB s) := by
  refine ⟨fun h0 => ?_, ?_, ?_⟩
  · have := escB_ge s
    rw [h0] at this
    exact h (List.eq_nil_of_length_eq_zero (by simpa using this))
  all_goals
    intro hm
    obtain ⟨c, _, hc⟩ := List.mem_flatMap.1 hm
    first | exact (escC_w c).1 hc | exact (escC_w c).2 hc
theorem wordc_w (c : UInt8) (h : wordcB c.toNat = true) : c ≠ 32 ∧ c ≠ 10 := by
  constructor <;> (rintro rfl; revert h; decide)
theorem wordB_w {s : List UInt8} (h : wordB s = true) : wfW s := by
  simp only [wordB, Bool.and_eq_true, List.all_eq_true, Bool.not_eq_true', beq_eq_false_iff_ne] at h
  exact ⟨h.1.2, fun hm => (wordc_w _ (h.1.1 _ hm)).1 rfl, fun hm => (wordc_w _ (h.1.1 _ hm)).2 rfl⟩
theorem dec_w (u : Nat) : (32 : UInt8) ∉ Lib.decDigits u ∧ (10 : UInt8) ∉ Lib.decDigits u := by
  have := dec_all u
  simp only [List.all_eq_true] at this
  constructor <;> (intro hm; have := this _ hm; revert this; decide)
theorem itoa_w (n : Int) : wfW (Lib.itoa n) := by
  obtain ⟨c, t, h1, _⟩ := dec_ne n.natAbs
  by_cases h : n < 0
  · rw [itoa_neg n h]
    have := dec_w n.natAbs
    refine ⟨by simp, ?_, ?_⟩ <;> simp [this]
  · rw [itoa_pos n h]
    exact ⟨by rw [h1]; simp, dec_w _⟩
/-! Cutting and joining. -/
theorem cutA_app (c : UInt8) : ∀ (w acc r : List UInt8), c ∉ w → cutA c acc (w ++ r) = cutA c (acc ++ w) r
  | [], acc, r, _ => by simp
  | x :: w, acc, r, h => by
    have hx : ((x.toNat : Int) == (c.toNat : Int)) = false := by
      rw [u8_beq]; simp; rintro rfl; exact h (by simp)
    rw [List.cons_append, cutA, hx]
    simp only [Bool.false_eq_true, if_false]
    rw [cutA_app c w _ r (fun hm => h (List.mem_cons_of_mem _ hm))]
    simp
theorem cutA_sep (c : UInt8) (acc r : List UInt8) : cutA c acc (c :: r) = acc :: cutA c [] r := by
  rw [cutA, u8_beq]; simp
theorem cutA_word (c : UInt8) (w : List UInt8) (h : c ∉ w) : cutA c [] w = [w] := by
  have := cutA_app c w [] [] h
  simpa [cutA] using this
theorem joinT (c : UInt8) (x y : List UInt8) (r : Wds) : Lib.join (x :: y :: r) [c] = x ++ c :: Lib.join (y :: r) [c] := by
  simp [Lib.join, List.intercalate]
theorem cut_join (c : UInt8) : ∀ (ws : Wds), ws ≠ [] → (∀ w ∈ ws, c ∉ w) → cutA c [] (Lib.join ws [c]) = ws
  | [], h, _ => absurd rfl h
  | [x], _, h => by rw [Lib.join_one]; exact cutA_word c x (h x (by simp))
  | x :: y :: r, _, h => by
    rw [joinT, cutA_app c x _ _ (h x (by simp)), cutA_sep, cut_join c (y :: r) (by simp) (fun w hw => h w (List.mem_cons_of_mem _ hw))]
    rfl
theorem join_cut (c : UInt8) : ∀ (s acc : List UInt8), Lib.join (cutA c acc s) [c] = acc ++ s
  | [], acc => by rw [cutA, Lib.join_one]; simp
  | x :: s, acc => by
    rw [cutA, u8_beq]
    by_cases h : x = c
    · subst h
      simp only [beq_self_eq_true, if_true]
      obtain ⟨a, t, e⟩ := cutA_ne x s
      have ih := join_cut x s []
      rw [e] at ih ⊢
      rw [joinT, ih]; simp
    · have : (x == c) = false := by simpa using h
      simp only [this, Bool.false_eq_true, if_false]
      rw [join_cut c s]; simp
theorem cutA_no (c : UInt8) : ∀ (s acc : List UInt8), c ∉ acc → ∀ w ∈ cutA c acc s, c ∉ w
  | [], acc, h, w, hw => by rw [cutA, List.mem_singleton] at hw; subst hw; exact h
  | x :: s, acc, h, w, hw => by
    rw [cutA, u8_beq] at hw
    by_cases hx : x = c
    · simp only [hx, beq_self_eq_true, if_true, List.mem_cons] at hw
      rcases hw with rfl | hw
      · exact h
      · exact cutA_no c s [] (by simp) w hw
    · have : (x == c) = false := by simpa using hx
      simp only [this, Bool.false_eq_true, if_false] at hw
      exact cutA_no c s _ (by simp [h]; exact fun e => hx e.symm) w hw
end Go.Proofs

/-
  Plain: rings that are valid; which key signs and which is accepted, after a rotation and after pruning. Conditions: as each theorem says.
-/
set_option linter.unusedSimpArgs false
set_option linter.unusedVariables false
namespace Go.Proofs
open Go Go.Id
def Key.good (k : Key) : Prop := wordB k.id = true ∧ cleanB k.sec = true ∧ windowsB k = true
theorem keyE_iff (seen : List Key) (k : Key) : keyE seen k = 0 ↔ k.good ∧ ∀ q ∈ seen, q.id ≠ k.id := by
  have ha : seen.any (fun q => q.id == k.id) = false ↔ ∀ q ∈ seen, q.id ≠ k.id := by simp
  rw [← ha]
  unfold keyE Key.good
  cases h1 : wordB k.id <;> cases h2 : cleanB k.sec <;> cases h3 : windowsB k <;> cases h4 : seen.any (fun q => q.id == k.id) <;> simp
theorem chkK_iff : ∀ (l seen : List Key), chkK seen l = 0 ↔ (∀ k ∈ l, k.good) ∧ (∀ k ∈ l, ∀ q ∈ seen, q.id ≠ k.id) ∧ l.Pairwise (fun a b => a.id ≠ b.id)
  | [], seen => by simp [chkK]
  | k :: t, seen => by
    rw [chkK]
    split
    · rename_i h
      have h0 : ¬ keyE seen k = 0 := by simpa using h
      constructor
      · intro e; exact absurd e h0
      · rintro ⟨a, b, _⟩
        exact absurd ((keyE_iff seen k).2 ⟨a k (by simp), fun q hq => b k (by simp) q hq⟩) h0
    · rename_i h
      have h0 : keyE seen k = 0 := by simpa using h
      obtain ⟨g, u⟩ := (keyE_iff seen k).1 h0
      rw [chkK_iff t (seen ++ [k])]
      simp only [List.mem_cons, forall_eq_or_imp, List.mem_append, List.not_mem_nil, or_false, List.pairwise_cons]
      constructor
      · rintro ⟨a, b, c⟩
        exact ⟨⟨g, a⟩, ⟨u, fun x hx q hq => b x hx q (.inl hq)⟩, fun x hx => b x hx k (.inr rfl), c⟩
      · rintro ⟨⟨_, a⟩, ⟨_, b⟩, d, c⟩
        refine ⟨a, fun x hx q hq => ?_, c⟩
        rcases hq with hq | rfl
        · exact b x hx q hq
        · exact d x hx
theorem checkK_iff (l : List Key) : checkK l = 0 ↔ l.length ≤ 16 ∧ (∀ k ∈ l, k.good) ∧ l.Pairwise (fun a b => a.id ≠ b.id) := by
  rw [checkK]
  split
  · rename_i h
    have : ¬ l.length ≤ 16 := by simp at h; omega
    simp [this]
  · rename_i h
    have : l.length ≤ 16 := by simp at h; omega
    rw [chkK_iff]
    simp [this]
theorem good_id {k : Key} (h : k.good) : k.id ≠ [] := by
  intro e
  have := h.1
  rw [e] at this
  simp [wordB] at this
theorem win_iff (k : Key) : windowsB k = true ↔ 0 ≤ k.af ∧ k.af ≤ k.sf ∧ k.sf ≤ k.su ∧ k.su ≤ k.au ∧ k.au ≤ 1099511627776 ∧ k.af < k.au := by
  simp only [windowsB, Bool.and_eq_true, decide_eq_true_eq]
  constructor <;> intro h <;> omega
theorem in_iff (f u t : Int) : inB f u t = true ↔ f ≤ limB t ∧ limB t < u := by simp only [inB, Bool.and_eq_true, decide_eq_true_eq]
theorem good_win {k : Key} (h : k.good) : 0 ≤ k.af ∧ k.af ≤ k.sf ∧ k.sf ≤ k.su ∧ k.su ≤ k.au ∧ k.au ≤ 1099511627776 ∧ k.af < k.au := by
  exact (win_iff k).1 h.2.2
/-- Who signs is a key of the ring, in its window. -/
theorem sgL_mem (now : Int) : ∀ (l : List Key) (b : Key), sgL now b l = b ∨ (sgL now b l ∈ l ∧ inB (sgL now b l).sf (sgL now b l).su now = true)
  | [], b => .inl rfl
  | k :: t, b => by
    rw [sgL_cons]
    split
    · rename_i h
      rw [Bool.and_eq_true] at h
      rcases sgL_mem now t k with e | ⟨h1, h2⟩
      · exact .inr (by rw [e]; exact ⟨by simp, h.1⟩)
      · exact .inr ⟨by simp [h1], h2⟩
    · rcases sgL_mem now t b with e | ⟨h1, h2⟩
      · exact .inl e
      · exact .inr ⟨by simp [h1], h2⟩
theorem sgK_some {l : List Key} {now : Int} (h : eqK (sgK l now) zeroK = false) : checkK l = 0 ∧ sgK l now ∈ l ∧ inB (sgK l now).sf (sgK l now).su now = true := by
  unfold sgK at h ⊢
  split at h
  · rw [(eqK_iff _ _).2 rfl] at h; cases h
  · rename_i hc
    have hc0 : checkK l = 0 := by simpa using hc
    rw [if_neg hc]
    rcases sgL_mem now l zeroK with e | h1
    · rw [e, (eqK_iff _ _).2 rfl] at h; cases h
    · exact ⟨hc0, h1⟩
theorem eqK_false {a b : Key} : eqK a b = false ↔ a ≠ b := by
  rw [Ne, ← eqK_iff]; simp
theorem accD_at (id : List UInt8) (now skew : Int) : ∀ (l : List Key) (k : Key), k ∈ l → k.id = id → l.Pairwise (fun a b => a.id ≠ b.id) → accD l id now skew = if (chkW k.af k.au now skew != 0) = true then (zeroK, chkW k.af k.au now skew) else (k, 0)
  | q :: t, k, hk, hid, hp => by
    rw [accD_cons]
    rcases List.mem_cons.1 hk with rfl | hk
    · rw [if_pos (by simp [hid])]
    · have hne : q.id ≠ k.id := (List.pairwise_cons.1 hp).1 k hk
      rw [if_neg (by rw [← hid]; simpa using hne)]
      exact accD_at id now skew t k hk hid (List.pairwise_cons.1 hp).2
theorem accD_none (id : List UInt8) (now skew : Int) : ∀ (l : List Key), (∀ k ∈ l, k.id ≠ id) → accD l id now skew = (zeroK, 26)
  | [], _ => rfl
  | q :: t, h => by
    rw [accD_cons, if_neg (by simpa using h q (by simp))]
    exact accD_none id now skew t fun k hk => h k (by simp [hk])
theorem chkW_in {k : Key} {now skew : Int} (h : k.good) (hi : inB k.sf k.su now = true) : chkW k.af k.au now skew = 0 := by
  have hw := good_win h
  have hs := skB_lo skew
  simp only [inB, Bool.and_eq_true, decide_eq_true_eq] at hi
  unfold chkW
  rw [if_neg (by simp; omega), if_neg (by simp; omega), if_neg (by simp; omega)]
/-- A key that signs at an instant is accepted at it. -/
theorem sign_acc {l : List Key} {now : Int} (skew : Int) (h : eqK (sgK l now) zeroK = false) : accD l (sgK l now).id now skew = (sgK l now, 0) := by
  obtain ⟨h1, h2, h3⟩ := sgK_some h
  obtain ⟨_, hg, hp⟩ := (checkK_iff l).1 h1
  rw [accD_at _ now skew l _ h2 rfl hp, if_neg (by rw [chkW_in (hg _ h2) h3]; decide)]
/-! Rotation. -/
theorem cutI_win {t f u : Int} (h : f ≤ u) : f ≤ cutI t f u ∧ cutI t f u ≤ u ∧ (cutI t f u ≤ t ∨ cutI t f u = f) := by
  unfold cutI
  repeat' split
  all_goals omega
theorem cut_good {t : Int} {k : Key} (h : k.good) : (cutK t k).good := by
  have hw := good_win h
  have hc := cutI_win (t := t) hw.2.2.1
  refine ⟨h.1, h.2.1, (win_iff _).2 ?_⟩
  show 0 ≤ k.af ∧ k.af ≤ k.sf ∧ k.sf ≤ cutI t k.sf k.su ∧ cutI t k.sf k.su ≤ k.au ∧ k.au ≤ 1099511627776 ∧ k.af < k.au
  omega
theorem rotE_ok {l : List Key} {id sec : List UInt8} {now life : Int} (h : rotE l id sec now life = 0) :
    checkK l = 0 ∧ wordB id = true ∧ cleanB sec = true ∧ (∀ k ∈ l, k.id ≠ id) ∧ limB now < limB (limB now + limB life) ∧ l.length < 16 := by
  unfold rotE at h
  split at h
  · rename_i h1; rw [h] at h1; simp at h1
  rename_i h1
  split at h
  · cases h
  rename_i h2
  split at h
  · cases h
  rename_i h3
  split at h
  · cases h
  rename_i h4
  split at h
  · cases h
  rename_i h5
  split at h
  · cases h
  rename_i h6
  refine ⟨by simpa using h1, by simpa using h2, by simpa using h3, ?_, ?_, ?_⟩
  · intro k hk e
    apply h4
    rw [List.any_eq_true]
    exact ⟨k, hk, by simp [e]⟩
  · have : ¬ limB (limB now + limB life) ≤ limB now := by simpa using h5
    omega
  · have : ¬ (l.length : Int) ≥ 16 := by simpa using h6
    omega
theorem lim_le {a b : Int} (h : a ≤ b) : limB a ≤ limB b := by
  unfold limB; repeat' split
  all_goals omega
theorem newK_good {id sec : List UInt8} {now life : Int} (grace : Int) (h1 : wordB id = true) (h2 : cleanB sec = true) (h3 : limB now < limB (limB now + limB life)) : (newK id sec now life grace).good := by
  refine ⟨h1, h2, (win_iff _).2 ?_⟩
  have a := lim_lo now
  have b := lim_lo grace
  have c := lim_hi (limB (limB now + limB life) + limB grace)
  have d := lim_le (show limB (limB now + limB life) ≤ limB (limB now + limB life) + limB grace by omega)
  rw [lim_lim] at d
  show 0 ≤ limB now ∧ limB now ≤ limB now ∧ limB now ≤ limB (limB now + limB life) ∧ limB (limB now + limB life) ≤ limB (limB (limB now + limB life) + limB grace) ∧ limB (limB (limB now + limB life) + limB grace) ≤ 1099511627776 ∧ limB now < limB (limB (limB now + limB life) + limB grace)
  omega
theorem rot_check {l : List Key} {id sec : List UInt8} {now life : Int} (grace : Int) (h : rotE l id sec now life = 0) : checkK (l.map (cutK (limB now)) ++ [newK id sec now life grace]) = 0 := by
  obtain ⟨h1, h2, h3, h4, h5, h6⟩ := rotE_ok h
  obtain ⟨_, hg, hp⟩ := (checkK_iff l).1 h1
  refine (checkK_iff _).2 ⟨by simp; omega, ?_, ?_⟩
  · intro k hk
    rcases List.mem_append.1 hk with hk | hk
    · obtain ⟨q, hq, rfl⟩ := List.mem_map.1 hk
      exact cut_good (hg q hq)
    · rw [List.mem_singleton.1 hk]; exact newK_good grace h2 h3 h5
  · rw [List.pairwise_append]
    refine ⟨?_, by simp, ?_⟩
    · rw [List.pairwise_map]
      exact hp.imp fun {a b} h => h
    · intro a ha b hb
      obtain ⟨q, hq, rfl⟩ := List.mem_map.1 ha
      rw [List.mem_singleton.1 hb]
      exact h4 q hq
theorem sgL_app (now : Int) (b : Key) (l m : List Key) : sgL now b (l ++ m) = sgL now (sgL now b l) m := by
  induction l generalizing b with
  | nil => rfl
  | cons k t ih => rw [List.cons_append, sgL_cons, sgL_cons, ih]
theorem sgL_out {now : Int} {b : Key} : ∀ {l : List Key}, (∀ k ∈ l, inB k.sf k.su now = false) → sgL now b l = b
  | [], _ => rfl
  | k :: t, h => by
    rw [sgL_cons, if_neg (by rw [h k (by simp)]; simp)]
    exact sgL_out fun q hq => h q (by simp [hq])
/-- The new key signs as long as it lives. -/
theorem rot_sign {l : List Key} {id sec : List UInt8} {now life : Int} (grace t : Int) (h : rotE l id sec now life = 0) (h1 : limB now ≤ limB t) (h2 : limB t < limB (limB now + limB life)) :
    sgK (l.map (cutK (limB now)) ++ [newK id sec now life grace]) t = newK id sec now life grace := by
  obtain ⟨c1, c2, c3, c4, c5, c6⟩ := rotE_ok h
  obtain ⟨_, hg, hp⟩ := (checkK_iff l).1 c1
  have e1 : sgL t zeroK (l.map (cutK (limB now))) = zeroK := sgL_out fun k hk => by
    obtain ⟨q, hq, rfl⟩ := List.mem_map.1 hk
    have hw := good_win (hg q hq)
    have hc := cutI_win (t := limB now) hw.2.2.1
    cases hi : inB (cutK (limB now) q).sf (cutK (limB now) q).su t with
    | false => rfl
    | true =>
      have hi' : q.sf ≤ limB t ∧ limB t < cutI (limB now) q.sf q.su := (in_iff _ _ _).1 hi
      omega
  have hi : inB (newK id sec now life grace).sf (newK id sec now life grace).su t = true := (in_iff _ _ _).2 ⟨h1, h2⟩
  unfold sgK
  rw [if_neg (by rw [rot_check grace h]; decide), sgL_app, e1, sgL_cons, sgL_nil, hi, bestB_zero, Bool.true_and, if_pos rfl]
theorem acc_cut (t : Int) (id : List UInt8) (now skew : Int) (m : List Key) : ∀ (l : List Key), (∃ k ∈ l, k.id = id) → (accD (l.map (cutK t) ++ m) id now skew).2 = (accD l id now skew).2 ∧ (accD (l.map (cutK t) ++ m) id now skew).1.sec = (accD l id now skew).1.sec ∧
    (accD (l.map (cutK t) ++ m) id now skew).1.af = (accD l id now skew).1.af ∧ (accD (l.map (cutK t) ++ m) id now skew).1.au = (accD l id now skew).1.au
  | [], h => by obtain ⟨k, hk, _⟩ := h; simp at hk
  | q :: r, h => by
    rw [List.map_cons, List.cons_append, accD_cons, accD_cons]
    have e : (cutK t q).id = q.id := rfl
    have e1 : (cutK t q).af = q.af := rfl
    have e2 : (cutK t q).au = q.au := rfl
    rw [e, e1, e2]
    by_cases hq : (q.id == id) = true
    · rw [if_pos hq, if_pos hq]
      by_cases hc : (chkW q.af q.au now skew != 0) = true
      · rw [if_pos hc, if_pos hc]; exact ⟨rfl, rfl, rfl, rfl⟩
      · rw [if_neg hc, if_neg hc]; exact ⟨rfl, rfl, rfl, rfl⟩
    · rw [if_neg hq, if_neg hq]
      refine acc_cut t id now skew m r ?_
      obtain ⟨k, hk, hid⟩ := h
      rcases List.mem_cons.1 hk with rfl | hk
      · exact absurd (by simp [hid]) hq
      · exact ⟨k, hk, hid⟩
/-! Pruning. -/
theorem prune_check {l : List Key} (now : Int) (h : checkK l = 0) : checkK (pruneK now l) = 0 := by
  obtain ⟨h1, hg, hp⟩ := (checkK_iff l).1 h
  refine (checkK_iff _).2 ⟨?_, fun k hk => hg k (List.mem_filter.1 hk).1, hp.sublist List.filter_sublist⟩
  have := List.length_filter_le (fun k : Key => !(decide (k.au ≤ limB now))) l
  unfold pruneK; omega
theorem prune_sgL {now t : Int} (ht : limB now ≤ limB t) : ∀ (l : List Key) (b : Key), (∀ k ∈ l, k.good) → sgL t b (pruneK now l) = sgL t b l
  | [], b, _ => rfl
  | k :: r, b, hg => by
    have ih := fun c => prune_sgL ht r c fun q hq => hg q (by simp [hq])
    rw [pruneK_cons, sgL_cons]
    split
    · rw [sgL_cons]; exact ih _
    · rename_i hc
      have hw := good_win (hg k (by simp))
      have hn : inB k.sf k.su t = false := by
        simp only [inB, Bool.and_eq_false_iff, decide_eq_false_iff_not]
        have : ¬ k.au > limB now := by simpa using hc
        omega
      rw [if_neg (by rw [hn]; simp)]
      exact ih _
theorem prune_sign {l : List Key} {now t : Int} (h : checkK l = 0) (ht : limB now ≤ limB t) : sgK (pruneK now l) t = sgK l t := by
  unfold sgK
  rw [if_neg (by rw [prune_check now h]; decide), if_neg (by rw [h]; decide)]
  exact prune_sgL ht l zeroK ((checkK_iff l).1 h).2.1
theorem pw_inj : ∀ (l : List Key), l.Pairwise (fun a b => a.id ≠ b.id) → ∀ {q k : Key}, q ∈ l → k ∈ l → q.id = k.id → q = k
  | x :: t, hp, q, k, hq, hk, e => by
    have h1 := (List.pairwise_cons.1 hp).1
    rcases List.mem_cons.1 hq with hq1 | hq1
    · rcases List.mem_cons.1 hk with hk1 | hk1
      · rw [hq1, hk1]
      · exact absurd (hq1 ▸ e) (h1 k hk1)
    · rcases List.mem_cons.1 hk with hk1 | hk1
      · exact absurd (hk1 ▸ e).symm (h1 q hq1)
      · exact pw_inj t (List.pairwise_cons.1 hp).2 hq1 hk1 e
theorem skB_0 : skB 0 = 0 := by decide
theorem prune_acc {l : List Key} {now t : Int} (id : List UInt8) (h : checkK l = 0) (ht : limB now ≤ limB t) :
    accD (pruneK now l) id t 0 = accD l id t 0 ∨ (accD l id t 0 = (zeroK, 13) ∧ accD (pruneK now l) id t 0 = (zeroK, 26)) := by
  obtain ⟨_, hg, hp⟩ := (checkK_iff l).1 h
  by_cases hx : ∃ k ∈ l, k.id = id
  · obtain ⟨k, hk, hid⟩ := hx
    have hw := good_win (hg k hk)
    by_cases hc : k.au ≤ limB now
    · refine .inr ⟨?_, accD_none _ _ _ _ fun q hq => ?_⟩
      · have e : chkW k.af k.au t 0 = 13 := by
          unfold chkW
          rw [skB_0, if_neg (by simp; omega), if_neg (by simp; omega), if_pos (by simp; omega)]
        rw [accD_at id t 0 l k hk hid hp, e]; rfl
      · obtain ⟨hq1, hq2⟩ := List.mem_filter.1 hq
        intro e
        have hne : q ≠ k := by
          rintro rfl
          simp at hq2; omega
        exact hne (pw_inj l hp hq1 hk (e.trans hid.symm))
    · refine .inl ?_
      have hk2 : k ∈ pruneK now l := List.mem_filter.2 ⟨hk, by simpa using hc⟩
      rw [accD_at id t 0 l k hk hid hp, accD_at id t 0 (pruneK now l) k hk2 hid (hp.sublist List.filter_sublist)]
  · refine .inl ?_
    rw [accD_none id t 0 l fun k hk e => hx ⟨k, hk, e⟩, accD_none id t 0 (pruneK now l) fun k hk e => hx ⟨k, (List.mem_filter.1 hk).1, e⟩]
end Go.Proofs

/-
  Plain: the text form of a ring is read as the ring, and what is read has that text form. Conditions: as each theorem says.
-/
set_option linter.unusedSimpArgs false
set_option linter.unusedVariables false
namespace Go.Proofs
open Go Go.Id
theorem clean_ne {s : List UInt8} (h : cleanB s = true) : s ≠ [] := by
  intro e; rw [e] at h; simp [cleanB] at h
theorem lineW_w {k : Key} (h : k.good) : ∀ w ∈ lineW k, wfW w := by
  intro w hw
  simp only [lineW, List.mem_cons, List.not_mem_nil, or_false] at hw
  rcases hw with rfl | rfl | rfl | rfl | rfl | rfl
  · exact wordB_w h.1
  · exact escB_w (clean_ne h.2.1)
  all_goals exact itoa_w _
theorem join_mem (c x : UInt8) : ∀ ws : Wds, x ∈ Lib.join ws [c] → x = c ∨ ∃ w ∈ ws, x ∈ w
  | [], h => by simp [Lib.join, List.intercalate] at h
  | [w], h => by rw [Lib.join_one] at h; exact .inr ⟨w, by simp, h⟩
  | a :: b :: r, h => by
    rw [joinT] at h
    rcases List.mem_append.1 h with h | h
    · exact .inr ⟨a, by simp, h⟩
    · rcases List.mem_cons.1 h with h | h
      · exact .inl h
      · rcases join_mem c x (b :: r) h with h | ⟨w, hw, h⟩
        · exact .inl h
        · exact .inr ⟨w, List.mem_cons_of_mem _ hw, h⟩
theorem lineB_10 {k : Key} (h : k.good) : (10 : UInt8) ∉ lineB k := by
  intro hm
  rcases join_mem 32 10 _ hm with e | ⟨w, hw, hx⟩
  · revert e; decide
  · exact (lineW_w h w hw).2.2 hx
theorem cut_line {k : Key} (h : k.good) : cutA 32 [] (lineB k) = lineW k :=
  cut_join 32 (lineW k) (by simp [lineW]) fun w hw => (lineW_w h w hw).2.1
theorem rd_itoa {n : Int} (h : 0 ≤ n ∧ n ≤ 1099511627776) : rdN (Lib.itoa n) = (n, 0) := rdN_itoa n (by omega) (by omega)
theorem rdK_line {k : Key} (h : k.good) : rdK (cutA 32 [] (lineB k)) = (k, 0) := by
  rw [cut_line h]
  obtain ⟨a, b, c, d⟩ := win_rng h.2.2
  have e1 := rd_itoa a; have e2 := rd_itoa b; have e3 := rd_itoa c; have e4 := rd_itoa d
  have hu := unB_escB k.sec
  have h0 : erK (ueB (escB k.sec)) [Lib.itoa k.sf, Lib.itoa k.su, Lib.itoa k.af, Lib.itoa k.au] = 0 := by
    refine erK_0 _ (by simp [ueB, hu]) ?_ ?_
    · simp [anF, e1, e2, e3, e4]
    · simp [anW, e1, e2, e3, e4]
  have := rdK_s k.id (escB k.sec) (r := [Lib.itoa k.sf, Lib.itoa k.su, Lib.itoa k.af, Lib.itoa k.au]) rfl h0
  rw [lineW, this]
  simp [keyR, hu, wdAt, e1, e2, e3, e4]
theorem rdN_ok {r : Wds} (hf : anF r = false) (hw : anW r = false) : ∀ x ∈ r, Lib.itoa (rdN x).1 = x := by
  intro x hx
  refine itoa_rdN ?_
  simp only [anF, anW, List.any_eq_false, beq_iff_eq] at hf hw
  rcases rdN_err x with e | e | e
  · exact e
  · exact absurd e (hf x hx)
  · exact absurd e (hw x hx)
theorem line_rdK {s : List UInt8} {k : Key} (h : rdK (cutA 32 [] s) = (k, 0)) : lineB k = s := by
  have hj := join_cut 32 s []
  rw [List.nil_append] at hj
  generalize cutA 32 [] s = ws at h hj
  by_cases hl : ws.length = 6
  · obtain ⟨w0, w1, r, rfl, hr⟩ := len6 hl
    by_cases he : erK (ueB w1) r = 0
    · rw [rdK_s w0 w1 hr he] at h
      simp only [Prod.mk.injEq, and_true] at h
      have hu : ueB w1 = 0 := by
        rcases Classical.em (ueB w1 = 0) with e | e
        · exact e
        · have e4 : ueB w1 = 4 := by unfold ueB at e ⊢; split <;> simp_all
          rw [erK_4 r e4] at he; cases he
      have hf : anF r = false := by
        cases hq : anF r with
        | false => rfl
        | true => unfold erK erF at he; rw [hq] at he; simp at he
      have hw : anW r = false := by
        cases hq : anW r with
        | false => rfl
        | true => rw [erK_27 r hu hf hq] at he; cases he
      obtain ⟨a, b, c, d, rfl⟩ := len4 hr
      have hn := rdN_ok hf hw
      have hs : ∃ x, unB w1 = some x := by
        unfold ueB at hu
        cases hq : unB w1 with
        | none => rw [hq] at hu; simp at hu
        | some x => exact ⟨x, rfl⟩
      obtain ⟨x, hx⟩ := hs
      rw [← hj, ← h]
      have e1 := hn a (by simp); have e2 := hn b (by simp); have e3 := hn c (by simp); have e4 := hn d (by simp)
      simp only [lineB, lineW, keyR, hx, Option.getD_some, escB_unB hx, wdAt, List.getElem?_cons_zero, List.getElem?_cons_succ, e1, e2, e3, e4]
    · rw [rdK_e w0 w1 hr rfl he] at h
      simp only [Prod.mk.injEq] at h
      exact absurd h.2 he
  · rw [rdK_n hl] at h; simp at h
theorem cut_text : ∀ l : List Key, (∀ p ∈ l, p.good) → cutA 10 [] (textB l) = l.map lineB ++ [[]]
  | [], _ => rfl
  | p :: t, h => by
    have e : textB (p :: t) = lineB p ++ 10 :: textB t := by simp [textB]
    rw [e, cutA_app 10 _ _ _ (lineB_10 (h p (by simp))), cutA_sep, cut_text t (fun q hq => h q (List.mem_cons_of_mem _ hq))]
    rfl
theorem check_pre {a b : List Key} (h : checkK (a ++ b) = 0) : checkK a = 0 := by
  obtain ⟨h1, h2, h3⟩ := (checkK_iff _).1 h
  refine (checkK_iff _).2 ⟨?_, fun k hk => h2 k (by simp [hk]), (List.pairwise_append.1 h3).1⟩
  rw [List.length_append] at h1; omega
theorem parse_lines : ∀ (l seen : List Key) (n : Int), checkK (seen ++ l) = 0 → parseK n seen (l.map lineB ++ [[]]) = (seen ++ l, 0, 0)
  | [], seen, n, _ => by simp only [List.map_nil, List.nil_append, List.append_nil]; exact parseK_e _ _ rfl
  | p :: t, seen, n, hc => by
    obtain ⟨m, u, e⟩ : ∃ m u, t.map lineB ++ [[]] = m :: u := by
      cases t with
      | nil => exact ⟨_, _, rfl⟩
      | cons q t => exact ⟨_, _, rfl⟩
    have hp := ((checkK_iff _).1 hc).2.1 p (by simp)
    have hc' : checkK ((seen ++ [p]) ++ t) = 0 := by simpa using hc
    have ih := parse_lines t (seen ++ [p]) (n + 1) hc'
    rw [List.map_cons, List.cons_append, e, parseK_s _ _ (rdK_line hp) (check_pre hc'), ← e, ih]
    simp
theorem parse_text {l : List Key} (hc : checkK l = 0) (hl : (textB l).length ≤ 4096) : pK (textB l) = (l, 0, 0) := by
  rw [pK_short hl, cut_text l ((checkK_iff l).1 hc).2.1]
  have := parse_lines l [] 0 (by simpa using hc)
  simpa using this
theorem parse_inv : ∀ (ws : Wds) (n k : Int) (rs m : List Key), ws ≠ [] → checkK rs = 0 → parseK n rs ws = (m, k, 0) → k = 0 ∧ checkK m = 0 ∧ ∃ l, m = rs ++ l ∧ ws = l.map lineB ++ [[]]
  | [], n, k, rs, m, h0, _, _ => absurd rfl h0
  | [l], n, k, rs, m, _, hc, h => by
    by_cases hl : l = []
    · rw [parseK_e _ _ hl] at h
      simp only [Prod.mk.injEq, and_true] at h
      rw [← h.1]
      exact ⟨h.2.symm, hc, [], by simp, by simp [hl]⟩
    · rw [parseK_l _ _ hl] at h; simp at h
  | l :: x :: t, n, k, rs, m, _, hc, h => by
    obtain ⟨p, e, hr⟩ : ∃ p e, rdK (cutA 32 [] l) = (p, e) := ⟨_, _, rfl⟩
    by_cases he : e = 0
    · subst he
      by_cases hk : checkK (rs ++ [p]) = 0
      · rw [parseK_s _ _ hr hk] at h
        obtain ⟨h1, h2, l', h3, h4⟩ := parse_inv (x :: t) _ k _ m (by simp) hk h
        exact ⟨h1, h2, p :: l', by simp [h3], by rw [h4, List.map_cons, line_rdK hr]; rfl⟩
      · rw [parseK_b _ _ hr hk] at h
        simp only [Prod.mk.injEq] at h
        exact absurd h.2.2 hk
    · rw [parseK_n _ _ hr he] at h
      simp only [Prod.mk.injEq] at h
      exact absurd h.2.2 he
theorem join_lines : ∀ l : List Key, Lib.join (l.map lineB ++ [[]]) [10] = textB l
  | [] => by simp [Lib.join, List.intercalate, textB]
  | p :: t => by
    have e : textB (p :: t) = lineB p ++ 10 :: textB t := by simp [textB]
    have ih := join_lines t
    obtain ⟨m, u, e2⟩ : ∃ m u, t.map lineB ++ [[]] = m :: u := by
      cases t with
      | nil => exact ⟨_, _, rfl⟩
      | cons q t => exact ⟨_, _, rfl⟩
    rw [e2] at ih
    rw [List.map_cons, List.cons_append, e2, joinT, ih, e]
theorem text_parse {s : List UInt8} {m : List Key} {k : Int} (h : pK s = (m, k, 0)) : k = 0 ∧ checkK m = 0 ∧ textB m = s ∧ s.length ≤ 4096 := by
  by_cases hl : 4096 < s.length
  · rw [pK_long hl] at h; simp at h
  · rw [pK_short (by omega)] at h
    obtain ⟨a, t, e⟩ := cutA_ne 10 s
    obtain ⟨h1, h2, l, h3, h4⟩ := parse_inv _ 0 k [] m (by rw [e]; simp) (by decide) h
    simp only [List.nil_append] at h3
    subst h3
    refine ⟨h1, h2, ?_, by omega⟩
    rw [← join_lines, ← h4]
    simpa using join_cut 10 s []
/-- The text form of what was parsed. -/
theorem textK_parse {s : List UInt8} (h : (pK s).2.2 = 0) : textK (pK s).1 = (s, 0) := by
  obtain ⟨m, k, e⟩ : ∃ m k, pK s = (m, k, 0) := ⟨(pK s).1, (pK s).2.1, by rw [← h]⟩
  obtain ⟨h1, h2, h3, h4⟩ := text_parse e
  rw [e]
  unfold textK
  rw [if_neg (by rw [h2]; decide), if_neg (by rw [h3]; simp; omega), h3]
/-- The ring of its text form. -/
theorem parse_textK {l : List Key} (h : (textK l).2 = 0) : pK (textK l).1 = (l, 0, 0) := by
  unfold textK at h ⊢
  split at h
  · rename_i h1; simp only at h; rw [h] at h1; simp at h1
  · rename_i h1
    rw [if_neg h1]
    split at h
    · cases h
    · rename_i h2
      rw [if_neg h2]
      exact parse_text (by simpa using h1) (by simp at h2; omega)
end Go.Proofs

/-
  Plain: what the statements' bodies ask. Conditions: as each theorem says.
-/
set_option linter.unusedSimpArgs false
set_option linter.unusedVariables false
namespace Go.Proofs
open Go Go.Id
theorem great_no {l : List Key} {n : Nat} (h : greatB l (n : Int) = false) : l.length ≤ n ∧ ∀ k ∈ l, k.ok := by
  simp only [greatB, Bool.or_eq_false_iff, decide_eq_false_iff_not, List.any_eq_false] at h
  refine ⟨by omega, fun k hk => ?_⟩
  have := h.2 k hk
  simp only [Bool.or_eq_true, decide_eq_true_eq, not_or] at this
  unfold Key.ok; omega
theorem sameK_refl : ∀ l : List Key, sameK l l = true
  | [] => rfl
  | k :: t => by
    have := sameK_refl t
    unfold sameK at this ⊢
    rw [all2_cons, this, (eqK_iff k k).2 rfl]; rfl
theorem newK_ok {id sec : List UInt8} (now life grace : Int) (h1 : id.length ≤ 1099511627776) (h2 : sec.length ≤ 1099511627776) : (newK id sec now life grace).ok := ⟨h1, h2⟩
theorem rot_rows {l : List Key} (id sec : List UInt8) (now life grace : Int) (hl : ∀ k ∈ l, k.ok) (h1 : id.length ≤ 1099511627776) (h2 : sec.length ≤ 1099511627776) (hn : l.length ≤ 20) :
    ∃ (m : List Key) (nm : Bool) (e : Int), rotD l id sec now life grace = .tup [.slice 6 nm (m.map Key.cs) none, .int .i64 e] ∧ (nm = true → m = []) ∧ m.length ≤ 21 := by
  by_cases h : rotE l id sec now life = 0
  · exact ⟨_, false, 0, rotD_ok grace h, nofun, by simp; omega⟩
  · exact ⟨[], true, _, rotD_no grace _ rfl h, fun _ => rfl, by simp⟩
/-- What a rotation comes to. -/
theorem rot_facts (l : List Key) (id sec : List UInt8) (now life grace t skew : Int) (hl : ∀ k ∈ l, k.ok) (h1 : id.length ≤ 1099511627776) (h2 : sec.length ≤ 1099511627776) (hn : l.length ≤ 15) :
    (∃ e : Int, rotD l id sec now life grace = .tup [.slice 6 true [] none, .int .i64 e] ∧ (e != 0) = true) ∨
    ∃ m : List Key, rotD l id sec now life grace = .tup [.slice 6 false (m.map Key.cs) none, .int .i64 0] ∧ checkK m = 0 ∧ (m.map Key.cs).length = l.length + 1 ∧ m.length ≤ 16 ∧ (∀ k ∈ m, k.ok) ∧
      (limB now ≤ limB t → limB t < limB (limB now + limB life) → eqK (sgK m t) zeroK = false ∧ (sgK m t).id = id ∧ (sgK m t).sec = sec) ∧
      ∀ k ∈ l, (accD m k.id t skew).2 = (accD l k.id t skew).2 ∧ (accD m k.id t skew).1.sec = (accD l k.id t skew).1.sec ∧ (accD m k.id t skew).1.af = (accD l k.id t skew).1.af ∧ (accD m k.id t skew).1.au = (accD l k.id t skew).1.au := by
  by_cases h : rotE l id sec now life = 0
  · obtain ⟨r1, r2, r3, r4, r5, r6⟩ := rotE_ok h
    refine .inr ⟨l.map (cutK (limB now)) ++ [newK id sec now life grace], rotD_ok grace h, rot_check grace h, by simp, by simp; omega, ?_, fun a b => ?_, fun k hk => acc_cut (limB now) k.id t skew _ l ⟨k, hk, rfl⟩⟩
    · intro k hk
      rcases List.mem_append.1 hk with hk | hk
      · obtain ⟨q, hq, rfl⟩ := List.mem_map.1 hk
        exact hl q hq
      · rw [List.mem_singleton.1 hk]; exact newK_ok now life grace h1 h2
    · rw [rot_sign grace t h a b]
      refine ⟨eqK_false.2 fun e => ?_, rfl, rfl⟩
      have : (newK id sec now life grace).id = [] := by rw [e]; rfl
      exact good_id (newK_good grace r2 r3 r5) this
  · exact .inl ⟨_, rotD_no grace _ rfl h, by simpa using h⟩
/-- What pruning comes to. -/
theorem prune_facts {l : List Key} {now t : Int} (id : List UInt8) (h : checkK l = 0) (ht : limB now ≤ limB t) : sgK (pruneK now l) t = sgK l t ∧
    (accD (pruneK now l) id t 0 = accD l id t 0 ∨ (accD l id t 0 = (zeroK, 13) ∧ accD (pruneK now l) id t 0 = (zeroK, 26))) := ⟨prune_sign h ht, prune_acc id h ht⟩
theorem prune_ok {l : List Key} (now : Int) (h : ∀ k ∈ l, k.ok) : ∀ k ∈ pruneK now l, k.ok := fun k hk => h k (List.mem_filter.1 hk).1
theorem prune_len (now : Int) (l : List Key) : (pruneK now l).length ≤ l.length := List.length_filter_le _ _
theorem parsed_ok {s : List UInt8} (h : s.length ≤ 600) : (pK s).1.length ≤ 1099511627776 ∧ ∀ k ∈ (pK s).1, k.ok := by
  have key : ∀ (ws : Wds) (n : Int) (rs : List Key), (∀ w ∈ ws, w.length ≤ 4096) → (∀ k ∈ rs, k.ok) → (parseK n rs ws).1.length ≤ rs.length + ws.length ∧ ∀ k ∈ (parseK n rs ws).1, k.ok := by
    intro ws
    induction ws with
    | nil => intro n rs _ hr; exact ⟨by simp [parseK], by simpa [parseK] using hr⟩
    | cons l t ih =>
      intro n rs hw hr
      cases t with
      | nil =>
        rw [parseK]; split
        · exact ⟨by simp, hr⟩
        · exact ⟨by simp, by simp⟩
      | cons m t =>
        rw [parseK]
        split
        · split
          · have hk := (rdK_ok (ws := cutA 32 [] l) (fun x hx => by
              have := cutA_mem 32 l [] x hx
              have := hw l (by simp)
              simp at *; omega))
            obtain ⟨a, b⟩ := ih (n + 1) (rs ++ [(rdK (cutA 32 [] l)).1]) (fun w hw' => hw w (by simp [hw'])) (fun k hk' => by
              rcases List.mem_append.1 hk' with h | h
              · exact hr k h
              · rw [List.mem_singleton.1 h]; exact hk)
            refine ⟨?_, b⟩
            simp only [List.length_append, List.length_cons, List.length_nil] at a ⊢
            omega
          · exact ⟨by simp, by simp⟩
        · exact ⟨by simp, by simp⟩
  by_cases hl : 4096 < s.length
  · omega
  · rw [pK_short (by omega)]
    have hc := cutA_len 10 s []
    obtain ⟨a, b⟩ := key (cutA 10 [] s) 0 [] (fun w hw => by have := cutA_mem 10 s [] w hw; simp at this; omega) (by simp)
    exact ⟨by simp at a; omega, b⟩
theorem textK_len {l : List Key} : (textK l).1.length ≤ 4096 := by
  unfold textK
  split
  · simp
  · split
    · simp
    · rename_i h; simp at h; show (textB l).length ≤ 4096; omega
/-- Gaps, and the instants of the window. -/
theorem gap_real {l : List Key} {f u : Int} (k : Nat) (h : k < (gapsK l f u).length) : decide ((gapsK l f u)[k].f ≥ (gapsK l f u)[k].u) = false := by
  have := (gapsK_spec l f u).1.2 _ (List.getElem_mem h)
  exact decide_eq_false (by omega)
theorem gap_next {l : List Key} {f u : Int} (k : Nat) (h : k < (gapsK l f u).length) (h0 : 0 < k) : decide ((gapsK l f u)[k - 1].u ≥ (gapsK l f u)[k].f) = false := by
  have := List.pairwise_iff_getElem.1 (gapsK_spec l f u).1.1 (k - 1) k (by omega) h (by omega)
  exact decide_eq_false (by omega)
theorem gapsK_len (l : List Key) (f u : Int) : (gapsK l f u).length ≤ 1099511627776 := by
  obtain ⟨h1, h2⟩ := gapsK_spec l f u
  have hz : 0 ≤ atZ f := by unfold atZ; split <;> omega
  have he : enM u ≤ 1099511627776 := by unfold enM; split <;> omega
  have := sep_count _ 0 1099511627776 h1 (fun w hw => by
    have hr := h1.2 w hw
    have a := (h2 w.f).1 ⟨w, hw, Int.le_refl _, hr⟩
    have b := (h2 (w.u - 1)).1 ⟨w, hw, by omega, by omega⟩
    omega) (by omega)
  omega
def anyIn (t : Int) (l : List Win) : Bool := l.any fun w => inB w.f w.u t
theorem gap_law {l : List Key} {f u t : Int} (h0 : ¬ t < 0) (h1 : ¬ t ≥ 1099511627776) (hi : inB f u t = true) : (anyIn t (gapsK l f u) != anyIn t (l.map Key.sw)) = true := by
  have hlim : limB t = t := by unfold limB; split <;> (try split) <;> omega
  have hA : ∀ m : List Win, anyIn t m = true ↔ cov m t := by
    intro m
    simp only [anyIn, List.any_eq_true, inB, Bool.and_eq_true, decide_eq_true_eq, cov, hlim]
  have hS : cov (l.map Key.sw) t ↔ cov (sigW l) t := by
    rw [sigW_cov]
    constructor
    · rintro ⟨w, hw, h2⟩
      obtain ⟨k, hk, rfl⟩ := List.mem_map.1 hw
      exact ⟨k, hk, h2⟩
    · rintro ⟨k, hk, h2⟩
      exact ⟨k.sw, List.mem_map.2 ⟨k, hk, rfl⟩, h2⟩
  have hg := (gapsK_spec l f u).2 t
  simp only [inB, Bool.and_eq_true, decide_eq_true_eq, hlim] at hi
  have hr : atZ f ≤ t ∧ t < enM u := by
    unfold atZ enM
    constructor
    · split <;> omega
    · split <;> omega
  have key : anyIn t (gapsK l f u) = true ↔ ¬ anyIn t (l.map Key.sw) = true := by
    rw [hA, hA, hS, hg]
    exact ⟨fun h => h.2, fun h => ⟨hr, h⟩⟩
  cases ha : anyIn t (gapsK l f u) <;> cases hb : anyIn t (l.map Key.sw) <;> simp_all
theorem any_next (t : Int) (l : List Win) (k : Nat) (h : k < l.length) : anyIn t (l.take (k + 1)) = (anyIn t (l.take k) || inB l[k].f l[k].u t) := by
  rw [anyIn, List.take_succ_eq_append_getElem h, List.any_append]; simp [anyIn]
theorem any_0 (t : Int) (l : List Win) : anyIn t (l.take 0) = false := rfl
end Go.Proofs
