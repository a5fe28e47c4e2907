import Derived.Test.YtnmalfongaognaaGreatDoorG07
/-
  Plain: text forms. What is written is read again, and what is read is written again. Conditions: as each theorem says.
-/
set_option linter.unusedSimpArgs false
set_option linter.unusedVariables false
namespace Go.Proofs
open Go Go.Id
/-! Numerals. -/
theorem dig_nat (d : Nat) (h : d < 10) : (UInt8.ofNat (48 + d)).toNat = 48 + d := by
  simp only [UInt8.toNat_ofNat']; omega
theorem decV_dec (u : Nat) : decV (Lib.decDigits u) = u := by
  induction u using Nat.strongRecOn with
  | ind u ih =>
    by_cases h : u < 10
    · rw [decDigits_small u h]
      have := dig_nat u h
      simp only [decV, List.foldl_cons, List.foldl_nil]
      omega
    · rw [decDigits_step u (by omega), decV_snoc, ih (u / 10) (by omega), dig_nat (u % 10) (by omega)]
      omega
theorem dgB_dig (d : Nat) (h : d < 10) : dgB ((UInt8.ofNat (48 + d)).toNat : Int) = true := by
  rw [dig_nat d h]; simp [dgB]; omega
theorem dec_all (u : Nat) : (Lib.decDigits u).all (fun c => dgB c.toNat) = true := by
  induction u using Nat.strongRecOn with
  | ind u ih =>
    by_cases h : u < 10
    · rw [decDigits_small u h, List.all_cons, dgB_dig u h]; rfl
    · rw [decDigits_step u (by omega), List.all_append, ih (u / 10) (by omega), List.all_cons, dgB_dig _ (by omega)]; rfl
theorem dec_ne (u : Nat) : ∃ c t, Lib.decDigits u = c :: t ∧ 48 ≤ c.toNat ∧ c.toNat ≤ 57 ∧ (0 < u → c.toNat ≠ 48) := by
  induction u using Nat.strongRecOn with
  | ind u ih =>
    by_cases h : u < 10
    · rw [decDigits_small u h]
      have := dig_nat u h
      exact ⟨_, _, rfl, by omega, by omega, by omega⟩
    · obtain ⟨c, t, h1, h2, h3, h4⟩ := ih (u / 10) (by omega)
      rw [decDigits_step u (by omega), h1]
      exact ⟨c, _, rfl, h2, h3, fun _ => h4 (by omega)⟩
theorem chAt_cons (c : UInt8) (t : List UInt8) : chAt (c :: t) 0 = c.toNat := rfl
theorem decOk_dec (u : Nat) (z : Bool) (h : 0 < u ∨ z = true) : decOk (Lib.decDigits u) z = true := by
  have ha := dec_all u
  obtain ⟨c, t, h1, h2, h3, h4⟩ := dec_ne u
  unfold decOk
  rw [ha, h1, chAt_cons]
  by_cases h0 : 0 < u
  · have : ((c.toNat : Int) == 48) = false := by simp; have := h4 h0; omega
    simp [this]
  · have hz : z = true := h.elim (fun h => absurd h h0) id
    obtain rfl : u = 0 := by omega
    rw [decDigits_small 0 (by omega)] at h1
    cases h1
    subst hz
    simp
theorem rdN_itoa (n : Int) (h0 : -9223372036854775808 ≤ n) (h1 : n ≤ 9223372036854775807) : rdN (Lib.itoa n) = (n, 0) := by
  by_cases h : n < 0
  · rw [itoa_neg n h]
    have hu : decV (Lib.decDigits n.natAbs) = n.natAbs := decV_dec _
    simp only [rdN, ↓reduceIte, decOk_dec n.natAbs false (.inl (by omega)), hu]
    rw [if_pos (by omega)]
    congr 1; omega
  · rw [itoa_pos n h]
    have hu : decV (Lib.decDigits n.natAbs) = n.natAbs := decV_dec _
    have hd := decOk_dec n.natAbs true (.inr rfl)
    obtain ⟨c, t, e1, e2, e3, e4⟩ := dec_ne n.natAbs
    rw [e1] at hu hd ⊢
    have hc : ¬ c = 45 := by intro hc; subst hc; simp at e2
    simp only [rdN, hc, ↓reduceIte, hd, hu]
    rw [if_pos (by omega)]
    congr 1; omega
theorem dgB_iff (c : UInt8) (h : dgB c.toNat = true) : 48 ≤ c.toNat ∧ c.toNat ≤ 57 ∧ UInt8.ofNat (48 + (c.toNat - 48)) = c := by
  simp only [dgB, Bool.and_eq_true, decide_eq_true_eq] at h
  refine ⟨by omega, by omega, ?_⟩
  rw [show 48 + (c.toNat - 48) = c.toNat by omega]
  exact UInt8.ofNat_toNat
theorem dec_decV : ∀ (n : Nat) (t : List UInt8), t.length = n + 1 → t.all (fun c => dgB c.toNat) = true → (chAt t 0 ≠ 48 ∨ n = 0) → Lib.decDigits (decV t) = t
  | 0, t, hl, ha, _ => by
    match t, hl with
    | [c], _ =>
      simp only [List.all_cons, List.all_nil, Bool.and_true] at ha
      obtain ⟨h1, h2, h3⟩ := dgB_iff c ha
      have : decV [c] = c.toNat - 48 := by simp [decV]
      rw [this, decDigits_small _ (by omega), h3]
  | n + 1, t, hl, ha, hh => by
    have hne : t ≠ [] := by rintro rfl; simp at hl
    obtain ⟨a, c, rfl⟩ : ∃ a c, t = a ++ [c] := ⟨t.dropLast, t.getLast hne, (List.dropLast_concat_getLast hne).symm⟩
    have hal : a.length = n + 1 := by simpa using hl
    simp only [List.all_append, List.all_cons, List.all_nil, Bool.and_true, Bool.and_eq_true] at ha
    obtain ⟨h1, h2, h3⟩ := dgB_iff c ha.2
    have hch : chAt (a ++ [c]) 0 = chAt a 0 := by
      match a, hal with
      | x :: a, _ => rfl
    rw [hch] at hh
    have hh : chAt a 0 ≠ 48 := hh.elim id (fun h => by omega)
    have ih := dec_decV n a hal ha.1 (.inl hh)
    have hp : decV a ≠ 0 := by
      intro h0
      rw [h0, decDigits_small 0 (by omega)] at ih
      rw [← ih] at hh
      exact hh rfl
    rw [decV_snoc, decDigits_step _ (by omega), show (decV a * 10 + (c.toNat - 48)) / 10 = decV a by omega, show (decV a * 10 + (c.toNat - 48)) % 10 = c.toNat - 48 by omega, ih, h3]
theorem decOk_dec' {t : List UInt8} {z : Bool} (h : decOk t z = true) : Lib.decDigits (decV t) = t ∧ (z = false → 0 < decV t) := by
  simp only [decOk, Bool.and_eq_true, Bool.not_eq_true', beq_eq_false_iff_ne, Bool.and_eq_false_iff, Bool.or_eq_false_iff, decide_eq_false_iff_not] at h
  obtain ⟨⟨h1, h2⟩, h3⟩ := h
  have hl : t.length = (t.length - 1) + 1 := by
    have := List.length_pos_iff.2 h1
    omega
  have key := dec_decV (t.length - 1) t hl h3 (by
    rcases h2 with h2 | ⟨h2, _⟩
    · exact .inl h2
    · right; omega)
  refine ⟨key, fun hz => ?_⟩
  have h48 : chAt t 0 ≠ 48 := by
    rcases h2 with h2 | ⟨_, h2⟩
    · exact h2
    · simp [hz] at h2
  rcases Nat.eq_zero_or_pos (decV t) with h0 | h0
  · rw [h0, decDigits_small 0 (by omega)] at key
    rw [← key] at h48
    exact absurd rfl h48
  · exact h0
theorem itoa_rdN {s : List UInt8} (h : (rdN s).2 = 0) : Lib.itoa (rdN s).1 = s := by
  match s with
  | [] => simp [rdN] at h
  | c :: t =>
    by_cases hc : c = 45
    · subst hc
      cases hd : decOk t false with
      | false => simp [rdN, hd] at h
      | true =>
        by_cases hv : decV t ≤ 9223372036854775808
        · obtain ⟨h1, h2⟩ := decOk_dec' hd
          have h2 := h2 rfl
          simp only [rdN, ↓reduceIte, hd, if_pos hv]
          rw [itoa_neg _ (by omega), show (-(decV t : Int)).natAbs = decV t by omega, h1]
        · simp [rdN, hd, if_neg hv] at h
    · cases hd : decOk (c :: t) true with
      | false => simp [rdN, hd, hc] at h
      | true =>
        by_cases hv : decV (c :: t) < 9223372036854775808
        · obtain ⟨h1, h2⟩ := decOk_dec' hd
          simp only [rdN, hc, ↓reduceIte, hd, if_pos hv]
          rw [itoa_pos _ (by omega), show ((decV (c :: t) : Int)).natAbs = decV (c :: t) by omega, h1]
        · simp [rdN, hd, hc, if_neg hv] at h
/-! Escapes. -/
theorem escB_unB {v x : List UInt8} (h : unB v = some x) : escB x = v := ((unB_unR v.length v (Nat.le_refl _) x).1 h).2
theorem unB_escC (c : UInt8) (t : List UInt8) : unB (escC c ++ t) = (unB t).map (c :: ·) := by
  unfold escC
  cases hp : plainB c.toNat with
  | true => simp only [if_true, List.cons_append, List.nil_append]; rw [unB_cons, hp, if_pos rfl]
  | false =>
    have hb : hexB (hexD (c.toNat / 16)) (hexD (c.toNat % 16)) = c := by
      have hq : c.toNat / 16 < 16 := by have := c.toNat_lt; omega
      unfold hexB
      rw [hexv_hexD _ hq, hexv_hexD _ (by omega)]
      simp only [Int.toNat_natCast]
      rw [show c.toNat / 16 * 16 + c.toNat % 16 = c.toNat by omega]
      exact UInt8.ofNat_toNat
    have hq : ¬ hexv (hexD (c.toNat / 16)) < 0 := by rw [hexv_hexD _ (by have := c.toNat_lt; omega)]; omega
    have hr : ¬ hexv (hexD (c.toNat % 16)) < 0 := by rw [hexv_hexD _ (by omega)]; omega
    simp only [Bool.false_eq_true, if_false, List.cons_append, List.nil_append]
    rw [unB_cons, not37, if_neg (by simp), if_pos rfl]
    simp only [unHex, hb, hp, hq, hr, or_self, Bool.false_eq_true, if_false]
theorem unB_escB : ∀ s : List UInt8, unB (escB s) = some s
  | [] => by simp [escB, unB]
  | c :: t => by
    show unB (escC c ++ escB t) = _
    rw [unB_escC, unB_escB t]; rfl
/-- A word of a line: not empty, no space, no end of a line. -/
def wfW (w : List UInt8) : Prop := w ≠ [] ∧ (32 : UInt8) ∉ w ∧ (10 : UInt8) ∉ w
theorem hexD_32 : ∀ n, n < 16 → hexD n ≠ 32 ∧ hexD n ≠ 10 := by decide +kernel
theorem escC_w (c : UInt8) : (32 : UInt8) ∉ escC c ∧ (10 : UInt8) ∉ escC c := by
  unfold escC
  cases hp : plainB c.toNat with
  | true =>
    simp only [if_true, List.mem_singleton]
    constructor <;> (rintro rfl; revert hp; decide)
  | false =>
    have h1 := hexD_32 (c.toNat / 16) (by have := c.toNat_lt; omega)
    have h2 := hexD_32 (c.toNat % 16) (by omega)
    simp only [Bool.false_eq_true, if_false, List.mem_cons, List.not_mem_nil, or_false, not_or]
    exact ⟨⟨by decide, h1.1.symm, h2.1.symm⟩, ⟨by decide, h1.2.symm, h2.2.symm⟩⟩
theorem escB_w {s : List UInt8} (h : s ≠ []) : wfW (escB s) := by
  refine ⟨fun h0 => ?_, ?_, ?_⟩
  · have := escB_ge s
    rw [h0] at this
    exact h (List.eq_nil_of_length_eq_zero (by simpa using this))
  all_goals
    intro hm
    obtain ⟨c, _, hc⟩ := List.mem_flatMap.1 hm
    first | exact (escC_w c).1 hc | exact (escC_w c).2 hc
theorem wordc_w (c : UInt8) (h : wordcB c.toNat = true) : c ≠ 32 ∧ c ≠ 10 := by
  constructor <;> (rintro rfl; revert h; decide)
theorem wordB_w {s : List UInt8} (h : wordB s = true) : wfW s := by
  simp only [wordB, Bool.and_eq_true, List.all_eq_true, Bool.not_eq_true', beq_eq_false_iff_ne] at h
  exact ⟨h.1.2, fun hm => (wordc_w _ (h.1.1 _ hm)).1 rfl, fun hm => (wordc_w _ (h.1.1 _ hm)).2 rfl⟩
theorem dec_w (u : Nat) : (32 : UInt8) ∉ Lib.decDigits u ∧ (10 : UInt8) ∉ Lib.decDigits u := by
  have := dec_all u
  simp only [List.all_eq_true] at this
  constructor <;> (intro hm; have := this _ hm; revert this; decide)
theorem itoa_w (n : Int) : wfW (Lib.itoa n) := by
  obtain ⟨c, t, h1, _⟩ := dec_ne n.natAbs
  by_cases h : n < 0
  · rw [itoa_neg n h]
    have := dec_w n.natAbs
    refine ⟨by simp, ?_, ?_⟩ <;> simp [this]
  · rw [itoa_pos n h]
    exact ⟨by rw [h1]; simp, dec_w _⟩
/-! Cutting and joining. -/
theorem cutA_app (c : UInt8) : ∀ (w acc r : List UInt8), c ∉ w → cutA c acc (w ++ r) = cutA c (acc ++ w) r
  | [], acc, r, _ => by simp
  | x :: w, acc, r, h => by
    have hx : ((x.toNat : Int) == (c.toNat : Int)) = false := by
      rw [u8_beq]; simp; rintro rfl; exact h (by simp)
    rw [List.cons_append, cutA, hx]
    simp only [Bool.false_eq_true, if_false]
    rw [cutA_app c w _ r (fun hm => h (List.mem_cons_of_mem _ hm))]
    simp
theorem cutA_sep (c : UInt8) (acc r : List UInt8) : cutA c acc (c :: r) = acc :: cutA c [] r := by
  rw [cutA, u8_beq]; simp
theorem cutA_word (c : UInt8) (w : List UInt8) (h : c ∉ w) : cutA c [] w = [w] := by
  have := cutA_app c w [] [] h
  simpa [cutA] using this
theorem joinT (c : UInt8) (x y : List UInt8) (r : Wds) : Lib.join (x :: y :: r) [c] = x ++ c :: Lib.join (y :: r) [c] := by
  simp [Lib.join, List.intercalate]
theorem cut_join (c : UInt8) : ∀ (ws : Wds), ws ≠ [] → (∀ w ∈ ws, c ∉ w) → cutA c [] (Lib.join ws [c]) = ws
  | [], h, _ => absurd rfl h
  | [x], _, h => by rw [Lib.join_one]; exact cutA_word c x (h x (by simp))
  | x :: y :: r, _, h => by
    rw [joinT, cutA_app c x _ _ (h x (by simp)), cutA_sep, cut_join c (y :: r) (by simp) (fun w hw => h w (List.mem_cons_of_mem _ hw))]
    rfl
theorem join_cut (c : UInt8) : ∀ (s acc : List UInt8), Lib.join (cutA c acc s) [c] = acc ++ s
  | [], acc => by rw [cutA, Lib.join_one]; simp
  | x :: s, acc => by
    rw [cutA, u8_beq]
    by_cases h : x = c
    · subst h
      simp only [beq_self_eq_true, if_true]
      obtain ⟨a, t, e⟩ := cutA_ne x s
      have ih := join_cut x s []
      rw [e] at ih ⊢
      rw [joinT, ih]; simp
    · have : (x == c) = false := by simpa using h
      simp only [this, Bool.false_eq_true, if_false]
      rw [join_cut c s]; simp
theorem cutA_no (c : UInt8) : ∀ (s acc : List UInt8), c ∉ acc → ∀ w ∈ cutA c acc s, c ∉ w
  | [], acc, h, w, hw => by rw [cutA, List.mem_singleton] at hw; subst hw; exact h
  | x :: s, acc, h, w, hw => by
    rw [cutA, u8_beq] at hw
    by_cases hx : x = c
    · simp only [hx, beq_self_eq_true, if_true, List.mem_cons] at hw
      rcases hw with rfl | hw
      · exact h
      · exact cutA_no c s [] (by simp) w hw
    · have : (x == c) = false := by simpa using hx
      simp only [this, Bool.false_eq_true, if_false] at hw
      exact cutA_no c s _ (by simp [h]; exact fun e => hx e.symm) w hw
end Go.Proofs

/-
  Plain: rules are read as they were written, and written as they were read. Conditions: as each theorem says.
-/
set_option linter.unusedSimpArgs false
set_option linter.unusedVariables false
namespace Go.Proofs
open Go Go.Id
def Rule.norm (p : Rule) : Rule := ⟨p.name, p.deny, p.conds, p.conds.isEmpty, p.scopes, p.scopes.isEmpty, p.lvl, p.age⟩
theorem all2_map {α β : Type} {p : α → α → Bool} {f : α → β} (h : ∀ x y, p x y = true ↔ f x = f y) : ∀ a b : List α, all2 p a b = true ↔ a.map f = b.map f
  | [], [] => by simp [all2]
  | [], y :: b => by simp [all2]
  | x :: a, [] => by simp [all2]
  | x :: a, y :: b => by simp only [all2, Bool.and_eq_true, h, all2_map h a b, List.map_cons, List.cons.injEq]
theorem eqC_iff (a b : Cond) : eqC a b = true ↔ a = b := by
  cases a; cases b; simp [eqC]
theorem all2_c (a b : List Cond) : all2 eqC a b = true ↔ a = b := by
  have := all2_map (f := id) (p := eqC) eqC_iff a b; simpa using this
theorem all2_s (a b : List (List UInt8)) : all2 eqStr a b = true ↔ a = b := by
  have := all2_map (f := id) (p := eqStr) (fun x y => by simp [eqStr]) a b; simpa using this
theorem sameR_iff (a b : Rule) : sameR a b = true ↔ a.norm = b.norm := by
  simp only [sameR, Bool.and_eq_true, beq_iff_eq, all2_c, all2_s, Rule.norm, Rule.mk.injEq]
  constructor
  · rintro ⟨⟨⟨⟨⟨h1, h2⟩, h3⟩, h4⟩, h5⟩, h6⟩
    rw [h5, h6]; exact ⟨h1, h2, rfl, rfl, rfl, rfl, h3, h4⟩
  · rintro ⟨h1, h2, h3, _, h4, _, h5, h6⟩
    exact ⟨⟨⟨⟨⟨h1, h2⟩, h5⟩, h6⟩, h3⟩, h4⟩
theorem equalR_iff (a b : List Rule) : equalR a b = true ↔ a.map Rule.norm = b.map Rule.norm := all2_map sameR_iff a b
theorem equalR_symm (a b : List Rule) : equalR a b = equalR b a := by
  rw [Bool.eq_iff_iff, equalR_iff, equalR_iff]; exact eq_comm
theorem norm_norm (p : Rule) : p.norm.norm = p.norm := rfl
theorem lineB_norm (p : Rule) : lineB p.norm = lineB p := rfl
theorem textB_norm (l : List Rule) : textB (l.map Rule.norm) = textB l := by
  simp only [textB, List.flatMap_map, lineB_norm]
theorem ruleAt_norm (seen : List Rule) (p : Rule) : ruleAt (seen.map Rule.norm) p.norm = ruleAt seen p := by
  simp only [ruleAt, List.any_map]; rfl
theorem chkL_norm : ∀ (l seen : List Rule), chkL (seen.map Rule.norm) (l.map Rule.norm) = chkL seen l
  | [], seen => rfl
  | p :: t, seen => by
    simp only [List.map_cons, chkL, ruleAt_norm]
    have := chkL_norm t (seen ++ [p])
    rw [List.map_append] at this
    simp only [List.map_cons, List.map_nil] at this
    rw [this]
theorem checkE_norm (l : List Rule) : checkE (l.map Rule.norm) = checkE l := by
  have := chkL_norm l []
  simp only [List.map_nil] at this
  simp only [checkE, this, List.length_map]
theorem chkL_pre : ∀ (a seen b : List Rule), chkL seen (a ++ b) = 0 → chkL seen a = 0
  | [], _, _, _ => rfl
  | p :: a, seen, b, h => by
    simp only [List.cons_append, chkL] at h ⊢
    split at h
    · rename_i h1; rw [h] at h1; simp at h1
    · rename_i h1; rw [if_neg h1]; exact chkL_pre a _ b h
theorem checkE_pre {a b : List Rule} (h : checkE (a ++ b) = 0) : checkE a = 0 := by
  simp only [checkE, decide_eq_true_eq, List.length_append] at h ⊢
  split at h
  · cases h
  · rw [if_neg (by omega)]; exact chkL_pre a [] b h
theorem chkL_each : ∀ (l seen : List Rule), chkL seen l = 0 → ∀ p ∈ l, wordB p.name = true ∧ ruleErrB p = 0
  | [], _, _, p, hp => by simp at hp
  | q :: t, seen, h, p, hp => by
    rw [chkL] at h
    split at h
    · rename_i h1; rw [h] at h1; simp at h1
    · rename_i h1
      rcases List.mem_cons.1 hp with rfl | hp
      · simp only [bne_iff_ne, ne_eq, Decidable.not_not] at h1
        rw [ruleAt] at h1
        split at h1
        · cases h1
        · rename_i h2
          split at h1
          · cases h1
          · exact ⟨by simpa using h2, h1⟩
      · exact chkL_each t _ h p hp
theorem checkE_each {l : List Rule} (h : checkE l = 0) : (∀ p ∈ l, wordB p.name = true ∧ ruleErrB p = 0) ∧ l.length ≤ 64 := by
  simp only [checkE, decide_eq_true_eq] at h
  split at h
  · cases h
  · exact ⟨chkL_each l [] h, by omega⟩
theorem scErr_each : ∀ (l seen : Wds), scErr seen l = 0 → ∀ s ∈ l, validB s = true
  | [], _, _, s, hs => by simp at hs
  | x :: t, seen, h, s, hs => by
    rw [scErr] at h
    split at h
    · cases h
    · rename_i h1
      split at h
      · cases h
      · rcases List.mem_cons.1 hs with rfl | hs
        · simpa using h1
        · exact scErr_each t _ h s hs
theorem scopeE_each {l : Wds} (h : scopeE l = 0) : ∀ s ∈ l, validB s = true := by
  rw [scopeE] at h
  split at h
  · cases h
  · exact scErr_each l [] h
theorem validB_w {s : List UInt8} (h : validB s = true) : wordB s = true := by
  simp only [validB, Bool.and_eq_true] at h
  exact h.1.1.1
structure Fine (p : Rule) : Prop where
  name : wordB p.name = true
  few : p.conds.length ≤ 8
  poss : ∀ c ∈ p.conds, possB c = true
  deny : p.deny = true → p.scopes = [] ∧ p.lvl = 0 ∧ p.age = 0
  permit : p.deny = false → p.scopes ≠ []
  valid : ∀ s ∈ p.scopes, validB s = true ∧ s ≠ [108, 101, 118, 101, 108] ∧ s ≠ [97, 103, 101]
  scope : scopeE p.scopes = 0
  lvl : 0 ≤ p.lvl ∧ p.lvl ≤ 3
  age : 0 ≤ p.age
theorem fine_of {p : Rule} (hn : wordB p.name = true) (h : ruleErrB p = 0) : Fine p := by
  rw [ruleErrB] at h
  split at h
  · cases h
  rename_i h1
  split at h
  · cases h
  rename_i h2
  split at h
  · cases h
  rename_i h3
  have hp : ∀ c ∈ p.conds, possB c = true := by simpa using h2
  have h8 : p.conds.length ≤ 8 := by simp at h1; omega
  split at h
  · rename_i h4
    simp only [h4, Bool.true_and, Bool.or_eq_true, decide_eq_true_eq, bne_iff_ne, ne_eq, not_or, Decidable.not_not] at h3
    have hs : p.scopes = [] := List.eq_nil_of_length_eq_zero (by omega)
    exact ⟨hn, h8, hp, fun _ => ⟨hs, h3.1.2, h3.2⟩, fun e => (by rw [h4] at e; cases e), by simp [hs], by simp [hs, scopeE, scErr], by omega, by omega⟩
  · rename_i h4
    have hd : p.deny = false := by simpa using h4
    split at h
    · cases h
    rename_i h5
    split at h
    · cases h
    rename_i h6
    split at h
    · cases h
    rename_i h7
    simp only [badSc, Bool.or_eq_true, not_or, bne_iff_ne, ne_eq, Decidable.not_not, Bool.not_eq_true, List.contains_eq_mem, decide_eq_false_iff_not] at h6
    simp only [Bool.or_eq_true, decide_eq_true_eq, not_or] at h7
    have hv := scopeE_each h6.1.1
    refine ⟨hn, h8, hp, fun e => (by rw [hd] at e; cases e), fun _ e => (by simp [e] at h5), fun s hs => ⟨hv s hs, fun e => h6.1.2 (e ▸ hs), fun e => h6.2 (e ▸ hs)⟩, h6.1.1, by omega, by omega⟩
theorem fine_each {l : List Rule} (h : checkE l = 0) : ∀ p ∈ l, Fine p := fun p hp => fine_of ((checkE_each h).1 p hp).1 ((checkE_each h).1 p hp).2
theorem wf_lit {w : List UInt8} (h : (w ≠ [] ∧ w.contains 32 = false) ∧ w.contains 10 = false) : wfW w := by
  refine ⟨h.1.1, ?_, ?_⟩
  · intro hm; have := h.1.2; simp [hm] at this
  · intro hm; have := h.2; simp [hm] at this
theorem poss_w {c : Cond} (h : possB c = true) : wfW c.f ∧ wfW c.op ∧ c.v ≠ [] := by
  obtain ⟨f, op, v⟩ := c
  have wv : ∀ {v : List UInt8}, wordB v = true → v ≠ [] := fun h => (wordB_w h).1
  have op2 : ∀ {a b : List UInt8}, wfW a → wfW b → (op == a || op == b) = true → wfW op := by
    intro a b ha hb h
    rcases Bool.or_eq_true _ _ ▸ h with h | h
    · rw [eq_of_beq h]; exact ha
    · rw [eq_of_beq h]; exact hb
  unfold possB at h
  dsimp only at h ⊢
  split at h
  · rename_i h1
    rw [Bool.and_eq_true] at h
    simp only [Bool.or_eq_true, beq_iff_eq] at h1
    refine ⟨?_, op2 (wf_lit (by decide)) (wf_lit (by decide)) h.1, wv h.2⟩
    rcases h1 with (h1 | h1) | h1 <;> (rw [h1]; exact wf_lit (by decide))
  split at h
  · rename_i h1
    rw [Bool.and_eq_true] at h
    refine ⟨by rw [eq_of_beq h1]; exact wf_lit (by decide), op2 (wf_lit (by decide)) (wf_lit (by decide)) h.1, ?_⟩
    have h2 := h.2
    simp only [cleanB, Bool.and_eq_true, Bool.not_eq_true', beq_eq_false_iff_ne] at h2
    exact h2.1.1.2
  split at h
  · rename_i h1
    rw [Bool.and_eq_true] at h
    refine ⟨by rw [eq_of_beq h1]; exact wf_lit (by decide), op2 (wf_lit (by decide)) (wf_lit (by decide)) h.1, ?_⟩
    exact wv (validB_w (scopeE_each (eq_of_beq h.2) v (by simp)))
  split at h
  · rename_i h1
    rw [Bool.and_eq_true] at h
    refine ⟨by rw [eq_of_beq h1]; exact wf_lit (by decide), by rw [eq_of_beq h.1]; exact wf_lit (by decide), ?_⟩
    rintro rfl
    simp at h
  split at h
  · rename_i h1
    rw [Bool.and_eq_true] at h
    simp only [Bool.or_eq_true, beq_iff_eq] at h1
    refine ⟨?_, op2 (wf_lit (by decide)) (wf_lit (by decide)) h.1, ?_⟩
    · rcases h1 with ((h1 | h1) | h1) | h1 <;> (rw [h1]; exact wf_lit (by decide))
    · rintro rfl
      simp [rdN] at h
  · cases h
/-! The words of a line. -/
def scW (p : Rule) : Wds := if decide ((p.scopes.length : Int) > 0) = true then [[115, 99, 111, 112, 101, 115]] ++ p.scopes else []
def lvW (p : Rule) : Wds := if (p.lvl != 0) = true then [[108, 101, 118, 101, 108], Lib.itoa p.lvl] else []
def agW (p : Rule) : Wds := if (p.age != 0) = true then [[97, 103, 101], Lib.itoa p.age] else []
theorem lineW_eq (p : Rule) : lineW p = [114, 117, 108, 101] :: p.name :: (if p.deny then [100, 101, 110, 121] else [112, 101, 114, 109, 105, 116]) :: (condsW 0 p.conds ++ (scW p ++ (lvW p ++ agW p))) := by
  simp only [lineW, wC, headW, List.take_length, scW, lvW, agW, List.append_assoc, List.cons_append, List.nil_append]
theorem condsW_w : ∀ (k : Nat) (cs : List Cond), (∀ c ∈ cs, possB c = true) → ∀ w ∈ condsW k cs, wfW w
  | _, [], _, w, hw => by simp [condsW] at hw
  | k, c :: t, h, w, hw => by
    obtain ⟨h1, h2, h3⟩ := poss_w (h c (by simp))
    simp only [condsW, List.mem_cons] at hw
    rcases hw with rfl | rfl | rfl | rfl | hw
    · unfold leadW; split <;> exact wf_lit (by decide)
    · exact h1
    · exact h2
    · exact escB_w h3
    · exact condsW_w (k + 1) t (fun c hc => h c (List.mem_cons_of_mem _ hc)) w hw
theorem lineW_w {p : Rule} (h : Fine p) : ∀ w ∈ lineW p, wfW w := by
  intro w hw
  rw [lineW_eq] at hw
  simp only [List.mem_cons, List.mem_append] at hw
  rcases hw with rfl | rfl | rfl | hw | hw | hw | hw
  · exact wf_lit (by decide)
  · exact wordB_w h.name
  · split <;> exact wf_lit (by decide)
  · exact condsW_w 0 _ h.poss w hw
  · unfold scW at hw
    split at hw
    · simp only [List.cons_append, List.nil_append, List.mem_cons] at hw
      rcases hw with rfl | hw
      · exact wf_lit (by decide)
      · exact wordB_w (validB_w (h.valid w hw).1)
    · simp at hw
  · unfold lvW at hw
    split at hw
    · simp only [List.mem_cons, List.not_mem_nil, or_false] at hw
      rcases hw with rfl | rfl
      · exact wf_lit (by decide)
      · exact itoa_w _
    · simp at hw
  · unfold agW at hw
    split at hw
    · simp only [List.mem_cons, List.not_mem_nil, or_false] at hw
      rcases hw with rfl | rfl
      · exact wf_lit (by decide)
      · exact itoa_w _
    · simp at hw
theorem leadW_s (k : Nat) : leadW (k + 1) = [97, 110, 100] := by simp [leadW]
theorem cdR_condsW : ∀ (cs : List Cond) (k n : Nat) (acc : List Cond) (rest : Wds), cs.length < n → hdB rest (leadW (k + cs.length)) = false → cdR n (leadW k) (condsW k cs ++ rest) acc = (true, rest, acc ++ cs)
  | [], k, n + 1, acc, rest, _, hr => by
    simp only [condsW, List.nil_append, List.append_nil, List.length_nil, Nat.add_zero] at hr ⊢
    rw [cdR_succ, hr]; rfl
  | c :: t, k, n + 1, acc, rest, hn, hr => by
    have hu := unB_escB c.v
    have ih := cdR_condsW t (k + 1) n (acc ++ [c]) rest (by simpa using hn) (by rw [show k + 1 + t.length = k + (c :: t).length by simp; omega]; exact hr)
    rw [leadW_s] at ih
    rw [cdR_succ]
    simp only [condsW, List.cons_append, hdB_cons, beq_self_eq_true, if_true, List.tail_cons, cdV, cdW, cdC, hu, Option.isSome_some, Option.getD_some]
    rw [ih]; simp
theorem scR_all : ∀ (sc acc rest : Wds), (∀ s ∈ sc, s ≠ [108, 101, 118, 101, 108] ∧ s ≠ [97, 103, 101]) → (rest = [] ∨ hdB rest [108, 101, 118, 101, 108] = true ∨ hdB rest [97, 103, 101] = true) → scR (sc ++ rest) acc = (rest, acc ++ sc)
  | [], acc, rest, _, hr => by
    simp only [List.nil_append, List.append_nil]
    match rest with
    | [] => rfl
    | x :: t =>
      simp only [hdB_cons, reduceCtorEq, false_or] at hr
      rw [scR, if_pos (by simpa using hr)]
  | s :: sc, acc, rest, h, hr => by
    have h0 := h s (by simp)
    rw [List.cons_append, scR, if_neg (by simpa using h0), scR_all sc _ rest (fun s hs => h s (List.mem_cons_of_mem _ hs)) hr]
    simp
theorem agW_hd (p : Rule) (w : List UInt8) (h : w ≠ [97, 103, 101]) : hdB (agW p) w = false := by
  unfold agW; split
  · rw [hdB_cons]; simpa using fun e => h e.symm
  · rfl
theorem lvag_hd (p : Rule) (w : List UInt8) (h : w ≠ [97, 103, 101]) (h' : w ≠ [108, 101, 118, 101, 108]) : hdB (lvW p ++ agW p) w = false := by
  unfold lvW; split
  · rw [List.cons_append, hdB_cons]; simpa using fun e => h' e.symm
  · exact agW_hd p w h
theorem lvag_end (p : Rule) : lvW p ++ agW p = [] ∨ hdB (lvW p ++ agW p) [108, 101, 118, 101, 108] = true ∨ hdB (lvW p ++ agW p) [97, 103, 101] = true := by
  unfold lvW agW; split
  · right; left; simp [hdB_cons]
  · split
    · right; right; simp [hdB_cons]
    · left; rfl
theorem cnt_word {w : List UInt8} {n : Int} {r : Wds} (h0 : -9223372036854775808 ≤ n) (h1 : n ≤ 9223372036854775807) (hr : hdB r w = false) :
    cntR ((if (n != 0) = true then [w, Lib.itoa n] else []) ++ r) w = (n, true, r) := by
  by_cases hn : n = 0
  · subst hn; simp only [bne_self_eq_false, Bool.false_eq_true, if_false, List.nil_append]; exact cntR_f hr
  · have : (n != 0) = true := by simpa using hn
    rw [if_pos this, List.cons_append, cntR_c (x := Lib.itoa n) (u := r) (by rw [hdB_cons]; simp) rfl, rdN_itoa n h0 h1]
    simp [hn]
theorem rdLine_lineW {p : Rule} (h : Fine p) (ha : p.age ≤ 9223372036854775807) : rdLine (lineW p) = some p.norm := by
  have hne : [] ∉ lineW p := fun hm => (lineW_w h [] hm).1 rfl
  have hv : wdAt (lineW p) 2 = if p.deny then [100, 101, 110, 121] else [112, 101, 114, 109, 105, 116] := by rw [lineW_eq]; rfl
  have hF : readF ((lineW p).drop 3) = (true, [], p.conds, p.scopes, p.lvl, p.age) := by
    have e : (lineW p).drop 3 = condsW 0 p.conds ++ (scW p ++ (lvW p ++ agW p)) := by rw [lineW_eq]; rfl
    have hw1 : ∀ w, w ≠ [115, 99, 111, 112, 101, 115] → w ≠ [97, 103, 101] → w ≠ [108, 101, 118, 101, 108] → hdB (scW p ++ (lvW p ++ agW p)) w = false := by
      intro w a b c
      unfold scW; split
      · rw [List.cons_append, List.cons_append, hdB_cons]; simpa using fun e => a e.symm
      · exact lvag_hd p w b c
    have hlen : ∀ (cs : List Cond) (k : Nat), cs.length ≤ (condsW k cs).length := by
      intro cs
      induction cs with
      | nil => intro k; exact Nat.zero_le _
      | cons c t ih => intro k; have := ih (k + 1); simp only [condsW, List.length_cons]; omega
    have h1 : cdR (((lineW p).drop 3).length + 1) [105, 102] ((lineW p).drop 3) [] = (true, scW p ++ (lvW p ++ agW p), p.conds) := by
      rw [e]
      have hl := hlen p.conds 0
      have hh : hdB (scW p ++ (lvW p ++ agW p)) (leadW (0 + p.conds.length)) = false := by
        unfold leadW; split <;> exact hw1 _ (by decide) (by decide) (by decide)
      have := cdR_condsW p.conds 0 ((condsW 0 p.conds ++ (scW p ++ (lvW p ++ agW p))).length + 1) [] (scW p ++ (lvW p ++ agW p)) (by rw [List.length_append]; omega) hh
      simpa [leadW] using this
    have h2 : rdScp true (scW p ++ (lvW p ++ agW p)) = (true, lvW p ++ agW p, p.scopes) := by
      unfold rdScp
      by_cases hs : p.scopes = []
      · have e2 : scW p = [] := by simp [scW, hs]
        rw [e2, List.nil_append, lvag_hd p _ (by decide) (by decide), hs]; rfl
      · have hs1 : 0 < p.scopes.length := List.length_pos_iff.2 hs
        have e2 : scW p = [115, 99, 111, 112, 101, 115] :: p.scopes := by
          unfold scW; rw [if_pos (by simp; omega)]; rfl
        have := scR_all p.scopes [] (lvW p ++ agW p) (fun s hs => (h.valid s hs).2) (lvag_end p)
        rw [e2, List.cons_append, hdB_cons]
        simp only [beq_self_eq_true, if_true, List.tail_cons, this, List.nil_append]
        have : decide ((p.scopes.length : Int) > 0) = true := by simp; omega
        rw [this]
    have h3 : cntR (lvW p ++ agW p) [108, 101, 118, 101, 108] = (p.lvl, true, agW p) := cnt_word (by have := h.lvl; omega) (by have := h.lvl; omega) (agW_hd p _ (by decide))
    have h4 : cntR (agW p) [97, 103, 101] = (p.age, true, []) := by
      have := cnt_word (w := [97, 103, 101]) (n := p.age) (r := []) (by have := h.age; omega) ha rfl
      rwa [List.append_nil] at this
    unfold readF
    rw [h1]; simp only; rw [h2]; simp only; rw [h3]; simp only; rw [h4]; rfl
  have hc : ¬ ((lineW p).length < 3 ∨ ¬ (wdAt (lineW p) 0 = [114, 117, 108, 101]) ∨ (¬ (wdAt (lineW p) 2 = [112, 101, 114, 109, 105, 116]) ∧ ¬ (wdAt (lineW p) 2 = [100, 101, 110, 121])) ∨ [] ∈ lineW p) := by
    rintro (q | q | ⟨q, q'⟩ | q)
    · rw [lineW_eq] at q; simp only [List.length_cons] at q; omega
    · exact q (by rw [lineW_eq]; rfl)
    · rw [hv] at q q'
      cases hd : p.deny <;> simp [hd] at q q'
    · exact hne q
  unfold rdLine
  rw [if_neg hc, hF]
  simp only [Option.some.injEq]
  have h1 : wdAt (lineW p) 1 = p.name := by rw [lineW_eq]; rfl
  rw [h1, hv]
  unfold Rule.norm
  congr 1
  cases p.deny <;> rfl
theorem rdL_lineB {p : Rule} (h : Fine p) (ha : p.age ≤ 9223372036854775807) : rdL (lineB p) = some p.norm := by
  unfold rdL lineB
  rw [cut_join 32 (lineW p) (by rw [lineW_eq]; simp) (fun w hw => (lineW_w h w hw).2.1)]
  exact rdLine_lineW h ha
theorem join_mem (c x : UInt8) : ∀ ws : Wds, x ∈ Lib.join ws [c] → x = c ∨ ∃ w ∈ ws, x ∈ w
  | [], h => by simp [Lib.join, List.intercalate] at h
  | [w], h => by rw [Lib.join_one] at h; exact .inr ⟨w, by simp, h⟩
  | a :: b :: r, h => by
    rw [joinT] at h
    rcases List.mem_append.1 h with h | h
    · exact .inr ⟨a, by simp, h⟩
    · rcases List.mem_cons.1 h with h | h
      · exact .inl h
      · rcases join_mem c x (b :: r) h with h | ⟨w, hw, h⟩
        · exact .inl h
        · exact .inr ⟨w, List.mem_cons_of_mem _ hw, h⟩
theorem lineB_10 {p : Rule} (h : Fine p) : (10 : UInt8) ∉ lineB p := by
  intro hm
  rcases join_mem 32 10 _ hm with e | ⟨w, hw, hx⟩
  · revert e; decide
  · exact (lineW_w h w hw).2.2 hx
theorem cut_text : ∀ l : List Rule, (∀ p ∈ l, Fine p) → cutA 10 [] (textB l) = l.map lineB ++ [[]]
  | [], _ => rfl
  | p :: t, h => by
    have e : textB (p :: t) = lineB p ++ 10 :: textB t := by simp [textB]
    rw [e, cutA_app 10 _ _ _ (lineB_10 (h p (by simp))), cutA_sep, cut_text t (fun q hq => h q (List.mem_cons_of_mem _ hq))]
    rfl
theorem parse_lines : ∀ (l seen : List Rule) (n : Int), (∀ p ∈ l, Fine p ∧ p.age ≤ 9223372036854775807) → checkE (seen ++ l) = 0 →
    parseP n (seen.map Rule.norm) (l.map lineB ++ [[]]) = ((seen ++ l).map Rule.norm, 0, 0)
  | [], seen, n, _, _ => by simp only [List.map_nil, List.nil_append, List.append_nil]; exact parseP_e _ _ rfl
  | p :: t, seen, n, h, hc => by
    obtain ⟨m, u, e⟩ : ∃ m u, t.map lineB ++ [[]] = m :: u := by
      cases t with
      | nil => exact ⟨_, _, rfl⟩
      | cons q t => exact ⟨_, _, rfl⟩
    have hp := h p (by simp)
    have hc' : checkE ((seen ++ [p]) ++ t) = 0 := by simpa using hc
    have hk : checkE (seen.map Rule.norm ++ [p.norm]) = 0 := by
      have := checkE_norm (seen ++ [p])
      rw [List.map_append] at this
      exact this.trans (checkE_pre hc')
    have ih := parse_lines t (seen ++ [p]) (n + 1) (fun q hq => h q (List.mem_cons_of_mem _ hq)) hc'
    rw [List.map_cons, List.cons_append, e, parseP_s _ _ (rdL_lineB hp.1 hp.2) hk, ← e]
    rw [List.map_append] at ih
    simp only [List.map_cons, List.map_nil] at ih
    rw [ih]; simp
theorem parse_text {l : List Rule} (hc : checkE l = 0) (ha : ∀ p ∈ l, p.age ≤ 9223372036854775807) (hl : (textB l).length ≤ 4096) : pR (textB l) = (l.map Rule.norm, 0, 0) := by
  have hf := fine_each hc
  rw [pR_short hl, cut_text l hf]
  have := parse_lines l [] 0 (fun p hp => ⟨hf p hp, ha p hp⟩) (by simpa using hc)
  simpa using this
/-! What is read is written again. -/
theorem cdR_inv : ∀ (n k : Nat) (ws w1 : Wds) (acc cs : List Cond), cdR n (leadW k) ws acc = (true, w1, cs) → ∃ l, cs = acc ++ l ∧ ws = condsW k l ++ w1
  | 0, k, ws, w1, acc, cs, h => by
    rw [cdR] at h
    simp only [Prod.mk.injEq, true_and] at h
    exact ⟨[], by simp [h.2], by simp [condsW, h.1]⟩
  | n + 1, k, ws, w1, acc, cs, h => by
    rw [cdR_succ] at h
    by_cases hh : hdB ws (leadW k) = true
    · rw [if_pos hh] at h
      have hw := hdB_t hh
      rcases cd_cases ws.tail with ⟨_, hv, _⟩ | ⟨f, op, v, t, ht⟩
      · rw [hv] at h; simp at h
      · rw [ht] at h hw
        cases hu : unB v with
        | none => simp [cdV, hu] at h
        | some x =>
          simp only [cdV, hu, Option.isSome_some, if_true, cdW, cdC, Option.getD_some] at h
          rw [← leadW_s k] at h
          obtain ⟨l, h1, h2⟩ := cdR_inv n (k + 1) t w1 _ cs h
          refine ⟨⟨f, op, x⟩ :: l, by simp [h1], ?_⟩
          rw [hw, h2]
          simp only [condsW, List.cons_append, escB_unB hu]
    · rw [if_neg hh] at h
      simp only [Prod.mk.injEq, true_and] at h
      exact ⟨[], by simp [h.2], by simp [condsW, h.1]⟩
theorem scR_inv : ∀ (ws acc : Wds), ∃ sc, (scR ws acc).2 = acc ++ sc ∧ ws = sc ++ (scR ws acc).1
  | [], acc => ⟨[], by simp [scR], by simp [scR]⟩
  | x :: t, acc => by
    rw [scR]
    split
    · exact ⟨[], by simp, by simp⟩
    · obtain ⟨sc, h1, h2⟩ := scR_inv t (acc ++ [x])
      exact ⟨x :: sc, by rw [h1]; simp, by rw [List.cons_append, ← h2]⟩
theorem cntR_inv {ws w3 : Wds} {w : List UInt8} {n : Int} (h : cntR ws w = (n, true, w3)) : ws = (if (n != 0) = true then [w, Lib.itoa n] else []) ++ w3 := by
  cases hh : hdB ws w with
  | false =>
    rw [cntR_f hh] at h
    simp only [Prod.mk.injEq, true_and] at h
    rw [← h.1, ← h.2]; rfl
  | true =>
    have hw := hdB_t hh
    cases ht : ws.tail with
    | nil => rw [cntR_n hh ht] at h; simp at h
    | cons x u =>
      rw [cntR_c hh ht] at h
      simp only [Prod.mk.injEq, Bool.and_eq_true, beq_iff_eq] at h
      obtain ⟨h1, ⟨h2, h3⟩, h4⟩ := h
      have := itoa_rdN h2
      rw [h1] at h3 this
      rw [if_pos h3, hw, ht, ← h4, this]; rfl
theorem lineW_rdLine {ws : Wds} {p : Rule} (h : rdLine ws = some p) : lineW p = ws := by
  unfold rdLine at h
  split at h
  · cases h
  rename_i hc
  simp only [not_or, Decidable.not_not] at hc
  obtain ⟨h3, h0, h2', hne⟩ := hc
  have h2 : wdAt ws 2 = [112, 101, 114, 109, 105, 116] ∨ wdAt ws 2 = [100, 101, 110, 121] := by
    by_cases a : wdAt ws 2 = [112, 101, 114, 109, 105, 116]
    · exact .inl a
    · by_cases b : wdAt ws 2 = [100, 101, 110, 121]
      · exact .inr b
      · exact absurd ⟨a, b⟩ h2'
  split at h
  · rename_i w cs sc lv ag hF
    simp only [Option.some.injEq] at h
    subst h
    have hws : ws = wdAt ws 0 :: wdAt ws 1 :: wdAt ws 2 :: ws.drop 3 := by
      match ws, h3 with
      | a :: b :: c :: t, _ => rfl
      | [], h3 => exact absurd (by simp) h3
      | [a], h3 => exact absurd (by simp) h3
      | [a, b], h3 => exact absurd (by simp) h3
    unfold readF at hF
    split at hF
    rename_i ok w1 c1 e1
    split at hF
    rename_i ok2 w2 s2 e2
    split at hF
    rename_i n1 b1 w3 e3
    split at hF
    rename_i n2 b2 w4 e4
    simp only [Prod.mk.injEq, Bool.and_eq_true, beq_iff_eq] at hF
    obtain ⟨⟨⟨⟨q1, q2⟩, q3⟩, q4⟩, rfl, rfl, rfl, rfl, rfl⟩ := hF
    subst q1; subst q2; subst q3
    have hw4 : w4 = [] := List.eq_nil_of_length_eq_zero (by omega)
    subst hw4
    have ok1 : ok = true := by
      cases ok with
      | true => rfl
      | false => simp [rdScp] at e2
    subst ok1
    obtain ⟨l, g1, g2⟩ := cdR_inv _ 0 _ _ _ _ e1
    have g3 := cntR_inv e3
    have g4 := cntR_inv e4
    rw [List.append_nil] at g4
    have g5 : w1 = (if decide ((s2.length : Int) > 0) = true then [[115, 99, 111, 112, 101, 115]] ++ s2 else []) ++ w2 := by
      unfold rdScp at e2
      simp only [if_true] at e2
      split at e2
      · rename_i hh
        simp only [Prod.mk.injEq] at e2
        obtain ⟨a1, a2, a3⟩ := e2
        obtain ⟨sc, b1, b2⟩ := scR_inv w1.tail []
        rw [a3] at a1
        rw [if_pos a1, hdB_t hh, b2, a2]
        rw [a3] at b1
        simp [b1]
      · simp only [Prod.mk.injEq, true_and] at e2
        rw [← e2.1, ← e2.2]; simp
    rw [lineW_eq]
    refine Eq.trans ?_ hws.symm
    rw [h0]
    congr 1
    congr 1
    congr 1
    · rcases h2 with h2 | h2
      · simp [h2]
      · simp [h2]
    · simp only [List.nil_append] at g1
      subst g1
      show condsW 0 c1 ++ (scW _ ++ (lvW _ ++ agW _)) = _
      rw [g2, g5, g3, g4]; rfl
  · cases h
theorem lineB_rdL {l : List UInt8} {p : Rule} (h : rdL l = some p) : lineB p = l := by
  unfold lineB
  rw [lineW_rdLine h]
  have := join_cut 32 l []
  simpa using this
theorem parse_inv : ∀ (ws : Wds) (n k : Int) (rs m : List Rule), ws ≠ [] → checkE rs = 0 → parseP n rs ws = (m, k, 0) → k = 0 ∧ checkE m = 0 ∧ ∃ l, m = rs ++ l ∧ ws = l.map lineB ++ [[]]
  | [], n, k, rs, m, h0, _, _ => absurd rfl h0
  | [l], n, k, rs, m, _, hc, h => by
    by_cases hl : l = []
    · rw [parseP_e _ _ hl] at h
      simp only [Prod.mk.injEq, and_true] at h
      rw [← h.1]
      exact ⟨h.2.symm, hc, [], by simp, by simp [hl]⟩
    · rw [parseP_l _ _ hl] at h; simp at h
  | l :: x :: t, n, k, rs, m, _, hc, h => by
    cases hr : rdL l with
    | none => rw [parseP_n _ _ hr] at h; simp at h
    | some p =>
      by_cases hk : checkE (rs ++ [p]) = 0
      · rw [parseP_s _ _ hr hk] at h
        obtain ⟨h1, h2, l', h3, h4⟩ := parse_inv (x :: t) _ k _ m (by simp) hk h
        exact ⟨h1, h2, p :: l', by simp [h3], by rw [h4, List.map_cons, lineB_rdL hr]; rfl⟩
      · rw [parseP_b _ _ hr hk] at h
        simp only [Prod.mk.injEq] at h
        exact absurd h.2.2 hk
theorem join_lines : ∀ l : List Rule, Lib.join (l.map lineB ++ [[]]) [10] = textB l
  | [] => by simp [Lib.join, List.intercalate, textB]
  | p :: t => by
    have e : textB (p :: t) = lineB p ++ 10 :: textB t := by simp [textB]
    have ih := join_lines t
    obtain ⟨m, u, e2⟩ : ∃ m u, t.map lineB ++ [[]] = m :: u := by
      cases t with
      | nil => exact ⟨_, _, rfl⟩
      | cons q t => exact ⟨_, _, rfl⟩
    rw [e2] at ih
    rw [List.map_cons, List.cons_append, e2, joinT, ih, e]
theorem text_parse {s : List UInt8} {m : List Rule} {k : Int} (h : pR s = (m, k, 0)) : k = 0 ∧ checkE m = 0 ∧ textB m = s ∧ s.length ≤ 4096 := by
  by_cases hl : 4096 < s.length
  · rw [pR_long hl] at h; simp at h
  · rw [pR_short (by omega)] at h
    obtain ⟨a, t, e⟩ := cutA_ne 10 s
    obtain ⟨h1, h2, l, h3, h4⟩ := parse_inv _ 0 k [] m (by rw [e]; simp) (by decide) h
    simp only [List.nil_append] at h3
    subst h3
    refine ⟨h1, h2, ?_, by omega⟩
    rw [← join_lines, ← h4]
    simpa using join_cut 10 s []
theorem parse_none {s : List UInt8} (h : (pR s).2.2 ≠ 0) : (pR s).1 = [] := by
  by_cases hl : 4096 < s.length
  · rw [pR_long hl]
  · rw [pR_short (by omega)] at h ⊢
    have : ∀ (ws : Wds) (n : Int) (rs : List Rule), (parseP n rs ws).2.2 ≠ 0 → (parseP n rs ws).1 = [] := by
      intro ws
      induction ws with
      | nil => intro n rs h; simp [parseP] at h
      | cons l t ih =>
        intro n rs h
        match t, ih with
        | [], _ =>
          by_cases hl : l = []
          · rw [parseP_e _ _ hl] at h; simp at h
          · rw [parseP_l _ _ hl]
        | m :: t, ih =>
          cases hr : rdL l with
          | none => rw [parseP_n _ _ hr]
          | some p =>
            by_cases hk : checkE (rs ++ [p]) = 0
            · rw [parseP_s _ _ hr hk] at h ⊢
              exact ih _ _ h
            · rw [parseP_b _ _ hr hk]
    exact this _ _ _ h
/-- Text forms are equal exactly if the rules are. -/
theorem text_inj {l m : List Rule} (hl : checkE l = 0) (hm : checkE m = 0) (ha : ∀ p ∈ l, p.age ≤ 9223372036854775807) (hb : ∀ p ∈ m, p.age ≤ 9223372036854775807) (h1 : (textB l).length ≤ 4096) (h2 : (textB m).length ≤ 4096) :
    (textB l = textB m) ↔ equalR l m = true := by
  rw [equalR_iff]
  constructor
  · intro h
    have e1 := parse_text hl ha h1
    have e2 := parse_text hm hb h2
    rw [h, e2] at e1
    simp only [Prod.mk.injEq, and_true] at e1
    exact e1.symm
  · intro h
    rw [← textB_norm l, ← textB_norm m, h]
end Go.Proofs

/-
  Plain: what conditions answer. Conditions: as each theorem says.
-/
set_option linter.unusedSimpArgs false
set_option linter.unusedVariables false
namespace Go.Proofs
open Go Go.Id
theorem holds_no {c : Cond} {r : Req} (h : possB c = false) : holdsB c r = false := by simp [holdsB, h]
theorem poss_holds (c : Cond) (r : Req) : (possB c || !holdsB c r) = true := by
  cases h : possB c <;> simp [holdsB, h]
theorem opp_is {c : Cond} (r : Req) (hp : possB c = true) (hf : (c.f == [116, 114, 117, 115, 116, 101, 100]) = false) (ho : c.op = [105, 115]) : holdsB ⟨c.f, [110, 111, 116], c.v⟩ r = !holdsB c r := by
  obtain ⟨f, op, v⟩ := c
  dsimp only at ho hf
  subst ho
  have hq : possB ⟨f, [110, 111, 116], v⟩ = true := by
    unfold possB at hp ⊢
    dsimp only at hp hf ⊢
    rw [hf] at hp ⊢
    split at hp
    · rename_i h1; rw [if_pos h1]; simpa using hp
    rename_i h1; rw [if_neg h1]
    split at hp
    · simp at hp
    split at hp
    · simp at hp
    simp at hp
  unfold holdsB
  rw [hp, hq]
  simp [wordR]
theorem opp_has {c : Cond} (r : Req) (hp : possB c = true) (ho : c.op = [104, 97, 115]) : holdsB ⟨c.f, [108, 97, 99, 107, 115], c.v⟩ r = !holdsB c r := by
  obtain ⟨f, op, v⟩ := c
  dsimp only at ho
  subst ho
  have hq : possB ⟨f, [108, 97, 99, 107, 115], v⟩ = true := by
    unfold possB at hp ⊢
    dsimp only at hp ⊢
    split at hp
    · simp at hp
    rename_i h1; rw [if_neg h1]
    split at hp
    · rename_i h2; rw [if_pos h2]; simpa using hp
    rename_i h2; rw [if_neg h2]
    split at hp
    · rename_i h3; rw [if_pos h3]; simpa using hp
    rename_i h3; rw [if_neg h3]
    split at hp
    · simp at hp
    simp at hp
  unfold holdsB
  rw [hp, hq]
  simp [membR]
theorem opp_min {c : Cond} (r : Req) (hp : possB c = true) (ho : c.op = [109, 105, 110]) : (rdN c.v).2 = 0 ∧ holdsB c r = decide (measR c.f r ≥ (rdN c.v).1) ∧ holdsB ⟨c.f, [109, 97, 120], c.v⟩ r = decide (measR c.f r ≤ (rdN c.v).1) := by
  obtain ⟨f, op, v⟩ := c
  dsimp only at ho
  subst ho
  have hq : possB ⟨f, [109, 97, 120], v⟩ = true ∧ (rdN v).2 = 0 := by
    unfold possB at hp ⊢
    dsimp only at hp ⊢
    split at hp
    · simp at hp
    rename_i h1; rw [if_neg h1]
    split at hp
    · simp at hp
    rename_i h2; rw [if_neg h2]
    split at hp
    · simp at hp
    rename_i h3; rw [if_neg h3]
    split at hp
    · simp at hp
    rename_i h4; rw [if_neg h4]
    split at hp
    · rename_i h5; rw [if_pos h5]
      simp at hp
      exact ⟨by simp [hp], hp⟩
    · cases hp
  refine ⟨hq.2, ?_, ?_⟩
  · unfold holdsB; rw [hp]; simp
  · unfold holdsB; rw [hq.1]; simp
theorem opp_some {c : Cond} (r : Req) (hp : possB c = true) (ho : c.op = [109, 105, 110]) (ha : holdsB c r = false) : holdsB ⟨c.f, [109, 97, 120], c.v⟩ r = true := by
  obtain ⟨_, h1, h2⟩ := opp_min r hp ho
  rw [h1] at ha
  rw [h2]
  simp only [decide_eq_false_iff_not, decide_eq_true_eq] at *
  omega
theorem opp_both {c : Cond} (r : Req) (hp : possB c = true) (ho : c.op = [109, 105, 110]) (ha : holdsB c r = true) (hb : holdsB ⟨c.f, [109, 97, 120], c.v⟩ r = true) :
    (c.f = [114, 105, 115, 107] → r.risk = (rdN c.v).1) ∧ (c.f = [108, 101, 118, 101, 108] → r.level = (rdN c.v).1) := by
  obtain ⟨_, h1, h2⟩ := opp_min r hp ho
  rw [h1] at ha
  rw [h2] at hb
  simp only [decide_eq_true_eq] at ha hb
  constructor
  · intro hf
    have : measR c.f r = r.risk := by simp [measR, hf]
    omega
  · intro hf
    have : measR c.f r = r.level := by simp [measR, hf]
    omega
/-! The first condition that does not hold. -/
theorem firstL_rg (r : Req) : ∀ (l : List Cond) (i : Int), firstL r l i = -1 ∨ (i ≤ firstL r l i ∧ firstL r l i < i + l.length)
  | [], i => .inl rfl
  | c :: l, i => by
    rw [firstL]
    split
    · right; simp; omega
    · have := firstL_rg r l (i + 1)
      simp only [List.length_cons]
      omega
theorem firstL_at (r : Req) : ∀ (l : List Cond) (i : Int) (k : Nat) (hk : k < l.length), 0 ≤ i → (firstL r l i < 0 ∨ i + k < firstL r l i → holdsB l[k] r = true) ∧ (firstL r l i = i + k → holdsB l[k] r = false)
  | c :: l, i, 0, _, hi => by
    rw [firstL]
    cases h : holdsB c r with
    | true =>
      have := firstL_rg r l (i + 1)
      refine ⟨fun _ => h, fun e => ?_⟩
      simp at e
      omega
    | false =>
      refine ⟨fun e => ?_, fun _ => h⟩
      simp at e
      omega
  | c :: l, i, k + 1, hk, hi => by
    rw [firstL]
    cases h : holdsB c r with
    | true =>
      have ih := firstL_at r l (i + 1) k (by simpa using hk) (by omega)
      simp only [Bool.not_true, Bool.false_eq_true, if_false, List.getElem_cons_succ]
      refine ⟨fun e => ih.1 (by simp at e; omega), fun e => ih.2 (by simp at e; omega)⟩
    | false =>
      simp
      refine ⟨fun e => by omega, fun e => by omega⟩
theorem firstL_congr {r q : Req} : ∀ (l : List Cond) (i : Int), (∀ c ∈ l, holdsB c r = holdsB c q) → firstL r l i = firstL q l i
  | [], _, _ => rfl
  | c :: l, i, h => by
    rw [firstL, firstL, h c (by simp), firstL_congr l (i + 1) fun c hc => h c (List.mem_cons_of_mem _ hc)]
theorem ment_no {a b : List UInt8} {l : List Cond} (h : mentB a b l = false) {c : Cond} (hc : c ∈ l) : c.f ≠ a ∧ c.f ≠ b := by
  simp only [mentB, List.any_eq_false, Bool.or_eq_true, beq_iff_eq, not_or] at h
  exact h c hc
theorem poss_f {c : Cond} (h : possB c = true) : c.f ∈ ([[117, 115, 101, 114], [99, 108, 105, 101, 110, 116], [116, 101, 110, 97, 110, 116], [103, 114, 111, 117, 112], [115, 99, 111, 112, 101], [116, 114, 117, 115, 116, 101, 100], [97, 103, 101], [104, 111, 117, 114], [108, 101, 118, 101, 108], [114, 105, 115, 107]] : List (List UInt8)) := by
  unfold possB at h
  simp only [List.mem_cons, List.not_mem_nil, or_false]
  repeat' split at h
  all_goals first | (rename_i h1; simp only [Bool.or_eq_true, beq_iff_eq] at h1; simp [h1]; done) | (rename_i h1; simp only [Bool.or_eq_true, beq_iff_eq] at h1; rcases h1 with ((h1 | h1) | h1) | h1 <;> simp [h1]; done) | (rename_i h1; simp only [Bool.or_eq_true, beq_iff_eq] at h1; rcases h1 with (h1 | h1) | h1 <;> simp [h1]; done) | cases h
theorem opk {c : Cond} (h : possB c = true) : ((c.f = [117, 115, 101, 114] ∨ c.f = [99, 108, 105, 101, 110, 116] ∨ c.f = [116, 101, 110, 97, 110, 116]) ∧ (c.op = [105, 115] ∨ c.op = [110, 111, 116])) ∨ ((c.f = [103, 114, 111, 117, 112] ∨ c.f = [115, 99, 111, 112, 101]) ∧ (c.op = [104, 97, 115] ∨ c.op = [108, 97, 99, 107, 115])) ∨ (c.f = [116, 114, 117, 115, 116, 101, 100] ∧ c.op = [105, 115]) ∨
    ((c.f = [97, 103, 101] ∨ c.f = [104, 111, 117, 114] ∨ c.f = [108, 101, 118, 101, 108] ∨ c.f = [114, 105, 115, 107]) ∧ (c.op = [109, 105, 110] ∨ c.op = [109, 97, 120])) := by
  unfold possB at h
  split at h
  · rename_i h1
    simp only [Bool.and_eq_true, Bool.or_eq_true, beq_iff_eq] at h h1
    exact .inl ⟨by rcases h1 with (h1 | h1) | h1 <;> simp [h1], h.1⟩
  split at h
  · rename_i h1
    simp only [Bool.and_eq_true, Bool.or_eq_true, beq_iff_eq] at h h1
    exact .inr (.inl ⟨.inl h1, h.1⟩)
  split at h
  · rename_i h1
    simp only [Bool.and_eq_true, Bool.or_eq_true, beq_iff_eq] at h h1
    exact .inr (.inl ⟨.inr h1, h.1⟩)
  split at h
  · rename_i h1
    simp only [Bool.and_eq_true, Bool.or_eq_true, beq_iff_eq] at h h1
    exact .inr (.inr (.inl ⟨h1, h.1⟩))
  split at h
  · rename_i h1
    simp only [Bool.and_eq_true, Bool.or_eq_true, beq_iff_eq] at h h1
    exact .inr (.inr (.inr ⟨by rcases h1 with ((h1 | h1) | h1) | h1 <;> simp [h1], h.1⟩))
  · cases h
/-- A request in which only what no condition mentions was changed. -/
theorem holds_other {c : Cond} {r q : Req}
    (hu : c.f = [117, 115, 101, 114] → r.user = q.user) (hc : r.client = q.client) (ht : r.tenant = q.tenant) (hg : c.f = [103, 114, 111, 117, 112] → r.groups = q.groups) (hs : r.scopes = q.scopes)
    (hk : c.f = [114, 105, 115, 107] → r.risk = q.risk) (htr : r.trusted = q.trusted) (hl : r.level = q.level) (ha : c.f = [97, 103, 101] → r.auth = q.auth) (hn : (c.f = [97, 103, 101] ∨ c.f = [104, 111, 117, 114]) → r.now = q.now) :
    holdsB c r = holdsB c q := by
  unfold holdsB
  cases hp : possB c with
  | false => rfl
  | true =>
    rcases opk hp with ⟨hf, ho⟩ | ⟨hf, ho⟩ | ⟨hf, ho⟩ | ⟨hf, ho⟩
    · have e : wordR c.f r = wordR c.f q := by
        rcases hf with hf | hf | hf
        · simp [wordR, hf, hu hf]
        · simp [wordR, hf, hc]
        · simp [wordR, hf, ht]
      rcases ho with ho | ho <;> simp [ho, e]
    · have e : membR c.f r = membR c.f q := by
        rcases hf with hf | hf
        · simp [membR, hf, hg hf]
        · simp [membR, hf, hs]
      rcases ho with ho | ho <;> simp [ho, e]
    · have e : wordR c.f r = wordR c.f q := by simp [wordR, hf, htr]
      simp [ho, e]
    · have e : measR c.f r = measR c.f q := by
        rcases hf with hf | hf | hf | hf
        · simp [measR, hf, ha hf, hn (.inl hf)]
        · simp [measR, hf, hn (.inr hf)]
        · simp [measR, hf, hl]
        · simp [measR, hf, hk hf]
      rcases ho with ho | ho <;> simp [ho, e]
/-! What a text form says of its rules. -/
theorem text_full (l : List Rule) : ∃ s e, textD l = .tup [.str s, .int .i64 e] ∧ (e = 0 → s = textB l ∧ checkE l = 0 ∧ (textB l).length ≤ 4096) := by
  unfold textD
  split
  · rename_i h
    exact ⟨_, _, rfl, fun e => by simp [e] at h⟩
  · rename_i h
    split
    · exact ⟨_, _, rfl, fun e => by cases e⟩
    · rename_i h2
      refine ⟨_, _, rfl, fun _ => ⟨rfl, by simpa using h, ?_⟩⟩
      simp at h2
      omega
theorem text_eqB {l m : List Rule} {a b : List UInt8} (h1 : a = textB l ∧ checkE l = 0 ∧ (textB l).length ≤ 4096) (h2 : b = textB m ∧ checkE m = 0 ∧ (textB m).length ≤ 4096) (hl : ∀ p ∈ l, p.rng) (hm : ∀ p ∈ m, p.rng) :
    (a == b) = equalR l m := by
  obtain ⟨rfl, h1, h3⟩ := h1
  obtain ⟨rfl, h2, h4⟩ := h2
  rw [Bool.eq_iff_iff, beq_iff_eq]
  exact text_inj h1 h2 (fun p hp => (hl p hp).2.2) (fun p hp => (hm p hp).2.2) h3 h4
theorem norm_equal (l : List Rule) : equalR (l.map Rule.norm) l = true := by
  rw [equalR_iff, List.map_map]
  exact List.map_congr_left fun p _ => norm_norm p
theorem norm_ok0 {l : List Rule} (h : ∀ p ∈ l, p.ok0) : ∀ p ∈ l.map Rule.norm, p.ok0 := by
  intro q hq
  obtain ⟨p, hp, rfl⟩ := List.mem_map.1 hq
  have := h p hp
  exact ⟨this.1, List.isEmpty_iff.1, this.2.2.1, List.isEmpty_iff.1⟩
theorem rdN_le (s : List UInt8) : -9223372036854775808 ≤ (rdN s).1 ∧ (rdN s).1 ≤ 9223372036854775807 := by
  unfold rdN
  repeat' split
  all_goals (dsimp only; omega)
theorem cntR_le (ws : Wds) (w : List UInt8) : -9223372036854775808 ≤ (cntR ws w).1 ∧ (cntR ws w).1 ≤ 9223372036854775807 := by
  cases hh : hdB ws w with
  | false => rw [cntR_f hh]; dsimp only; omega
  | true =>
    cases ht : ws.tail with
    | nil => rw [cntR_n hh ht]; dsimp only; omega
    | cons x u => rw [cntR_c hh ht]; exact rdN_le x
theorem rdLine_rng {ws : Wds} {p : Rule} (h : rdLine ws = some p) : p.rng := by
  unfold rdLine at h
  split at h
  · cases h
  split at h
  · rename_i w cs sc lv ag hF
    simp only [Option.some.injEq] at h
    subst h
    unfold readF at hF
    split at hF
    split at hF
    split at hF
    rename_i n1 b1 w3 e3
    split at hF
    rename_i n2 b2 w4 e4
    simp only [Prod.mk.injEq] at hF
    obtain ⟨_, _, _, _, rfl, rfl⟩ := hF
    constructor
    · have : ∀ ws', cntR ws' [108, 101, 118, 101, 108] = (n1, b1, w3) → -9223372036854775808 ≤ n1 ∧ n1 ≤ 9223372036854775807 := fun ws' e => by
        have := cntR_le ws' [108, 101, 118, 101, 108]
        rw [e] at this; exact this
      exact this _ e3
    · have := cntR_le w3 [97, 103, 101]
      rw [e4] at this; exact this
  · cases h
theorem join_len {c : UInt8} : ∀ {ws : Wds} {w : List UInt8}, w ∈ ws → w.length ≤ (Lib.join ws [c]).length
  | [x], w, h => by rw [List.mem_singleton.1 h, Lib.join_one]; exact Nat.le_refl _
  | x :: y :: r, w, h => by
    rw [joinT, List.length_append, List.length_cons]
    rcases List.mem_cons.1 h with rfl | h
    · omega
    · have := join_len (c := c) h
      omega
theorem condsW_in : ∀ {cs : List Cond} {k : Nat} {c : Cond}, c ∈ cs → c.f ∈ condsW k cs ∧ c.op ∈ condsW k cs ∧ escB c.v ∈ condsW k cs
  | d :: t, k, c, h => by
    rcases List.mem_cons.1 h with rfl | h
    · simp [condsW]
    · have := condsW_in (k := k + 1) h
      simp [condsW, this]
theorem textB_mem {l : List Rule} {p : Rule} (h : p ∈ l) : (lineB p).length ≤ (textB l).length := by
  induction l with
  | nil => cases h
  | cons q t ih =>
    have e : textB (q :: t) = lineB q ++ 10 :: textB t := by simp [textB]
    rw [e, List.length_append, List.length_cons]
    rcases List.mem_cons.1 h with rfl | h
    · omega
    · have := ih h; omega
/-- What was read of a short text is small. -/
theorem parsed_sm {s : List UInt8} (h : (pR s).2.2 = 0) : ∀ p ∈ (pR s).1, p.sm := by
  obtain ⟨_, h2, h3, h4⟩ := text_parse (s := s) (m := (pR s).1) (k := (pR s).2.1) (by rw [← h])
  intro p hp
  have hf := fine_each h2 p hp
  have hok := (pR_ok s).1 p hp
  have hlen : (lineB p).length ≤ 4096 := by have := textB_mem hp; rw [h3] at this; omega
  have hw : ∀ w ∈ lineW p, w.length ≤ 4096 := fun w hw => Nat.le_trans (join_len hw) hlen
  have hrg : p.rng := by
    have : ∀ (ws : Wds) (n : Int) (rs : List Rule), (∀ q ∈ rs, q.rng) → ∀ q ∈ (parseP n rs ws).1, q.rng := by
      intro ws
      induction ws with
      | nil => intro n rs hr; exact hr
      | cons l t ih =>
        intro n rs hr
        match t, ih with
        | [], _ =>
          by_cases hl : l = []
          · rw [parseP_e _ _ hl]; exact hr
          · rw [parseP_l _ _ hl]; simp
        | m :: t, ih =>
          cases hd : rdL l with
          | none => rw [parseP_n _ _ hd]; simp
          | some q =>
            by_cases hk : checkE (rs ++ [q]) = 0
            · rw [parseP_s _ _ hd hk]
              refine ih _ _ fun x hx => ?_
              rcases List.mem_append.1 hx with hx | hx
              · exact hr x hx
              · rw [List.mem_singleton.1 hx]; exact rdLine_rng hd
            · rw [parseP_b _ _ hd hk]; simp
    rw [pR_short h4] at hp
    exact this _ _ _ (by simp) p hp
  have hs16 : p.scopes.length ≤ 16 := by
    have := hf.scope
    rw [scopeE] at this
    split at this
    · cases this
    · omega
  refine ⟨Nat.le_trans (hw _ (by rw [lineW_eq]; simp)) (by decide), by have := hf.few; omega, fun c hc => ?_, by omega, fun x hx => ?_, hok.1.2.1, hok.1.2.2.2, hrg.1, hrg.2⟩
  · have hm := condsW_in (k := 0) hc
    have mem : ∀ w, w ∈ condsW 0 p.conds → w.length ≤ 100000 := fun w h => Nat.le_trans (hw w (by rw [lineW_eq]; simp [h])) (by decide)
    exact ⟨mem _ hm.1, mem _ hm.2.1, Nat.le_trans (escB_ge c.v) (mem _ hm.2.2)⟩
  · have : x ∈ scW p := by
      have : 0 < p.scopes.length := List.length_pos_of_mem hx
      unfold scW
      rw [if_pos (by simp; omega)]
      simp [hx]
    exact Nat.le_trans (hw _ (by rw [lineW_eq]; simp [this])) (by decide)
theorem parsed_text {s : List UInt8} (h : (pR s).2.2 = 0) : checkE (pR s).1 = 0 ∧ textD (pR s).1 = .tup [.str s, .int .i64 0] := by
  obtain ⟨_, h2, h3, h4⟩ := text_parse (s := s) (m := (pR s).1) (k := (pR s).2.1) (by rw [← h])
  refine ⟨h2, ?_⟩
  unfold textD
  rw [h2, h3, if_neg (by simp), if_neg (by simp; omega)]
theorem poss_scope {c : Cond} (h : possB c = true) (hf : c.f = [115, 99, 111, 112, 101]) : scopeE [c.v] = 0 := by
  simp [possB, hf] at h
  exact h.2
theorem fine_deny {p : Rule} (h : Fine p) : (p.deny == ((p.scopes.length : Int) == 0)) = true := by
  cases hd : p.deny with
  | true => simp [(h.deny hd).1]
  | false => simp [h.permit hd]
def othR (p : Rule) (r q : Req) : Req :=
  ⟨if mentB [117, 115, 101, 114] [117, 115, 101, 114] p.conds then r.user else q.user, r.client, r.tenant, if mentB [103, 114, 111, 117, 112] [103, 114, 111, 117, 112] p.conds then r.groups else q.groups, if mentB [103, 114, 111, 117, 112] [103, 114, 111, 117, 112] p.conds then r.ng else q.ng,
    r.scopes, r.ns, if mentB [114, 105, 115, 107] [114, 105, 115, 107] p.conds then r.risk else q.risk, r.trusted, r.level, if mentB [97, 103, 101] [97, 103, 101] p.conds then r.auth else q.auth, if mentB [97, 103, 101] [104, 111, 117, 114] p.conds then r.now else q.now⟩
theorem othR_ok {p : Rule} {r q : Req} (hr : r.ok) (hq : q.ok) : (othR p r q).ok := by
  unfold othR Req.ok
  dsimp only
  cases mentB [103, 114, 111, 117, 112] [103, 114, 111, 117, 112] p.conds
  · exact ⟨hq.1, hq.2.1, hr.2.2⟩
  · exact hr
theorem othR_first {p : Rule} {r q : Req} : firstL (othR p r q) p.conds 0 = firstL r p.conds 0 := by
  refine firstL_congr p.conds 0 fun c hc => ?_
  have key : ∀ {a b : List UInt8} {α : Type} (x y : α), (c.f = a ∨ c.f = b) → (if mentB a b p.conds then x else y) = x := by
    intro a b α x y h
    cases hm : mentB a b p.conds with
    | true => rfl
    | false =>
      have := ment_no hm hc
      rcases h with h | h
      · exact absurd h this.1
      · exact absurd h this.2
  exact holds_other (fun h => key _ _ (.inl h)) rfl rfl (fun h => key _ _ (.inl h)) rfl (fun h => key _ _ (.inl h)) rfl rfl (fun h => key _ _ (.inl h)) (fun h => key _ _ h)
end Go.Proofs
