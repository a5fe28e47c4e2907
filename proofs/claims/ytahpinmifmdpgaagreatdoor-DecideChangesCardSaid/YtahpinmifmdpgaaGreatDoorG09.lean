import Derived.Test.YtahpinmifmdpgaaGreatDoorG08
import Derived.Test.YtahpinmifmdpgaaGreatDoorG02
import Derived.Sort.Walk0
import Derived.Test.YtahpinmifmdpgaaGreatDoorG05
import Derived.Test.YtahpinmifmdpgaaGreatDoorG07
import Derived.Lib.ItoaLen
import Derived.Test.YtahpinmifmdpgaaGreatDoorG03
set_option linter.unusedVariables false
set_option linter.unusedSimpArgs false
set_option linter.unnecessarySimpa false
set_option linter.unusedSimpArgs false
set_option linter.unusedVariables false
namespace Go.Proofs
open Go Go.Id
def impB (a b : List UInt8) : Bool := validB a && validB b && (a == b || Lib.hasPrefix b (a ++ [46]))
def covB (s : List UInt8) (l : List (List UInt8)) : Bool := l.any fun t => impB t s
def withinB (a b : List (List UInt8)) : Bool := a.all fun s => covB s b
/-- The time that has gone, as the program reckons it. -/
def gone (r : Req) : Int := IntKind.wrap .u64 (IntKind.wrap .u64 r.now - IntKind.wrap .u64 r.auth)
def satB (p : Rule) (r : Req) : Bool := if decide (p.lvl > r.level) = true then false else (p.age == 0 || (decide (r.auth ≥ r.now) || decide (gone r ≤ IntKind.wrap .u64 p.age)))
def covsB (p : Rule) (s : List UInt8) : Bool := covB s p.scopes
end Go.Proofs

/-
  Plain lists of strings: sorted lists, each string once. Conditions: none.
-/
set_option linter.unusedSimpArgs false
set_option linter.unusedVariables false
namespace Go.Proofs
open Go Go.Id

theorem bl_irrefl : ∀ a : List UInt8, Op.bytesLess a a = false
  | [] => rfl
  | c :: a => by simp [Op.bytesLess, bl_irrefl a]
theorem bl_trans : ∀ a b c : List UInt8, Op.bytesLess a b = true → Op.bytesLess b c = true → Op.bytesLess a c = true
  | _, [], _, h, _ => by simp [Op.bytesLess] at h
  | _, _ :: _, [], _, h => by simp [Op.bytesLess] at h
  | [], _ :: _, _ :: _, _, _ => rfl
  | x :: a, y :: b, z :: c, h, k => by
    simp only [Op.bytesLess, Bool.or_eq_true, decide_eq_true_eq, Bool.and_eq_true, beq_iff_eq] at h k ⊢
    rcases h with h | ⟨rfl, h⟩
    · rcases k with k | ⟨rfl, k⟩
      · exact .inl (UInt8.lt_trans h k)
      · exact .inl h
    · rcases k with k | ⟨rfl, k⟩
      · exact .inl k
      · exact .inr ⟨rfl, bl_trans a b c h k⟩
theorem bl_tri : ∀ a b : List UInt8, Op.bytesLess a b = true ∨ a = b ∨ Op.bytesLess b a = true
  | [], [] => .inr (.inl rfl)
  | [], _ :: _ => .inl rfl
  | _ :: _, [] => .inr (.inr rfl)
  | x :: a, y :: b => by
    simp only [Op.bytesLess, Bool.or_eq_true, decide_eq_true_eq, Bool.and_eq_true, beq_iff_eq, List.cons.injEq]
    rcases Nat.lt_trichotomy x.toNat y.toNat with h | h | h
    · exact .inl (.inl (UInt8.lt_iff_toNat_lt.2 h))
    · obtain rfl : x = y := UInt8.toNat_inj.1 h
      rcases bl_tri a b with h | rfl | h
      · exact .inl (.inr ⟨rfl, h⟩)
      · exact .inr (.inl ⟨rfl, rfl⟩)
      · exact .inr (.inr (.inr ⟨rfl, h⟩))
    · exact .inr (.inr (.inl (UInt8.lt_iff_toNat_lt.2 h)))
theorem bl_asymm (a b : List UInt8) (h : Op.bytesLess a b = true) : Op.bytesLess b a = false := by
  cases hb : Op.bytesLess b a
  · rfl
  · have := bl_trans a b a h hb
    rw [bl_irrefl] at this; cases this
theorem bl_ne {a b : List UInt8} (h : Op.bytesLess a b = true) : a ≠ b := by
  rintro rfl; rw [bl_irrefl] at h; cases h
theorem bl_le (a b : List UInt8) : decide (a ≤ b) = !(Op.bytesLess b a) := by
  rw [bytesLess_eq, Bool.eq_iff_iff]
  simp [List.le]

/-- Ascending, each string once. -/
def Asc (l : List (List UInt8)) : Prop := l.Pairwise fun a b => Op.bytesLess a b = true
theorem Asc.nodup {l : List (List UInt8)} (h : Asc l) : l.Nodup := List.Pairwise.imp (fun h => bl_ne h) h
theorem Asc.head {a : List UInt8} {l : List (List UInt8)} (h : Asc (a :: l)) : ∀ x ∈ l, Op.bytesLess a x = true := (List.pairwise_cons.1 h).1
theorem Asc.tail {a : List UInt8} {l : List (List UInt8)} (h : Asc (a :: l)) : Asc l := (List.pairwise_cons.1 h).2
theorem asc_ext : ∀ {l k : List (List UInt8)}, Asc l → Asc k → (∀ x, x ∈ l ↔ x ∈ k) → l = k
  | [], [], _, _, _ => rfl
  | [], b :: k, _, _, h => by have := (h b).2 (by simp); simp at this
  | a :: l, [], _, _, h => by have := (h a).1 (by simp); simp at this
  | a :: l, b :: k, h1, h2, h => by
    have hab : a = b := by
      rcases List.mem_cons.1 ((h a).1 (by simp)) with e | e
      · exact e
      · rcases List.mem_cons.1 ((h b).2 (by simp)) with e' | e'
        · exact e'.symm
        · have q1 := h2.head a e
          have q2 := h1.head b e'
          rw [bl_asymm _ _ q1] at q2; cases q2
    subst hab
    rw [asc_ext h1.tail h2.tail fun x => ?_]
    constructor
    · intro hx
      rcases List.mem_cons.1 ((h x).1 (by simp [hx])) with e | e
      · subst e; have := h1.head x hx; rw [bl_irrefl] at this; cases this
      · exact e
    · intro hx
      rcases List.mem_cons.1 ((h x).2 (by simp [hx])) with e | e
      · subst e; have := h2.head x hx; rw [bl_irrefl] at this; cases this
      · exact e

def sortS (l : List (List UInt8)) : List (List UInt8) := l.mergeSort fun x y => decide (x ≤ y)
theorem sortS_len (l : List (List UInt8)) : (sortS l).length = l.length := List.length_mergeSort l
theorem sortS_mem (l : List (List UInt8)) (x : List UInt8) : x ∈ sortS l ↔ x ∈ l := List.mem_mergeSort
theorem sortS_perm (l : List (List UInt8)) : (sortS l).Perm l := List.mergeSort_perm l _
theorem sortS_asc {l : List (List UInt8)} (h : l.Nodup) : Asc (sortS l) := by
  have hs : (sortS l).Pairwise fun x y => decide (x ≤ y) = true := by
    refine List.pairwise_mergeSort (fun a b c h k => ?_) (fun a b => ?_) l
    · rw [bl_le, Bool.not_eq_true'] at h k ⊢
      cases hca : Op.bytesLess c a
      · rfl
      · rcases bl_tri b c with q | rfl | q
        · have := bl_trans b c a q hca; rw [h] at this; cases this
        · rw [h] at hca; cases hca
        · rw [k] at q; cases q
    · rw [bl_le, bl_le]
      cases hba : Op.bytesLess b a
      · rfl
      · rw [bl_asymm _ _ hba]; rfl
  have hn : (sortS l).Nodup := (sortS_perm l).nodup_iff.2 h
  refine List.Pairwise.imp₂ (fun a b h1 h2 => ?_) hs hn
  rw [bl_le, Bool.not_eq_true'] at h1
  rcases bl_tri a b with q | q | q
  · exact q
  · exact absurd q h2
  · rw [h1] at q; cases q
theorem sortS_ext {l k : List (List UInt8)} (hl : l.Nodup) (hk : Asc k) (h : ∀ x, x ∈ l ↔ x ∈ k) : sortS l = k := asc_ext (sortS_asc hl) hk fun x => by rw [sortS_mem, h]

/-- One step of the reference's insertion. -/
def insStep (s : List UInt8) (q : List (List UInt8) × Bool) (x : List UInt8) : List (List UInt8) × Bool :=
  (if (x == s) = true then (if (!q.2 && !(Op.bytesLess x s)) = true then q.1 ++ [s] else q.1) else (if (!q.2 && !(Op.bytesLess x s)) = true then q.1 ++ [s] else q.1) ++ [x], if (!q.2 && !(Op.bytesLess x s)) = true then true else q.2)
def insR (l : List (List UInt8)) (s : List UInt8) : List (List UInt8) :=
  if (l.foldl (insStep s) ([], false)).2 = true then (l.foldl (insStep s) ([], false)).1 else (l.foldl (insStep s) ([], false)).1 ++ [s]

theorem insStep_done (s : List UInt8) : ∀ (l o : List (List UInt8)), (l.foldl (insStep s) (o, true)) = (o ++ l.filter (fun x => !(x == s)), true)
  | [], o => by simp
  | x :: l, o => by
    rw [List.foldl_cons]
    by_cases h : x = s
    · have : insStep s (o, true) x = (o, true) := by simp [insStep, h]
      rw [this, insStep_done s l o]; simp [h]
    · have : insStep s (o, true) x = (o ++ [x], true) := by simp [insStep, h]
      rw [this, insStep_done s l _]; simp [h]
theorem insR_go (s : List UInt8) : ∀ (l o : List (List UInt8)), Asc l → (if (l.foldl (insStep s) (o, false)).2 = true then (l.foldl (insStep s) (o, false)).1 else (l.foldl (insStep s) (o, false)).1 ++ [s]) = o ++ (l.filter (fun x => Op.bytesLess x s) ++ [s] ++ l.filter (fun x => Op.bytesLess s x))
  | [], o, _ => by simp
  | x :: l, o, ha => by
    rw [List.foldl_cons]
    cases h : Op.bytesLess x s
    · have hs : ∀ y ∈ l, Op.bytesLess s y = true := fun y hy => by
        rcases bl_tri x s with q | rfl | q
        · rw [h] at q; cases q
        · exact ha.head y hy
        · exact bl_trans _ _ _ q (ha.head y hy)
      have h1 : l.filter (fun y => Op.bytesLess y s) = [] := List.filter_eq_nil_iff.2 fun y hy => by rw [bl_asymm _ _ (hs y hy)]; simp
      have h2 : l.filter (fun y => Op.bytesLess s y) = l := List.filter_eq_self.2 hs
      have h3 : l.filter (fun y => !(y == s)) = l := List.filter_eq_self.2 fun y hy => by simpa using (bl_ne (hs y hy)).symm
      by_cases hx : x = s
      · have : insStep s (o, false) x = (o ++ [s], true) := by simp [insStep, hx, bl_irrefl]
        rw [this, insStep_done, h3]
        subst hx
        simp [h, h1, h2]
      · have : insStep s (o, false) x = (o ++ [s] ++ [x], true) := by simp [insStep, hx, h]
        rw [this, insStep_done, h3]
        have hsx : Op.bytesLess s x = true := by
          rcases bl_tri x s with q | q | q
          · rw [h] at q; cases q
          · exact absurd q hx
          · exact q
        simp [h, h1, h2, hsx]
    · have hx : ¬ x = s := bl_ne h
      have : insStep s (o, false) x = (o ++ [x], false) := by simp [insStep, hx, h]
      rw [this, insR_go s l _ ha.tail]
      simp [h, bl_asymm _ _ h]
theorem insR_eq {l : List (List UInt8)} (s : List UInt8) (ha : Asc l) : insR l s = l.filter (fun x => Op.bytesLess x s) ++ [s] ++ l.filter (fun x => Op.bytesLess s x) := by
  have := insR_go s l [] ha
  simpa [insR] using this
theorem insR_mem {l : List (List UInt8)} {s : List UInt8} (ha : Asc l) (x : List UInt8) : x ∈ insR l s ↔ x = s ∨ x ∈ l := by
  rw [insR_eq s ha]
  simp only [List.append_assoc, List.mem_append, List.mem_filter, List.mem_singleton]
  constructor
  · rintro (h | h | h)
    · exact .inr h.1
    · exact .inl h
    · exact .inr h.1
  · rintro (h | h)
    · exact .inr (.inl h)
    · rcases bl_tri x s with q | q | q
      · exact .inl ⟨h, q⟩
      · exact .inr (.inl q)
      · exact .inr (.inr ⟨h, q⟩)
theorem insR_asc {l : List (List UInt8)} (s : List UInt8) (ha : Asc l) : Asc (insR l s) := by
  rw [insR_eq s ha]
  have f : ∀ p, Asc (l.filter p) := fun p => List.Pairwise.filter p ha
  refine List.pairwise_append.2 ⟨List.pairwise_append.2 ⟨f _, by simp, fun a h b hb => ?_⟩, f _, fun a h b hb => ?_⟩
  · simp only [List.mem_filter, List.mem_singleton] at h hb; subst hb; exact h.2
  · simp only [List.mem_append, List.mem_filter, List.mem_singleton] at h hb
    rcases h with h | rfl
    · exact bl_trans _ _ _ h.2 hb.2
    · exact hb.2
/-- Inserted one after the other, those that are wanted. -/
def inAll (p : List UInt8 → Bool) (o : List (List UInt8)) (l : List (List UInt8)) : List (List UInt8) := l.foldl (fun o s => if p s = true then insR o s else o) o
theorem inAll_spec (p : List UInt8 → Bool) : ∀ (l o : List (List UInt8)), Asc o → Asc (inAll p o l) ∧ ∀ x, x ∈ inAll p o l ↔ x ∈ o ∨ (x ∈ l ∧ p x = true)
  | [], o, ho => ⟨ho, by simp [inAll]⟩
  | s :: l, o, ho => by
    have e : inAll p o (s :: l) = inAll p (if p s = true then insR o s else o) l := rfl
    rw [e]
    cases hp : p s
    · obtain ⟨h1, h2⟩ := inAll_spec p l o ho
      simp only [Bool.false_eq_true, ↓reduceIte]
      refine ⟨h1, fun x => ?_⟩
      rw [h2, List.mem_cons]
      constructor
      · rintro (h | h)
        · exact .inl h
        · exact .inr ⟨.inr h.1, h.2⟩
      · rintro (h | ⟨rfl | h, h'⟩)
        · exact .inl h
        · rw [hp] at h'; cases h'
        · exact .inr ⟨h, h'⟩
    · obtain ⟨h1, h2⟩ := inAll_spec p l (insR o s) (insR_asc s ho)
      simp only [↓reduceIte]
      refine ⟨h1, fun x => ?_⟩
      rw [h2, insR_mem ho, List.mem_cons]
      constructor
      · rintro ((rfl | h) | h)
        · exact .inr ⟨.inl rfl, hp⟩
        · exact .inl h
        · exact .inr ⟨.inr h.1, h.2⟩
      · rintro (h | ⟨rfl | h, h'⟩)
        · exact .inl (.inr h)
        · exact .inl (.inl rfl)
        · exact .inr ⟨h, h'⟩
/-- The first of each kind, those that are wanted. -/
def firstAll (p : List UInt8 → Bool) : List (List UInt8) → List (List UInt8) → List (List UInt8)
  | _, [] => []
  | seen, s :: l => if (p s && !(seen.contains s)) = true then s :: firstAll p (seen ++ [s]) l else firstAll p (seen ++ [s]) l
theorem firstAll_mem (p : List UInt8 → Bool) : ∀ (l seen : List (List UInt8)) (x : List UInt8), x ∈ firstAll p seen l ↔ x ∈ l ∧ p x = true ∧ x ∉ seen
  | [], seen, x => by simp [firstAll]
  | s :: l, seen, x => by
    unfold firstAll
    split
    · rename_i h
      simp only [Bool.and_eq_true, Bool.not_eq_true', List.contains_eq_mem, decide_eq_false_iff_not] at h
      rw [List.mem_cons, firstAll_mem p l, List.mem_cons, List.mem_append, List.mem_singleton]
      constructor
      · rintro (rfl | ⟨h1, h2, h3⟩)
        · exact ⟨.inl rfl, h.1, h.2⟩
        · exact ⟨.inr h1, h2, fun h => h3 (.inl h)⟩
      · rintro ⟨h1, h2, h3⟩
        by_cases e : x = s
        · exact .inl e
        · rcases h1 with h1 | h1
          · exact .inl h1
          · exact .inr ⟨h1, h2, by rintro (q | q); exact h3 q; exact e q⟩
    · rename_i h
      simp only [Bool.and_eq_true, Bool.not_eq_true', List.contains_eq_mem, decide_eq_false_iff_not, not_and, Decidable.not_not] at h
      rw [firstAll_mem p l, List.mem_cons, List.mem_append, List.mem_singleton]
      constructor
      · rintro ⟨h1, h2, h3⟩
        exact ⟨.inr h1, h2, fun h => h3 (.inl h)⟩
      · rintro ⟨h1, h2, h3⟩
        have e : x ≠ s := by rintro rfl; exact h3 (h h2)
        rcases h1 with h1 | h1
        · exact absurd h1 e
        · exact ⟨h1, h2, by rintro (q | q); exact h3 q; exact e q⟩
theorem firstAll_nodup (p : List UInt8 → Bool) : ∀ (l seen : List (List UInt8)), (firstAll p seen l).Nodup
  | [], _ => by simp [firstAll]
  | s :: l, seen => by
    unfold firstAll
    split
    · refine List.nodup_cons.2 ⟨fun h => ?_, firstAll_nodup p l _⟩
      rw [firstAll_mem] at h
      exact h.2.2 (by simp)
    · exact firstAll_nodup p l _
/-- Sorted at the end, or kept sorted: the same. -/
theorem sort_inAll (p : List UInt8 → Bool) (l : List (List UInt8)) : sortS (firstAll p [] l) = inAll p [] l := by
  obtain ⟨h1, h2⟩ := inAll_spec p l [] List.Pairwise.nil
  refine sortS_ext (firstAll_nodup p l []) h1 fun x => ?_
  rw [firstAll_mem, h2]
  simp
end Go.Proofs

set_option linter.unusedSimpArgs false
set_option linter.unusedVariables false
set_option maxRecDepth 10000
namespace Go.Proofs
open Go Go.Id
set_option maxHeartbeats 4000000
theorem lib_hasPrefix (s t : List UInt8) : CallP Pr 97 [.str s, .str t] (.bool (Lib.hasPrefix s t)) :=
 .str2 (bodied_of Tryz.func97 (by kernel_rfl) (by kernel_rfl)) fun M w b c hb hc hI hn hM => by
  refine (Tryz.strings_HasPrefix b c w).mono ?_
  rintro e w' ⟨rfl, rfl⟩
  exact ⟨_, rfl, .refl _ _, by rw [hb, hc]; exact .bool _⟩

theorem c_implies (a b : List UInt8) (ha : a.length ≤ 1099511627776) (hb : b.length ≤ 1099511627776) : CallP Pr 63 [.str a, .str b] (.bool (impB a b)) := by
 refine CallP.of_wp Tryz.func63 rfl (by kernel_rfl) Tryz.ntmps63 (by simp) ?_
 simp only [frameOf, Nat.reduceAdd, Nat.zero_add]
 refine WP.sr [0, 1] (by kernel_rfl) fun K hK => ?_
 simp (decide := true) only [TF, ↓reduceIte, Int.reduceToNat]
 refine hK _ _ ?_; clear hK K
 refine WP.sr [4] (by kernel_rfl) fun K hK => ?_
 simp (decide := true) only [TF, ↓reduceIte, Int.reduceToNat]
 refine CallK.pure (c_valid _ (by omega)) rfl rfl (by simp [-List.map_take]) ?_
 refine runOps.take 1 fun J hJ => ?_
 simp (decide := true) only [TF, ↓reduceIte, Int.reduceToNat]
 refine hJ _ _ ?_; clear hJ J
 refine runOps.part 7 rfl (fun q1 => ?_) (fun q1 => ?_)
 ·
  simp (decide := true) only [TF, q1, ↓reduceIte, Int.reduceToNat]
  refine CallK.pure (c_valid _ (by omega)) rfl rfl (by simp [-List.map_take]) ?_
  refine runOps.take 2 fun J hJ => ?_
  simp (decide := true) only [TF, q1, ↓reduceIte, Int.reduceToNat]
  refine hJ _ _ ?_; clear hJ J
  refine runOps.part 11 rfl (fun q2 => ?_) (fun q2 => ?_)
  ·
   refine runOps.take 4 fun J hJ => ?_
   simp (decide := true) only [TF, q1, q2, ↓reduceIte, Int.reduceToNat]
   refine hJ _ _ ?_; clear hJ J
   refine runOps.part 15 rfl (fun q3 => ?_) (fun q3 => ?_)
   ·
    simp (decide := true) only [TF, q1, q2, q3, ↓reduceIte, Int.reduceToNat]
    first | refine ⟨by (try simp only [List.length_append, List.length_cons, List.length_nil]); omega, ?_⟩ | skip
    refine hK _ _ ?_; clear hK K
    refine WP.ret ?_
    exact Ends.pure (.inr rfl) rfl (Le.of_eq (by simp (decide := true) only [St.get, lk, W, impB, q1, q2, q3, ↓reduceIte])) (by simp)
   ·
    simp (decide := true) only [TF, q1, q2, q3, ↓reduceIte, Int.reduceToNat]
    first | refine ⟨by (try simp only [List.length_append, List.length_cons, List.length_nil]); omega, ?_⟩ | skip
    refine CallK.pure (lib_hasPrefix _ _) rfl rfl (by simp [-List.map_take]) ?_
    simp (decide := true) only [TF, q1, q2, q3, ↓reduceIte, Int.reduceToNat]
    refine hK _ _ ?_; clear hK K
    refine WP.ret ?_
    exact Ends.pure (.inr rfl) rfl (Le.of_eq (by simp (decide := true) only [St.get, lk, W, impB, q1, q2, q3, ↓reduceIte])) (by simp)
  ·
   simp (decide := true) only [TF, q1, q2, ↓reduceIte, Int.reduceToNat]
   refine hK _ _ ?_; clear hK K
   refine WP.ret ?_
   exact Ends.pure (.inr rfl) rfl (Le.of_eq (by simp (decide := true) only [St.get, lk, W, impB, q1, q2, ↓reduceIte])) (by simp)
 ·
  simp (decide := true) only [TF, q1, ↓reduceIte, Int.reduceToNat]
  refine hK _ _ ?_; clear hK K
  refine WP.ret ?_
  exact Ends.pure (.inr rfl) rfl (Le.of_eq (by simp (decide := true) only [St.get, lk, W, impB, q1, ↓reduceIte])) (by simp)
theorem c_covered (s : List UInt8) (ls : List (List UInt8)) (nl : Bool) (hs : s.length ≤ 1099511627776) (hn : ls.length ≤ 1099511627776) (hnl : nl = true → ls = []) (hls : ∀ x ∈ ls, x.length ≤ 1099511627776) : CallP Pr 77 [.str s, .slice 1 nl (ls.map fun x => [.str x]) none] (.bool (covB s ls)) := by
 refine CallP.of_wp Tryz.func77 rfl (by kernel_rfl) Tryz.ntmps77 (by simp) ?_
 simp only [frameOf, Nat.reduceAdd, Nat.zero_add]
 refine WP.sr [0, 1] (by kernel_rfl) fun K hK => ?_
 simp (decide := true) only [TF, ↓reduceIte, Int.reduceToNat]
 refine hK _ _ ?_; clear hK K
 refine WP.seq ?_
 refine WP.sr [0, 7, 8, 9] (by kernel_rfl) fun K hK => ?_
 simp (decide := true) only [TF, ↓reduceIte, Int.reduceToNat]
 refine hK _ _ ?_; clear hK K
 refine WP.block ?_
 refine WP.lp [0, 7, 8] (X := {k : Nat // k ≤ ls.length ∧ covB s ls = (ls.drop k).any (fun t => impB t s)}) (fun x => match x with | ⟨(k), _⟩ => [(9, .int .i64 k)]) (fun x => match x with | ⟨(k), _⟩ => []) (fun x => match x with | ⟨(k), _⟩ => ls.length - k) (by simp (decide := true) only [W, ↓reduceIte, Int.reduceToNat]; rfl) ?_ ⟨(0), ⟨Nat.zero_le _, by simp [covB]⟩⟩ ?_
 rotate_left
 · exact Weak.store (by simp [St.get, lk, W, Le.refl, W]) (by simp [lk, W, W]) (by simp [lk, W]) (by simp [BClo, lk]) (by simp [lk])
 rintro ⟨k, hk, hI⟩
 dsimp only
 simp only [List.cons_append, List.nil_append]
 refine WP.sr [0, 7, 8, 9, 10] (by kernel_rfl) fun K hK => ?_
 simp (decide := true) only [TF, hk, ↓reduceIte, Int.reduceToNat]
 refine hK _ _ ?_; clear hK K
 refine WP.seq ?_
 refine WP.cond (b := _) rfl (fun q1 => ?_) (fun q1 => ?_)
 ·
  have hlt := lt_of_q q1
  have hg : (ls.map (fun x => [D.str x]))[k]? = some [.str ls[k]] := getM hlt
  have hnf := nl_false hnl hlt
  rw [dropE hlt] at hI
  simp only [List.any_cons] at hI
  refine WP.skip ?_
  show WP _ _ _ _ _ _
  refine WP.seq ?_
  refine WP.block ?_
  refine WP.sr [0, 6, 7, 8, 9] (by kernel_rfl) fun K hK => ?_
  simp (decide := true) only [TF, hk, q1, hg, hnf, ↓reduceIte, Int.reduceToNat]
  refine hK _ _ ?_; clear hK K
  refine WP.sr [0, 7, 8, 9, 15] (by kernel_rfl) fun K hK => ?_
  simp (decide := true) only [TF, hk, q1, hg, hnf, ↓reduceIte, Int.reduceToNat]
  refine CallK.pure (c_implies ls[k] s (hls _ (List.getElem_mem hlt)) hs) rfl rfl (by simp [-List.map_take]) ?_
  simp (decide := true) only [TF, hk, q1, hg, hnf, ↓reduceIte, Int.reduceToNat]
  refine hK _ _ ?_; clear hK K
  refine WP.cond (b := _) rfl (fun q2 => ?_) (fun q2 => ?_)
  ·
   refine WP.sr [4] (by kernel_rfl) fun K hK => ?_
   simp (decide := true) only [TF, hk, q1, hg, hnf, q2, ↓reduceIte, Int.reduceToNat]
   refine hK _ _ ?_; clear hK K
   refine WP.ret ?_
   exact Ends.pure (.inr rfl) rfl (Le.of_eq (by simp (decide := true) only [St.get, lk, W, hk, q1, hg, hnf, q2, hI, ↓reduceIte])) (by simp)
  ·
   refine WP.skip ?_
   show WP _ _ _ _ _ _
   refine WP.region (by kernel_rfl) fun K hK => ?_
   simp (decide := true) only [TF, hk, q1, hg, hnf, q2, ↓reduceIte, Int.reduceToNat]
   refine hK _ _ ?_; clear hK K
   show ∃ y, _ ∧ Weak _ _ _
   refine ⟨⟨k + 1, ?_⟩, ?_, ?_⟩
   · exact ⟨by omega, by first | (simpa [hk, q1, hg, hnf, q2] using hI) | (simp_all; done)⟩
   · dsimp only; omega
   · exact Weak.store (by simp [St.get, lk, W, Le.refl, hk, q1, hg, hnf, q2, wrapS hlt (show ls.length ≤ 140737488355328 by omega)]) (by simp [lk, W, hk, q1, hg, hnf, q2, wrapS hlt (show ls.length ≤ 140737488355328 by omega)]) (by simp [lk, W]) (by simp [BClo, lk]) (by simp [lk])
 ·
  have hge := ge_of_q q1
  rw [dropN hge] at hI
  simp only [List.any_nil] at hI
  refine WP.exit ?_
  show WP _ _ _ _ _ _
  refine WP.sr [4] (by kernel_rfl) fun K hK => ?_
  simp (decide := true) only [TF, hk, q1, ↓reduceIte, Int.reduceToNat]
  refine hK _ _ ?_; clear hK K
  refine WP.ret ?_
  exact Ends.pure (.inr rfl) rfl (Le.of_eq (by simp (decide := true) only [St.get, lk, W, hk, q1, hI, ↓reduceIte])) (by simp)
theorem c_satisfied (p : Rule) (r : Req) : CallP Pr 94 [.agg [.str p.name, .bool p.deny, .slice 3 p.nc (p.conds.map Cond.cs) none, .slice 1 p.ns (p.scopes.map fun x => [.str x]) none, .int .i64 p.lvl, .int .i64 p.age], .agg [.str r.user, .str r.client, .str r.tenant, .slice 1 r.ng (r.groups.map fun x => [.str x]) none, .slice 1 r.ns (r.scopes.map fun x => [.str x]) none, .int .i64 r.risk, .bool r.trusted, .int .i64 r.level, .int .i64 r.auth, .int .i64 r.now]] (.bool (satB p r)) := by
 refine CallP.of_wp Tryz.func94 rfl (by kernel_rfl) Tryz.ntmps94 (by simp) ?_
 simp only [frameOf, Nat.reduceAdd, Nat.zero_add]
 refine WP.sr [2, 3] (by kernel_rfl) fun K hK => ?_
 simp (decide := true) only [TF, ↓reduceIte, Int.reduceToNat]
 refine hK _ _ ?_; clear hK K
 refine WP.seq ?_
 refine WP.sr [2, 3, 9] (by kernel_rfl) fun K hK => ?_
 simp (decide := true) only [TF, ↓reduceIte, Int.reduceToNat]
 refine hK _ _ ?_; clear hK K
 refine WP.cond (b := _) rfl (fun q1 => ?_) (fun q1 => ?_)
 ·
  refine WP.sr [4] (by kernel_rfl) fun K hK => ?_
  simp (decide := true) only [TF, q1, ↓reduceIte, Int.reduceToNat]
  refine hK _ _ ?_; clear hK K
  refine WP.ret ?_
  exact Ends.pure (.inr rfl) rfl (Le.of_eq (by simp (decide := true) only [St.get, lk, W, satB, q1, gone, Bool.false_or, Bool.true_and, Bool.not_false, ↓reduceIte])) (by simp)
 ·
  refine WP.skip ?_
  show WP _ _ _ _ _ _
  refine WP.sr [4] (by kernel_rfl) fun K hK => ?_
  refine runOps.take 4 fun J hJ => ?_
  simp (decide := true) only [TF, q1, ↓reduceIte, Int.reduceToNat]
  refine hJ _ _ ?_; clear hJ J
  refine runOps.part 13 rfl (fun q2 => ?_) (fun q2 => ?_)
  ·
   simp (decide := true) only [TF, q1, q2, ↓reduceIte, Int.reduceToNat]
   refine hK _ _ ?_; clear hK K
   refine WP.ret ?_
   exact Ends.pure (.inr rfl) rfl (Le.of_eq (by simp (decide := true) only [St.get, lk, W, satB, q1, q2, gone, Bool.false_or, Bool.true_and, Bool.not_false, ↓reduceIte])) (by simp)
  ·
   refine runOps.take 7 fun J hJ => ?_
   simp (decide := true) only [TF, q1, q2, ↓reduceIte, Int.reduceToNat]
   refine hJ _ _ ?_; clear hJ J
   refine runOps.part 20 rfl (fun q3 => ?_) (fun q3 => ?_)
   ·
    simp (decide := true) only [TF, q1, q2, q3, ↓reduceIte, Int.reduceToNat]
    refine hK _ _ ?_; clear hK K
    refine WP.ret ?_
    exact Ends.pure (.inr rfl) rfl (Le.of_eq (by simp (decide := true) only [St.get, lk, W, satB, q1, q2, q3, gone, Bool.false_or, Bool.true_and, Bool.not_false, ↓reduceIte])) (by simp)
   ·
    simp (decide := true) only [TF, q1, q2, q3, ↓reduceIte, Int.reduceToNat]
    refine hK _ _ ?_; clear hK K
    refine WP.ret ?_
    exact Ends.pure (.inr rfl) rfl (Le.of_eq (by simp (decide := true) only [St.get, lk, W, satB, q1, q2, q3, gone, Bool.false_or, Bool.true_and, Bool.not_false, ↓reduceIte]; rfl)) (by simp)
theorem c_has (ls : List (List UInt8)) (nl : Bool) (s : List UInt8) (hn : ls.length ≤ 1099511627776) (hnl : nl = true → ls = []) : CallP Pr 24 [.slice 1 nl (ls.map fun x => [.str x]) none, .str s] (.bool (ls.contains s)) := by
 refine CallP.of_wp Tryz.func24 rfl (by kernel_rfl) Tryz.ntmps24 (by simp) ?_
 simp only [frameOf, Nat.reduceAdd, Nat.zero_add]
 refine WP.sr [0, 1] (by kernel_rfl) fun K hK => ?_
 simp (decide := true) only [TF, ↓reduceIte, Int.reduceToNat]
 refine hK _ _ ?_; clear hK K
 refine WP.seq ?_
 refine WP.sr [0, 1, 7, 8] (by kernel_rfl) fun K hK => ?_
 simp (decide := true) only [TF, ↓reduceIte, Int.reduceToNat]
 refine hK _ _ ?_; clear hK K
 refine WP.block ?_
 refine WP.lp [0, 1, 7] (X := {k : Nat // k ≤ ls.length ∧ ls.contains s = (ls.drop k).any (fun x => x == s)}) (fun x => match x with | ⟨(k), _⟩ => [(8, .int .i64 k)]) (fun x => match x with | ⟨(k), _⟩ => []) (fun x => match x with | ⟨(k), _⟩ => ls.length - k) (by simp (decide := true) only [W, ↓reduceIte, Int.reduceToNat]; rfl) ?_ ⟨(0), ⟨Nat.zero_le _, by rw [List.drop_zero, any_eq]⟩⟩ ?_
 rotate_left
 · exact Weak.store (by simp [St.get, lk, W, Le.refl, W]) (by simp [lk, W, W]) (by simp [lk, W]) (by simp [BClo, lk]) (by simp [lk])
 rintro ⟨k, hk, hI⟩
 dsimp only
 simp only [List.cons_append, List.nil_append]
 refine WP.sr [0, 1, 7, 8, 9] (by kernel_rfl) fun K hK => ?_
 simp (decide := true) only [TF, hk, ↓reduceIte, Int.reduceToNat]
 refine hK _ _ ?_; clear hK K
 refine WP.seq ?_
 refine WP.cond (b := _) rfl (fun q1 => ?_) (fun q1 => ?_)
 ·
  have hlt := lt_of_q q1
  have hg : (ls.map (fun x => [D.str x]))[k]? = some [.str ls[k]] := getM hlt
  have hnf := nl_false hnl hlt
  rw [dropE hlt] at hI
  simp only [List.any_cons] at hI
  refine WP.skip ?_
  show WP _ _ _ _ _ _
  refine WP.seq ?_
  refine WP.block ?_
  refine WP.sr [0, 1, 5, 7, 8] (by kernel_rfl) fun K hK => ?_
  simp (decide := true) only [TF, hk, q1, hg, hnf, ↓reduceIte, Int.reduceToNat]
  refine hK _ _ ?_; clear hK K
  refine WP.sr [0, 1, 7, 8, 16] (by kernel_rfl) fun K hK => ?_
  simp (decide := true) only [TF, hk, q1, hg, hnf, ↓reduceIte, Int.reduceToNat]
  refine hK _ _ ?_; clear hK K
  refine WP.cond (b := _) rfl (fun q2 => ?_) (fun q2 => ?_)
  ·
   refine WP.sr [4] (by kernel_rfl) fun K hK => ?_
   simp (decide := true) only [TF, hk, q1, hg, hnf, q2, ↓reduceIte, Int.reduceToNat]
   refine hK _ _ ?_; clear hK K
   refine WP.ret ?_
   exact Ends.pure (.inr rfl) rfl (Le.of_eq (by simp (decide := true) only [St.get, lk, W, hk, q1, hg, hnf, q2, hI, ↓reduceIte])) (by simp)
  ·
   refine WP.skip ?_
   show WP _ _ _ _ _ _
   refine WP.region (by kernel_rfl) fun K hK => ?_
   simp (decide := true) only [TF, hk, q1, hg, hnf, q2, ↓reduceIte, Int.reduceToNat]
   refine hK _ _ ?_; clear hK K
   show ∃ y, _ ∧ Weak _ _ _
   refine ⟨⟨k + 1, ?_⟩, ?_, ?_⟩
   · exact ⟨by omega, by first | (simpa [hk, q1, hg, hnf, q2] using hI) | (simp_all; done)⟩
   · dsimp only; omega
   · exact Weak.store (by simp [St.get, lk, W, Le.refl, hk, q1, hg, hnf, q2, wrapS hlt (show ls.length ≤ 140737488355328 by omega)]) (by simp [lk, W, hk, q1, hg, hnf, q2, wrapS hlt (show ls.length ≤ 140737488355328 by omega)]) (by simp [lk, W]) (by simp [BClo, lk]) (by simp [lk])
 ·
  have hge := ge_of_q q1
  rw [dropN hge] at hI
  simp only [List.any_nil] at hI
  refine WP.exit ?_
  show WP _ _ _ _ _ _
  refine WP.sr [4] (by kernel_rfl) fun K hK => ?_
  simp (decide := true) only [TF, hk, q1, ↓reduceIte, Int.reduceToNat]
  refine hK _ _ ?_; clear hK K
  refine WP.ret ?_
  exact Ends.pure (.inr rfl) rfl (Le.of_eq (by simp (decide := true) only [St.get, lk, W, hk, q1, hI, ↓reduceIte])) (by simp)
theorem c_covers1 (x s : List UInt8) (hx : x.length ≤ 1099511627776) (hs : s.length ≤ 1099511627776) : CallE Pr 62 [.str x, .ref 1 0] [(1, .box 9 [.str s])] (.bool (impB x s)) [(1, .box 9 [.str s])] := by
 refine CallE.of_wp Tryz.func62 rfl (by kernel_rfl) Tryz.ntmps62 (by simp) ?_
 simp only [frameOf, Nat.reduceAdd, Nat.zero_add, List.map_cons, List.map_nil]
 refine WP.sr [0, 1] (by kernel_rfl) fun K hK => ?_
 simp (decide := true) only [TF, ↓reduceIte, Int.reduceToNat]
 refine hK _ _ ?_; clear hK K
 refine WP.sr [3] (by kernel_rfl) fun K hK => ?_
 simp (decide := true) only [TF, ↓reduceIte, Int.reduceToNat]
 refine CallK.pure (c_implies x s hx hs) rfl rfl (by simp [-List.map_take]) ?_
 simp (decide := true) only [TF, ↓reduceIte, Int.reduceToNat]
 refine hK _ _ ?_; clear hK K
 refine WP.ret ?_
 refine Ends.imp (.inr rfl) rfl (Le.of_eq (by simp (decide := true) only [St.get, lk, W, ↓reduceIte])) ?_ ?_ ?_
 · simp
 · simp [St.get, lk, W, BClo, W]
 · simp [lk]
theorem c_indexfunc_cov (ls : List (List UInt8)) (nl : Bool) (s : List UInt8) (hs : s.length ≤ 1099511627776) (hn : ls.length ≤ 1099511627776) (hnl : nl = true → ls = []) (hls : ∀ x ∈ ls, x.length ≤ 1099511627776) : CallE Pr 61 [.slice 1 nl (ls.map fun x => [.str x]) none, .fn (.func 62) [] [.ref 1 0]] [(1, .box 9 [.str s])] (.int .i64 (ixP (fun t => impB t s) ls 0)) [(1, .box 9 [.str s])] := by
 refine CallE.of_wp Tryz.func61 rfl (by kernel_rfl) Tryz.ntmps61 (by simp) ?_
 simp only [frameOf, Nat.reduceAdd, Nat.zero_add, List.map_cons, List.map_nil]
 refine WP.sr [0, 1] (by kernel_rfl) fun K hK => ?_
 simp (decide := true) only [TF, ↓reduceIte, Int.reduceToNat]
 refine hK _ _ ?_; clear hK K
 refine WP.seq ?_
 refine WP.sr [0, 1, 7, 8] (by kernel_rfl) fun K hK => ?_
 simp (decide := true) only [TF, ↓reduceIte, Int.reduceToNat]
 refine hK _ _ ?_; clear hK K
 refine WP.block ?_
 refine WP.lp [0, 1, 7] (X := {k : Nat // k ≤ ls.length ∧ ixP (fun t => impB t s) ls 0 = ixP (fun t => impB t s) (ls.drop k) k}) (fun x => match x with | ⟨(k), _⟩ => [(8, .int .i64 k)]) (fun x => match x with | ⟨(k), _⟩ => [(1, .box 9 [.str s])]) (fun x => match x with | ⟨(k), _⟩ => ls.length - k) (by simp (decide := true) only [W, ↓reduceIte, Int.reduceToNat]; rfl) ?_ ⟨(0), ⟨Nat.zero_le _, by simp⟩⟩ ?_
 rotate_left
 · exact Weak.store (by simp [St.get, lk, W, Le.refl, W]) (by simp [lk, W, W]) (by simp [lk, W]) (by simp [BClo, lk]) (by simp [lk])
 rintro ⟨k, hk, hI⟩
 dsimp only
 simp only [List.cons_append, List.nil_append]
 refine WP.sr [0, 1, 7, 8, 9] (by kernel_rfl) fun K hK => ?_
 simp (decide := true) only [TF, hk, ↓reduceIte, Int.reduceToNat]
 refine hK _ _ ?_; clear hK K
 refine WP.seq ?_
 refine WP.cond (b := _) rfl (fun q1 => ?_) (fun q1 => ?_)
 ·
  have hlt := lt_of_q q1
  have hg : (ls.map (fun x => [D.str x]))[k]? = some [.str ls[k]] := getM hlt
  have hnf := nl_false hnl hlt
  rw [dropE hlt] at hI
  simp only [ixP] at hI
  refine WP.skip ?_
  show WP _ _ _ _ _ _
  refine WP.seq ?_
  refine WP.block ?_
  refine WP.sr [0, 1, 5, 7, 8] (by kernel_rfl) fun K hK => ?_
  simp (decide := true) only [TF, hk, q1, hg, hnf, ↓reduceIte, Int.reduceToNat]
  refine hK _ _ ?_; clear hK K
  refine WP.sr [0, 1, 5, 7, 8, 16] (by kernel_rfl) fun K hK => ?_
  simp (decide := true) only [TF, hk, q1, hg, hnf, ↓reduceIte, Int.reduceToNat]
  refine CallK.imp (c_covers1 ls[k] s (hls _ (List.getElem_mem hlt)) hs) rfl rfl (by simp [lk, BClo]) (by simp [lk]) (by simp [lk]) ?_
  simp (decide := true) only [TF, hk, q1, hg, hnf, ↓reduceIte, Int.reduceToNat]
  refine hK _ _ ?_; clear hK K
  refine WP.cond (b := _) rfl (fun q2 => ?_) (fun q2 => ?_)
  ·
   refine WP.sr [4] (by kernel_rfl) fun K hK => ?_
   simp (decide := true) only [TF, hk, q1, hg, hnf, q2, ↓reduceIte, Int.reduceToNat]
   refine hK _ _ ?_; clear hK K
   refine WP.ret ?_
   refine Ends.imp (.inr rfl) rfl (Le.of_eq (by simp (decide := true) only [St.get, lk, W, hk, q1, hg, hnf, q2, hI, ↓reduceIte])) ?_ ?_ ?_
   · simp
   · simp [St.get, lk, W, BClo, hk, q1, hg, hnf, q2]
   · simp [lk]
  ·
   refine WP.skip ?_
   show WP _ _ _ _ _ _
   refine WP.region (by kernel_rfl) fun K hK => ?_
   simp (decide := true) only [TF, hk, q1, hg, hnf, q2, ↓reduceIte, Int.reduceToNat]
   refine hK _ _ ?_; clear hK K
   show ∃ y, _ ∧ Weak _ _ _
   refine ⟨⟨k + 1, ?_⟩, ?_, ?_⟩
   · exact ⟨by omega, by first | (simpa [hk, q1, hg, hnf, q2] using hI) | (simp_all; done)⟩
   · dsimp only; omega
   · exact Weak.store (by simp [St.get, lk, W, Le.refl, hk, q1, hg, hnf, q2, wrapS hlt (show ls.length ≤ 140737488355328 by omega)]) (by simp [lk, W, hk, q1, hg, hnf, q2, wrapS hlt (show ls.length ≤ 140737488355328 by omega)]) (by simp [lk, W]) (by simp [BClo, lk]) (by simp [lk])
 ·
  have hge := ge_of_q q1
  rw [dropN hge] at hI
  simp only [ixP] at hI
  refine WP.exit ?_
  show WP _ _ _ _ _ _
  refine WP.sr [4] (by kernel_rfl) fun K hK => ?_
  simp (decide := true) only [TF, hk, q1, ↓reduceIte, Int.reduceToNat]
  refine hK _ _ ?_; clear hK K
  refine WP.ret ?_
  refine Ends.imp (.inr rfl) rfl (Le.of_eq (by simp (decide := true) only [St.get, lk, W, hk, q1, hI, ↓reduceIte])) ?_ ?_ ?_
  · simp
  · simp [St.get, lk, W, BClo, hk, q1]
  · simp [lk]
theorem c_contfunc_cov (ls : List (List UInt8)) (nl : Bool) (s : List UInt8) (hs : s.length ≤ 1099511627776) (hn : ls.length ≤ 1099511627776) (hnl : nl = true → ls = []) (hls : ∀ x ∈ ls, x.length ≤ 1099511627776) : CallE Pr 31 [.slice 1 nl (ls.map fun x => [.str x]) none, .fn (.func 62) [] [.ref 1 0]] [(1, .box 9 [.str s])] (.bool (covB s ls)) [(1, .box 9 [.str s])] := by
 refine CallE.of_wp Tryz.func31 rfl (by kernel_rfl) Tryz.ntmps31 (by simp) ?_
 simp only [frameOf, Nat.reduceAdd, Nat.zero_add, List.map_cons, List.map_nil]
 refine WP.sr [0, 1] (by kernel_rfl) fun K hK => ?_
 simp (decide := true) only [TF, ↓reduceIte, Int.reduceToNat]
 refine hK _ _ ?_; clear hK K
 refine WP.sr [4] (by kernel_rfl) fun K hK => ?_
 simp (decide := true) only [TF, ↓reduceIte, Int.reduceToNat]
 refine CallK.imp (c_indexfunc_cov ls nl s hs hn hnl hls) rfl rfl (by simp [lk, BClo]) (by simp [lk]) (by simp [lk]) ?_
 simp (decide := true) only [TF, ↓reduceIte, Int.reduceToNat]
 refine hK _ _ ?_; clear hK K
 refine WP.ret ?_
 refine Ends.imp (.inr rfl) rfl (Le.of_eq (by simp (decide := true) only [St.get, lk, W, ixP_any0, covB, ↓reduceIte])) ?_ ?_ ?_
 · simp
 · simp [St.get, lk, W, BClo, W]
 · simp [lk]
theorem c_covers (p : Rule) (s : List UInt8) (hp : p.ok) (hs : s.length ≤ 1099511627776) : CallP Pr 33 [.agg [.str p.name, .bool p.deny, .slice 3 p.nc (p.conds.map Cond.cs) none, .slice 1 p.ns (p.scopes.map fun x => [.str x]) none, .int .i64 p.lvl, .int .i64 p.age], .str s] (.bool (covsB p s)) := by
 refine CallP.of_wp Tryz.func33 rfl (by kernel_rfl) Tryz.ntmps33 (by simp) ?_
 simp only [frameOf, Nat.reduceAdd, Nat.zero_add]
 refine WP.sr [2, 3] (by kernel_rfl) fun K hK => ?_
 simp (decide := true) only [TF, ↓reduceIte, Int.reduceToNat]
 refine hK _ _ ?_; clear hK K
 refine WP.sr [4] (by kernel_rfl) fun K hK => ?_
 simp (decide := true) only [TF, ↓reduceIte, Int.reduceToNat]
 refine CallK.imp (c_contfunc_cov p.scopes p.ns s hs hp.1.2.2.1 hp.1.2.2.2 hp.2.2.2) rfl rfl (by simp [lk, BClo]) (by simp [lk]) (by simp [lk]) ?_
 simp (decide := true) only [TF, ↓reduceIte, Int.reduceToNat]
 refine hK _ _ ?_; clear hK K
 refine WP.ret ?_
 exact Ends.pure (.inr rfl) rfl (Le.of_eq (by simp (decide := true) only [St.get, lk, W, covsB, ↓reduceIte])) (by simp)
end Go.Proofs

set_option linter.unusedSimpArgs false
set_option linter.unusedVariables false
namespace Go.Proofs
open Go Go.Id
end Go.Proofs

set_option linter.unusedSimpArgs false
set_option linter.unusedVariables false
set_option maxRecDepth 10000
namespace Go.Proofs
open Go Go.Id
set_option maxHeartbeats 4000000
end Go.Proofs

set_option linter.unusedSimpArgs false
set_option linter.unusedVariables false
namespace Go.Proofs
open Go Go.Id
theorem isEA {α : Type} (a : List α) (x : α) : (a ++ [x]).isEmpty = false := by cases a <;> rfl
theorem clo_ap {S : Nat → Prop} (a b : List (List D)) : (∀ e ∈ a ++ b, ∀ d ∈ e, Clo S d) ↔ ((∀ e ∈ a, ∀ d ∈ e, Clo S d) ∧ ∀ e ∈ b, ∀ d ∈ e, Clo S d) := List.forall_mem_append
theorem clo_sl {S : Nat → Prop} (l : List (List UInt8)) : (∀ e ∈ l.map (fun x => [D.str x]), ∀ d ∈ e, Clo S d) ↔ True := by
  simp only [iff_true, List.mem_map]
  rintro e ⟨x, _, rfl⟩ d hd
  simp only [List.mem_singleton] at hd; subst hd; exact .str _
theorem clo_s1 {S : Nat → Prop} (x : List UInt8) : (∀ e ∈ [[D.str x]], ∀ d ∈ e, Clo S d) ↔ True := by
  simp only [iff_true, List.mem_singleton]
  rintro e rfl d hd
  simp only [List.mem_singleton] at hd; subst hd; exact .str _
def leastR (l : List (List UInt8)) (s : List UInt8) : Bool := validB s && l.all fun t => t == s || !(impB t s)
def srtStep (l : List (List UInt8)) (o : List (List UInt8)) (s : List UInt8) : List (List UInt8) := if leastR l s = true then insR o s else o
def srtR (l : List (List UInt8)) : List (List UInt8) := l.foldl (srtStep l) []
theorem insStep_len (s : List UInt8) : ∀ (l : List (List UInt8)) (q : List (List UInt8) × Bool), (l.foldl (insStep s) q).1.length + (if (l.foldl (insStep s) q).2 = true then 0 else 1) ≤ q.1.length + l.length + (if q.2 = true then 0 else 1)
  | [], q => by simp only [List.foldl_nil, List.length_nil, Nat.add_zero]; exact Nat.le_refl _
  | x :: l, q => by
    have ih := insStep_len s l (insStep s q x)
    rw [List.foldl_cons]
    refine Nat.le_trans ih ?_
    unfold insStep
    cases q.2 <;> cases (Op.bytesLess x s) <;> cases (x == s) <;> simp <;> omega
theorem insR_len (l : List (List UInt8)) (s : List UInt8) : (insR l s).length ≤ l.length + 1 := by
  have := insStep_len s l ([], false)
  unfold insR
  split <;> rename_i h <;> simp [h] at this ⊢ <;> omega
end Go.Proofs

/-
  The library's sort of strings, on data: the row holds them sorted. Condition: at most 2^40 of them.
-/
set_option linter.unusedSimpArgs false
set_option linter.unusedVariables false
namespace Go.Proofs
open Go Go.Id Go.Shelf Go.Sort
theorem c_ssort (l : List (List UInt8)) (hn : l.length ≤ 1099511627776) : CallE Pr 47 [.arr 0 1 l.length] [(0, .arr 9 (l.map .str))] (.tup []) [(0, .arr 9 ((sortS l).map .str))] := by
  refine CallE.rows (by simp [sortS_len]) (bodied_of Tryz.func47 (by kernel_rfl) (by kernel_rfl)) fun M γ w vs B cap z us hst hl hr hγ hB hsz hle h1 hrr => ?_
  match vs, hl with
  | [v0], _ =>
    have q0 := hr 0 _ _ rfl rfl
    generalize hv0 : v0 = v0' at q0
    cases q0 with
    | @arr _ B' _ n cap' hγ' hn' =>
      rw [hγ] at hγ'
      cases hγ'
      subst hv0
      rw [List.length_map] at hle h1
      have hget : ∀ (L : List (List UInt8)) (t : Nat) (ht : t < L.length), L.toArray[t]! = L[t] := fun L t ht => by
        rw [getElem!_pos L.toArray t (by simpa using ht)]; simp
      have hH : Holds encStr w B 0 l.toArray := by
        intro t ht
        have ht' : t < l.length := by simpa using ht
        have hlt : t < us.size := by omega
        have hu := Array.getElem?_eq_getElem hlt
        have h3 := hrr t (.str l[t]) _ (by simp [ht']) hu
        have h4 : us[t] = encStr l[t] := by
          generalize us[t] = u at h3
          obtain ⟨s, hs, e⟩ := str_inj h3
          rw [hs, encStr, ← e]
        refine ⟨?_, ?_⟩
        · rw [cell_of_row w B (0 + t) us 9 _ hB, Nat.zero_add, hu, h4, hget l t ht']
        · rw [Nat.zero_add]; exact (h1 t _ ht' hu).2
      have hblk : B < w.heap.size := (Array.getElem?_eq_some_iff.1 hB).1
      have hcon := Tryz.slices_Sort_string B 0 cap l w hH hblk (by omega)
      refine hcon.mono ?_
      rintro e w' ⟨rfl, m, os, rfl⟩
      show ∃ v us', _
      have hsA : (sortS l).toArray.size = l.length := by simp [sortS_len]
      change ∃ v us', _ = _ ∧ _ ∧ (grow (putRow encStr (Sort.ahead w m) B 0 (sortS l).toArray) os).heap[B]? = _ ∧ (∀ k, _ → _ → (grow (putRow encStr (Sort.ahead w m) B 0 (sortS l).toArray) os).heap[k]? = _) ∧ _
      have hwB : (grow (putRow encStr (Sort.ahead w m) B 0 (sortS l).toArray) os).heap[B]? = some (.cells (putCells encStr 0 (sortS l).toArray us) 9 (0, 0)) := by
        rw [heap_grow_old _ _ (by rw [size_putRow]; exact hblk)]
        simp only [putRow, mapBlock, Sort.ahead, Array.getElem?_modify, if_true, hB, Option.map_some, onCells]
      have hat : ∀ t (ht : t < l.length), (putCells encStr 0 (sortS l).toArray us)[t]? = some (encStr ((sortS l)[t]'(by rw [sortS_len]; exact ht))) := by
        intro t ht
        have hlt : t < us.size := by omega
        simp only [putCells, Array.getElem?_mapIdx, Array.getElem?_eq_getElem hlt, Option.map_some, Nat.zero_add, Nat.zero_le, true_and, Nat.sub_zero]
        rw [if_pos (by rw [hsA]; exact ht), hget (sortS l) t (by rw [sortS_len]; exact ht)]
      refine ⟨_, putCells encStr 0 (sortS l).toArray us, rfl, by simp [putCells], hwB, fun k hk hkB => ?_, ?_, ⟨rfl, rfl, rfl⟩, fun i v hi hv => ?_, fun i d v hd hv => ?_, .tup rfl (by simp)⟩
      · rw [heap_grow_old _ _ (by rw [size_putRow]; exact hk)]
        simp only [putRow, mapBlock, Sort.ahead, Array.getElem?_modify, if_neg (Ne.symm hkB)]
      · have : (putRow encStr (Sort.ahead w m) B 0 (sortS l).toArray).heap.size = w.heap.size := by rw [size_putRow]; rfl
        rw [← this]; simp [grow]
      · rw [List.length_map] at hi
        rw [hat i hi] at hv
        cases hv
        rfl
      · have hi : i < l.length := by
          have := (List.getElem?_eq_some_iff.1 hd).1
          rw [List.length_map, sortS_len] at this; exact this
        rw [hat i hi] at hv
        cases hv
        have hi2 : i < (sortS l).length := by rw [sortS_len]; exact hi
        rw [List.getElem?_map, List.getElem?_eq_getElem hi2] at hd
        simp only [Option.map_some, Option.some.injEq] at hd
        subst hd
        have := Rep.str (M := Mall (Pr.base M) γ) (γ := γ) (w := w) ⟨((sortS l)[i]).toArray⟩
        simpa [encStr] using this
theorem c_ssort0 : CallP Pr 47 [.slice 1 true [] none] (.tup []) := CallE.same (bodied_of Tryz.func47 (by kernel_rfl) (by kernel_rfl)) fun M γ w vs hst hl hr => by
  match vs, hl with
  | [v0], _ =>
    have q0 := hr 0 _ _ rfl rfl
    cases q0
    refine (Tryz.slices_Sort_string_none none 0 w).mono ?_
    rintro e w' ⟨rfl, rfl⟩
    exact ⟨_, rfl, rfl, .tup rfl (by simp)⟩
end Go.Proofs

set_option linter.unusedSimpArgs false
set_option linter.unusedVariables false
set_option maxRecDepth 10000
namespace Go.Proofs
open Go Go.Id
set_option maxHeartbeats 4000000
end Go.Proofs

/-
  The iterator over the rules of a policy, on data: it hands out each index with the index of the first condition that does not hold. Conditions: the rules and the request are of bounded size.
-/
set_option linter.unusedSimpArgs false
set_option linter.unusedVariables false
set_option maxRecDepth 10000
namespace Go.Proofs
open Go Go.Id
def FL (l : List Rule) (r : Req) (i : Nat) : Int := match l[i]? with | some p => firstL r p.conds 0 | none => 0
def encFL (l : List Rule) (r : Req) (i : Nat) : Array Value := #[.int .i64 i, .int .i64 (FL l r i)]
def dsFL (l : List Rule) (r : Req) (i : Nat) : List D := [.int .i64 i, .int .i64 (FL l r i)]
abbrev rqD (r : Req) : List D := [.str r.user, .str r.client, .str r.tenant, .slice 1 r.ng (r.groups.map fun x => [.str x]) none, .slice 1 r.ns (r.scopes.map fun x => [.str x]) none, .int .i64 r.risk, .bool r.trusted, .int .i64 r.level, .int .i64 r.auth, .int .i64 r.now]
/-- The cells of a rule. -/
abbrev rcs (p : Rule) : List D := [.str p.name, .bool p.deny, .slice 3 p.nc (p.conds.map Cond.cs) none, .slice 1 p.ns (p.scopes.map fun x => [.str x]) none, .int .i64 p.lvl, .int .i64 p.age]
abbrev rlD (l : List Rule) (nl : Bool) : D := .slice 6 nl (l.map Rule.cs) none

theorem range_snoc (k : Nat) : List.range k ++ [k] = List.range (k + 1) := List.range_succ.symm

structure ItH (l : List Rule) (nl : Bool) (r : Req) (J : List Nat → (Nat → Nat → Prop) → World → Prop) (L : Nat) (v1 v2 v6 : Value) (k : Nat) (m : Nat → Nat → Prop) (a : Act) (ω : World) : Prop where
  j : J (List.range k) m ω
  sz : a.tmps.size = 21
  df : a.defers = []
  y : a.tmps.getD 0 undef = .func (.yield L) #[] #[]
  s1 : a.tmps.getD 1 undef = v1
  s2 : a.tmps.getD 2 undef = v2
  s6 : a.tmps.getD 6 undef = v6
  s7 : a.tmps.getD 7 undef = .int .i64 l.length
  s8 : a.tmps.getD 8 undef = .int .i64 k
  r6 : Rep m (fun _ => none) ω (rlD l nl) v6

theorem rep_y (L : Nat) (M : Nat → Nat → Prop) (γ : Nat → Option G) (w : World) : Rep M γ w (.fn (.yield L) [] []) (.func (.yield L) #[] #[]) := .fn rfl rfl (by simp) (by simp)

theorem res57 (T : Array Value) (w : World) : (results Tryz.f57 T).run Pr.prog w = .ok (.tuple #[]) w := by
  unfold results
  rw [show Tryz.f57.results = #[] from rfl]
  simp [Sem.run_bind, Result.andThen]
set_option maxHeartbeats 4000000
theorem it_reasons (l : List Rule) (nl : Bool) (r : Req) (hn : l.length ≤ 1099511627776) (hnl : nl = true → l = []) (hl : ∀ p ∈ l, p.ok) (hr : r.ok) : IterD Pr 57 [.iptr [rlD l nl], .iptr (rqD r)] (encFL l r) (List.range l.length) := by
  refine ⟨bodied_of Tryz.func57 (by kernel_rfl) (by kernel_rfl), ?_⟩
  intro n L lb J Jx m ω hlb hJ hst hstx hY h0
  obtain ⟨v1, v2, rfl⟩ : ∃ v1 v2, lb = #[v1, v2] := by
    obtain ⟨lb⟩ := lb
    match lb, hlb with
    | [v1, v2], _ => exact ⟨v1, v2, rfl⟩
  refine callsIn_of_wp Tryz.func57 rfl trivial ?_ rfl
  have hOk : OpenF Fence.wide := .wide
  refine wpIn_seq ?_
  obtain ⟨hs, hcap⟩ := hJ [] m ω h0
  have c1 := hcap 0 _ v1 rfl rfl
  obtain ⟨ad, v6, rfl, hc6, ho6, r6⟩ : ∃ ad v6, v1 = .pointer (some ad) ∧ (ad.spot = none ∧ ω.cell? ⟨ad.block, ad.off, none⟩ = some v6) ∧ v6.oneCell' = true ∧ Rep m (fun _ => none) ω (rlD l nl) v6 := by
    obtain ⟨q1, q2⟩ := c1
    cases q1 with
    | @iptr _ ad vs hvs hspot hc hr' =>
      obtain ⟨v6, rfl⟩ : ∃ v6, vs = [v6] := by
        match vs, hvs with
        | [v6], _ => exact ⟨v6, rfl⟩
      have h := hc 0 v6 rfl
      exact ⟨ad, v6, rfl, ⟨hspot, h.1⟩, h.2.2, (q2 _ ad rfl rfl 0 _ v6 rfl h.1).1⟩
  generalize ha0 : ({ tmps := #[Value.func (Fn.yield L) #[] #[]] ++ #[.pointer (some ad), v2] ++ Array.replicate (Tryz.f57.ntmps - (#[Value.func (Fn.yield L) #[] #[]] ++ #[.pointer (some ad), v2]).size) undef, defers := [] } : Act) = a0
  have z1 : a0.tmps.size = 21 := by rw [← ha0]; simp [Tryz.ntmps57]
  have z2 : a0.tmps.getD 0 undef = .func (.yield L) #[] #[] := by rw [← ha0]; simp
  have z3 : a0.tmps.getD 1 undef = .pointer (some ad) := by rw [← ha0]; simp
  have z4 : a0.tmps.getD 2 undef = v2 := by rw [← ha0]; simp
  have z5 : a0.defers = [] := by rw [← ha0]
  clear ha0
  -- the rows are read
  have hload : ∃ v6' : Value, (loadVar 22 ad).run Pr.prog ω = .ok v6' ω ∧ Rep m (fun _ => none) ω (rlD l nl) v6' :=
    run_loadVar (P := Pr.prog) (t := 22) (g := false) (sz := 1) (by kernel_rfl) (by kernel_rfl) (M := m) hc6.1 (cs := [rlD l nl]) rfl [v6] (by simp) (fun j v hv => by
      match j with
      | 0 => simp at hv; subst hv; exact ⟨hc6.2, ho6⟩
      | j + 1 => simp at hv) (fun j d v hd hv => by
      match j with
      | 0 => simp at hd hv; subst hd; subst hv; exact r6
      | j + 1 => simp at hv)
  obtain ⟨u6, hload, r6'⟩ := hload
  clear hc6 ho6 r6 hs
  have hs := (hJ [] m ω h0).1
  refine wpIn_region ?_
  show wpOpsIn Fence.wide (n + 1) Pr.prog _ _ (0 :: List.range' 1 2) a0 ω
  refine ops_hand rfl rfl (op_load hOk rfl z3 hload ?_)
  show wpOpsIn Fence.wide (n + 1) Pr.prog _ _ (List.range' 1 2) (a0.put (some 6) u6) ω
  have y1 : (a0.put (some 6) u6).tmps.size = 21 := by rw [put_size]; exact z1
  have yg : ∀ t, (a0.put (some 6) u6).tmps.getD t undef = if 6 = t then u6 else a0.tmps.getD t undef := fun t => by
    rw [put_get (fun t ht => by cases ht; rw [z1]; decide)]; simp
  have y5 : (a0.put (some 6) u6).defers = [] := by rw [put_defers]; exact z5
  generalize a0.put (some 6) u6 = a1 at y1 yg y5 ⊢
  refine ops_from (P := Pr) (E := E0 Pr ω) (ent := []) (N := 21) hOk (by kernel_rfl) 1 _ rfl (st := ⟨[(6, rlD l nl)], []⟩) (Q := fun st' => st'.get 7 = .int .i64 l.length ∧ st'.get 8 = .int .i64 0) (fun K hK => ?_) (rel_start hs y1 y5 (fun p hp => by
    simp only [List.mem_singleton] at hp; subst hp; rw [yg]; exact Rep.sub (fun _ _ h => h.elim) r6')) (fun st' a' ω' hQ hrel hks => ?_)
  · simp (decide := true) only [List.drop, W, Pr_prog, t_isSliceT_22, ↓reduceIte, Int.reduceToNat, List.length_map]
    exact hK _ _ ⟨by simp [St.get, lk], by simp [St.get, lk]⟩
  have hb := rel_below hrel
  have H0 : ItH l nl r J L (.pointer (some ad)) v2 u6 0 m a' ω' := by
    refine ⟨hst _ _ _ _ h0 hb, rel_size hrel, hks.2.trans y5, ?_, ?_, ?_, ?_, rel_int hrel hQ.1, rel_int hrel hQ.2, rep_below hb r6'⟩
    · rw [hks.1.2 0 (by kernel_rfl), yg]; exact z2
    · rw [hks.1.2 1 (by kernel_rfl), yg]; exact z3
    · rw [hks.1.2 2 (by kernel_rfl), yg]; exact z4
    · rw [hks.1.2 6 (by kernel_rfl), yg]; rfl
  clear hQ hrel hks hb y1 yg y5 z1 z2 z3 z4 z5 hload r6' hs h0 c1 hcap
  show Code.wpIn _ _ _ _ _ _ _
  refine wpIn_block ?_
  refine wpIn_loop (fun a ω => ∃ k m, k ≤ l.length ∧ ItH l nl r J L (.pointer (some ad)) v2 u6 k m a ω) (fun a _ => match a.tmps.getD 8 undef with | .int _ j => l.length - j.toNat | _ => 0) ⟨0, m, Nat.zero_le _, H0⟩ ?_
  clear H0 a' a1 a0 st' ω' ω m
  rintro a ω ⟨k, m, hk, H⟩
  obtain ⟨hs, hcap⟩ := hJ _ _ _ H.j
  have c1 := (hcap 0 _ _ rfl rfl).1
  have c2 := (hcap 1 _ _ rfl rfl).1
  have hfr : ∀ p ∈ [(0, D.fn (.yield L) [] []), (1, D.iptr [rlD l nl]), (2, D.iptr (rqD r)), (6, rlD l nl), (7, D.int .i64 l.length), (8, D.int .i64 k)], Rep (fun _ _ => False) (fun _ => none) ω p.2 (a.tmps.getD p.1 undef) := by
    intro p hp
    simp only [List.mem_cons, List.not_mem_nil, or_false] at hp
    rcases hp with rfl | rfl | rfl | rfl | rfl | rfl
    · rw [H.y]; exact rep_y _ _ _ _
    · rw [H.s1]; exact c1
    · rw [H.s2]; exact c2
    · rw [H.s6]; exact Rep.sub (fun _ _ h => h.elim) H.r6
    · rw [H.s7]; exact .int _ _
    · rw [H.s8]; exact .int _ _
  have hrel0 := rel_start (P := Pr) (N := 21) hs H.sz H.df hfr
  refine wpIn_seq ?_
  refine region_pre (P := Pr) (E := E0 Pr ω) (ent := []) (N := 21) hOk (by kernel_rfl) _ [] (by simp; rfl) (Q := fun st' => st' = ⟨(9, .bool (decide ((k : Int) < (l.length : Int)))) :: [(0, D.fn (.yield L) [] []), (1, D.iptr [rlD l nl]), (2, D.iptr (rqD r)), (6, rlD l nl), (7, D.int .i64 l.length), (8, D.int .i64 k)], []⟩) (fun K hK => ?_) hrel0 (fun st' a1 ω1 hQ hrel1 hks1 => ?_)
  · simp (decide := true) only [W, Pr_prog, ↓reduceIte, Int.reduceToNat]
    exact hK _ _ rfl
  subst hQ
  show Code.wpIn _ _ _ _ _ _ _
  refine wpIn_seq (wpIn_cond_split (t := decide ((k : Int) < (l.length : Int))) ?_ (fun q => ?_) (fun q => ?_))
  · exact rel_bool hrel1 rfl
  · -- a round
    have hlt := lt_of_q q
    have hg : (l.map Rule.cs)[k]? = some (rcs l[k]) := getM hlt
    have hnf := nl_false hnl hlt
    refine wpIn_skip ?_
    show Code.wpIn _ _ _ _ _ _ _
    refine wpIn_seq (wpIn_block (wpIn_seq ?_))
    refine region_pre (P := Pr) (E := E0 Pr ω) (ent := []) (N := 21) hOk (by kernel_rfl) _ [] (by simp; rfl) (Q := fun st' => Weak [] st' ⟨[(0, D.fn (.yield L) [] []), (2, D.iptr (rqD r)), (4, .int .i64 k), (5, .ref 0 0)], [(0, .box 44 (rcs l[k]))]⟩) (fun K hK => ?_) hrel1 (fun st' a2 ω2 hQ hrel2 hks2 => ?_)
    · simp (decide := true) only [W, Pr_prog, t_elemD_22, t_szD_44, t_aggD_44, t_zeroD_44, hg, hnf, ↓reduceIte, Int.reduceToNat]
      refine hK _ _ ?_
      exact Weak.store (by simp [St.get, lk, Le.refl]) (by simp [lk]) (by simp [lk]) (by simp [BClo, lk]) (by simp [lk])
    have hrel2' : Rel (E0 Pr ω) [] 21 (St.get ⟨[(0, D.fn (.yield L) [] []), (2, D.iptr (rqD r)), (4, .int .i64 k), (5, .ref 0 0)], [(0, .box 44 (rcs l[k]))]⟩) (lk [(0, .box 44 (rcs l[k]))]) a2 ω2 := hQ Pr (E0 Pr ω) 21 a2 ω2 hrel2
    show Code.wpIn _ _ _ _ _ _ _
    refine wpIn_seq ?_
    have hfl : FL l r k = firstL r l[k].conds 0 := by simp [FL, getE hlt]
    refine region_pre (P := Pr) (E := E0 Pr ω) (ent := []) (N := 21) hOk (by kernel_rfl) (List.take 5 _) (List.drop 5 _) (List.take_append_drop 5 _).symm (Q := fun st' => st'.get 13 = .fn (.yield L) [] [] ∧ st'.get 14 = .int .i64 k ∧ st'.get 17 = .int .i64 (FL l r k)) (fun K hK => ?_) hrel2' (fun st' a3 ω3 hQ3 hrel3 hks3 => ?_)
    · simp (decide := true) only [W, Pr_prog, t_szD_44, t_aggD_44, t_szD_25, t_aggD_25, List.take, ↓reduceIte, Int.reduceToNat]
      refine CallK.pure (c_first l[k] r (hl _ (List.getElem_mem hlt)) hr) rfl rfl (by simp [-List.map_take]) ?_
      simp (decide := true) only [W, Pr_prog, ↓reduceIte, Int.reduceToNat]
      refine hK _ _ ?_
      exact ⟨by simp [St.get, lk], by simp [St.get, lk], by simp [St.get, lk, hfl]⟩
    have hb3 := rel_below hrel3
    have hks : ∀ t, wrOf _ t = false → wrOf _ t = false → wrOf _ t = false → a3.tmps.getD t undef = a.tmps.getD t undef := fun t e1 e2 e3 => (hks3.1.2 t e1).trans ((hks2.1.2 t e2).trans (hks1.1.2 t e3))
    have hJ3 := hst _ _ _ _ H.j hb3
    have hsz3 := rel_size hrel3
    have hdf3 : a3.defers = [] := hks3.2.trans (hks2.2.trans (hks1.2.trans H.df))
    have hr3 := rep_below hb3 H.r6
    have e13 := rel_fn hrel3 hQ3.1
    have e14 := rel_int hrel3 hQ3.2.1
    have e17 := rel_int hrel3 hQ3.2.2
    have hpx : List.range k ++ [k] <+: List.range l.length := by
      rw [range_snoc]
      have := List.take_prefix (k + 1) (List.range l.length)
      rwa [List.take_range, Nat.min_eq_left (by omega)] at this
    have hy := hY _ k _ _ hJ3 hpx
    show wpOpsIn Fence.wide (n + 1) Pr.prog _ _ (5 :: [6]) a3 ω3
    refine ops_hand rfl rfl (op_yield (L := L) (t := 13) (args := #[.tmp 14, .tmp 17]) (ts := #[3, 3]) rfl e13 (R := _) (by
      have : (#[Operand.tmp 14, Operand.tmp 17].map a3.eval) = encFL l r k := by
        simp only [List.map_toArray, List.map_cons, List.map_nil, encFL]
        show #[a3.tmps.getD 14 undef, a3.tmps.getD 17 undef] = _
        rw [e14, e17]
      rw [this]; exact hy) ?_)
    have yy : ∀ (b : Bool) (t : Nat), (a3.put (some 18) (.bool b)).tmps.getD t undef = if 18 = t then .bool b else a3.tmps.getD t undef := fun b t => by
      rw [put_get (fun t ht => by cases ht; rw [hsz3]; decide)]; simp
    have z0 : ∀ (b : Bool) (v : Value) (t : Nat), t < 18 → ((a3.put (some 18) (.bool b)).put (some 19) v).tmps.getD t undef = a3.tmps.getD t undef := fun b v t ht => by
      rw [put_get (fun t ht => by cases ht; rw [put_size, hsz3]; decide), yy]
      simp only [Option.some.injEq]
      rw [if_neg (show ¬ 19 = t by omega), if_neg (show ¬ 18 = t by omega)]
    have z19 : ∀ (b b' : Bool), ((a3.put (some 18) (.bool b)).put (some 19) (.bool b')).tmps.getD 19 undef = .bool b' := fun b b' => by
      rw [put_get (fun t ht => by cases ht; rw [put_size, hsz3]; decide)]; simp
    rintro e ω4 (⟨rfl, m', hJ4, hkeep⟩ | ⟨rfl, m', hJ4⟩)
    · refine ⟨_, rfl, ?_⟩
      refine ops_hand rfl rfl (op_not hOk (b := true) rfl ((yy true 18).trans (if_pos rfl)) ?_)
      show Code.wpIn _ _ _ _ _ ((a3.put (some 18) (.bool true)).put (some 19) (.bool false)) ω4
      refine wpIn_cond_false (z19 true false) (wpIn_skip ?_)
      show Code.wpIn _ _ _ _ _ _ _
      have hs4 := (hJ _ _ _ hJ4).1
      have hr4 := hkeep _ _ (by simp) hr3
      have hrel4 := rel_start (P := Pr) (N := 21) (F0 := [(8, .int .i64 k)]) (a := (a3.put (some 18) (.bool true)).put (some 19) (.bool false)) hs4 (by rw [put_size, put_size]; exact hsz3) (by rw [put_defers, put_defers]; exact hdf3) (fun p hp => by
        simp only [List.mem_singleton] at hp; subst hp; dsimp only; rw [z0 _ _ _ (by omega), hks 8 (by kernel_rfl) (by kernel_rfl) (by kernel_rfl), H.s8]; exact .int _ _)
      refine region_pre (P := Pr) (E := E0 Pr ω4) (ent := []) (N := 21) hOk (by kernel_rfl) _ [] (by simp; rfl) (Q := fun st' => st'.get 8 = .int .i64 ((k + 1 : Nat) : Int)) (fun K hK => ?_) hrel4 (fun st' a5 ω5 hQ5 hrel5 hks5 => ?_)
      · simp (decide := true) only [W, Pr_prog, ↓reduceIte, Int.reduceToNat]
        refine hK _ _ ?_
        simp [St.get, lk, wrapS hlt (show l.length ≤ 140737488355328 by omega)]
      show (_ ∧ _)
      have hb5 := rel_below hrel5
      have e8 := rel_int hrel5 hQ5
      refine ⟨⟨k + 1, m', hlt, hst _ _ _ _ (range_snoc k ▸ hJ4) hb5, rel_size hrel5, hks5.2.trans (by rw [put_defers, put_defers]; exact hdf3), ?_, ?_, ?_, ?_, ?_, e8, rep_below hb5 hr4⟩, ?_⟩
      · rw [hks5.1.2 0 (by kernel_rfl), z0 _ _ _ (by omega), hks 0 (by kernel_rfl) (by kernel_rfl) (by kernel_rfl)]; exact H.y
      · rw [hks5.1.2 1 (by kernel_rfl), z0 _ _ _ (by omega), hks 1 (by kernel_rfl) (by kernel_rfl) (by kernel_rfl)]; exact H.s1
      · rw [hks5.1.2 2 (by kernel_rfl), z0 _ _ _ (by omega), hks 2 (by kernel_rfl) (by kernel_rfl) (by kernel_rfl)]; exact H.s2
      · rw [hks5.1.2 6 (by kernel_rfl), z0 _ _ _ (by omega), hks 6 (by kernel_rfl) (by kernel_rfl) (by kernel_rfl)]; exact H.s6
      · rw [hks5.1.2 7 (by kernel_rfl), z0 _ _ _ (by omega), hks 7 (by kernel_rfl) (by kernel_rfl) (by kernel_rfl)]; exact H.s7
      · show (match a5.tmps.getD 8 undef with | .int _ j => l.length - j.toNat | _ => 0) < (match a.tmps.getD 8 undef with | .int _ j => l.length - j.toNat | _ => 0)
        rw [e8, H.s8]
        show l.length - Int.toNat _ < l.length - Int.toNat _
        simp only [Int.toNat_natCast]; omega
    · refine ⟨_, rfl, ?_⟩
      refine ops_hand rfl rfl (op_not hOk (b := false) rfl ((yy false 18).trans (if_pos rfl)) ?_)
      show Code.wpIn _ _ _ _ _ ((a3.put (some 18) (.bool false)).put (some 19) (.bool true)) ω4
      refine wpIn_cond_true (z19 false true) (wpIn_ret ?_)
      show _ ∧ _
      exact ⟨by rw [put_defers, put_defers]; exact hdf3, .tuple #[], res57 _ _, ⟨_, rfl⟩, .inr ⟨_, m', hJ4⟩⟩
  · have hge := ge_of_q q
    obtain rfl : k = l.length := by omega
    refine wpIn_exit ?_
    show _ ∧ _
    exact ⟨hks1.2.trans H.df, .tuple #[], res57 _ _, ⟨_, rfl⟩, .inl ⟨m, hst _ _ _ _ H.j (rel_below hrel1)⟩⟩
end Go.Proofs

set_option linter.unusedSimpArgs false
set_option linter.unusedVariables false
namespace Go.Proofs
open Go Go.Id
theorem dsFL_ok (l : List Rule) (r : Req) : ∀ (x : Nat) (M : Nat → Nat → Prop) (γ : Nat → Option G) (w : World) (i : Nat) (d : D) (v : Value), (dsFL l r x)[i]? = some d → (encFL l r x)[i]? = some v → Rep M γ w d v
  | x, M, γ, w, 0, d, v, h1, h2 => by simp [dsFL, encFL] at h1 h2; subst h1; subst h2; exact .int _ _
  | x, M, γ, w, 1, d, v, h1, h2 => by simp [dsFL, encFL] at h1 h2; subst h1; subst h2; exact .int _ _
  | x, M, γ, w, i + 2, d, v, h1, h2 => by simp [dsFL] at h1
theorem range_pre {n x : Nat} {pre : List Nat} (h : pre ++ [x] <+: List.range n) : x = pre.length ∧ x < n := by
  have hl := h.length_le
  simp only [List.length_append, List.length_cons, List.length_nil, List.length_range] at hl
  have h1 : (pre ++ [x])[pre.length]? = some x := by simp
  obtain ⟨t, ht⟩ := h
  have h2 : (List.range n)[pre.length]? = some x := by rw [← ht, List.getElem?_append_left (by simp)]; exact h1
  rw [List.getElem?_range (by omega)] at h2
  simp only [Option.some.injEq] at h2
  exact ⟨h2.symm, by omega⟩
theorem FL_at {l : List Rule} {r : Req} {x : Nat} (h : x < l.length) : FL l r x = firstL r l[x].conds 0 := by simp [FL, getE h]
theorem firstL_lt (r : Req) : ∀ (l : List Cond) (k : Int), firstL r l k = -1 ∨ k ≤ firstL r l k ∧ firstL r l k < k + l.length
  | [], k => .inl rfl
  | c :: l, k => by
    unfold firstL
    split
    · right; simp only [List.length_cons]; omega
    · rcases firstL_lt r l (k + 1) with h | h
      · exact .inl h
      · right; simp only [List.length_cons]; omega
/-- A permit rule that matches. -/
def okM (p : Rule) (r : Req) : Bool := decide (firstL r p.conds 0 < 0)
def okG (r : Req) (s : List UInt8) (p : Rule) : Bool := okM p r && !p.deny && covsB p s && satB p r
/-- The index of the first rule that grants a scope. -/
def grP (r : Req) (s : List UInt8) : List Rule → Nat → Int
  | [], _ => -1
  | p :: l, i => if okG r s p = true then (i : Int) else grP r s l (i + 1)
theorem ren_rl (f : Nat → Nat) (l : List Rule) : renLL f (l.map Rule.cs) = l.map Rule.cs := by
  have := ren_clo f (d := rlD l false) (by simp)
  simpa [renD] using this
theorem ren_sl (f : Nat → Nat) (l : List (List UInt8)) : renLL f (l.map fun x => [D.str x]) = l.map fun x => [D.str x] := by
  have := ren_clo f (d := .slice 1 false (l.map fun x => [D.str x]) none) (by simp)
  simpa [renD] using this
end Go.Proofs

set_option linter.unusedSimpArgs false
set_option linter.unusedVariables false
set_option maxRecDepth 10000
namespace Go.Proofs
open Go Go.Id
set_option maxHeartbeats 4000000
theorem c_reasons0 (l : List Rule) (nl : Bool) (r : Req) : CallE Pr 29 [.slice 6 nl (l.map Rule.cs) none, .agg [.str r.user, .str r.client, .str r.tenant, .slice 1 r.ng (r.groups.map fun x => [.str x]) none, .slice 1 r.ns (r.scopes.map fun x => [.str x]) none, .int .i64 r.risk, .bool r.trusted, .int .i64 r.level, .int .i64 r.auth, .int .i64 r.now]] [] (.fn (.func 57) [] [.ref 0 0, .ref 1 0]) [(0, .box 22 [.slice 6 nl (l.map Rule.cs) none]), (1, .box 25 [.str r.user, .str r.client, .str r.tenant, .slice 1 r.ng (r.groups.map fun x => [.str x]) none, .slice 1 r.ns (r.scopes.map fun x => [.str x]) none, .int .i64 r.risk, .bool r.trusted, .int .i64 r.level, .int .i64 r.auth, .int .i64 r.now])] := by
 refine CallE.of_wp Tryz.func29 rfl (by kernel_rfl) Tryz.ntmps29 (by simp) ?_
 simp only [frameOf, Nat.reduceAdd, Nat.zero_add, List.map_cons, List.map_nil]
 refine WP.sr [2, 3] (by kernel_rfl) fun K hK => ?_
 simp (decide := true) only [TF, ↓reduceIte, Int.reduceToNat]
 refine hK _ _ ?_; clear hK K
 refine WP.sr [4] (by kernel_rfl) fun K hK => ?_
 simp (decide := true) only [TF, ↓reduceIte, Int.reduceToNat]
 refine hK _ _ ?_; clear hK K
 refine WP.ret ?_
 refine Ends.imp (.inr rfl) rfl (Le.of_eq (by simp (decide := true) only [St.get, lk, W, ↓reduceIte])) ?_ ?_ ?_
 · simp [lk]
 · simp [St.get, lk, W, BClo, W]
 · simp [lk]
theorem c_reasons (x y : Nat) (h : x ≠ y) (l : List Rule) (nl : Bool) (r : Req) : CallE Pr 29 [.slice 6 nl (l.map Rule.cs) none, .agg [.str r.user, .str r.client, .str r.tenant, .slice 1 r.ng (r.groups.map fun x => [.str x]) none, .slice 1 r.ns (r.scopes.map fun x => [.str x]) none, .int .i64 r.risk, .bool r.trusted, .int .i64 r.level, .int .i64 r.auth, .int .i64 r.now]] [] (.fn (.func 57) [] [.ref x 0, .ref y 0]) [(x, .box 22 [.slice 6 nl (l.map Rule.cs) none]), (y, .box 25 [.str r.user, .str r.client, .str r.tenant, .slice 1 r.ng (r.groups.map fun x => [.str x]) none, .slice 1 r.ns (r.scopes.map fun x => [.str x]) none, .int .i64 r.risk, .bool r.trusted, .int .i64 r.level, .int .i64 r.auth, .int .i64 r.now])] := by
 obtain ⟨f, g, h1, h2⟩ := ren_ex [x, y] (by simp [h])
 have := CallE.rename h1 (c_reasons0 l nl r)
 have f0 : f 0 = x := h2 0 x rfl
 have f1 : f 1 = y := h2 1 y rfl
 simp only [List.map_cons, List.map_nil, renS, renB, renL, renD, ren_rl, ren_sl, Option.map_none, f0, f1] at this
 exact this
end Go.Proofs

set_option linter.unusedSimpArgs false
set_option linter.unusedVariables false
set_option maxRecDepth 10000
namespace Go.Proofs
open Go Go.Id
set_option maxHeartbeats 4000000
theorem c_granting (l : List Rule) (nl : Bool) (r : Req) (hn : l.length ≤ 1099511627776) (hnl : nl = true → l = []) (hl : ∀ p ∈ l, p.ok) (hr : r.ok) (s : List UInt8) (hs : s.length ≤ 1099511627776) : CallP Pr 58 [.slice 6 nl (l.map Rule.cs) none, .agg [.str r.user, .str r.client, .str r.tenant, .slice 1 r.ng (r.groups.map fun x => [.str x]) none, .slice 1 r.ns (r.scopes.map fun x => [.str x]) none, .int .i64 r.risk, .bool r.trusted, .int .i64 r.level, .int .i64 r.auth, .int .i64 r.now], .str s] (.int .i64 (grP r s l 0)) := by
 refine CallP.of_wp Tryz.func58 rfl (by kernel_rfl) Tryz.ntmps58 (by simp) ?_
 simp only [frameOf, Nat.reduceAdd, Nat.zero_add]
 refine WP.sr [3, 4, 5, 6] (by kernel_rfl) fun K hK => ?_
 simp (decide := true) only [TF, ↓reduceIte, Int.reduceToNat]
 refine hK _ _ ?_; clear hK K
 refine WP.seq ?_
 refine WP.sr [3, 4, 5, 6, 11] (by kernel_rfl) fun K hK => ?_
 simp (decide := true) only [TF, ↓reduceIte, Int.reduceToNat]
 refine CallK.imp (c_reasons 4 5 (by decide) l nl r) rfl rfl (by simp) (by simp [lk]) (by simp [lk]) ?_
 simp (decide := true) only [TF, ↓reduceIte, Int.reduceToNat]
 refine hK _ _ ?_; clear hK K
 refine WP.block ?_
 refine WP.rf [3, 4, 5, 6] (fun x => [(7, .int .i64 x), (8, .int .i64 (FL l r x))]) (fun pre => [(4, .box 22 [.slice 6 nl (l.map Rule.cs) none]), (5, .box 25 [.str r.user, .str r.client, .str r.tenant, .slice 1 r.ng (r.groups.map fun x => [.str x]) none, .slice 1 r.ns (r.scopes.map fun x => [.str x]) none, .int .i64 r.risk, .bool r.trusted, .int .i64 r.level, .int .i64 r.auth, .int .i64 r.now]), (3, .box 3 [.int .i64 0]), (2, .box 9 [.str s]), (1, .box 25 [.str r.user, .str r.client, .str r.tenant, .slice 1 r.ng (r.groups.map fun x => [.str x]) none, .slice 1 r.ns (r.scopes.map fun x => [.str x]) none, .int .i64 r.risk, .bool r.trusted, .int .i64 r.level, .int .i64 r.auth, .int .i64 r.now]), (0, .box 22 [.slice 6 nl (l.map Rule.cs) none])]) (fun pre x => [(4, .box 22 [.slice 6 nl (l.map Rule.cs) none]), (5, .box 25 [.str r.user, .str r.client, .str r.tenant, .slice 1 r.ng (r.groups.map fun x => [.str x]) none, .slice 1 r.ns (r.scopes.map fun x => [.str x]) none, .int .i64 r.risk, .bool r.trusted, .int .i64 r.level, .int .i64 r.auth, .int .i64 r.now]), (3, .box 3 [.int .i64 0]), (2, .box 9 [.str s]), (1, .box 25 [.str r.user, .str r.client, .str r.tenant, .slice 1 r.ng (r.groups.map fun x => [.str x]) none, .slice 1 r.ns (r.scopes.map fun x => [.str x]) none, .int .i64 r.risk, .bool r.trusted, .int .i64 r.level, .int .i64 r.auth, .int .i64 r.now]), (0, .box 22 [.slice 6 nl (l.map Rule.cs) none])]) (fun pre => grP r s l 0 = grP r s (l.drop pre.length) pre.length) (dsOf := dsFL l r) (by simp (decide := true) only [W, ↓reduceIte, Int.reduceToNat]; rfl) (by simp [MK]) rfl (it_reasons l nl r hn hnl hl hr) rfl (by simp) rfl ?_ ?_ ?_ ?_ ?_ ?_ ?_
 · exact fun pre _ _ => capOk2 (CapOk.box 4 22 _ rfl (by simp)) (CapOk.box 5 25 _ rfl (by simp))
 · exact fun _ => ⟨rfl, rfl⟩
 · simp
 · exact dsFL_ok l r
 ·
  intro pre x hpx hI
  obtain ⟨hxe, hlt⟩ := range_pre hpx
  have hfl : FL l r x = firstL r l[x].conds 0 := FL_at hlt
  rw [← hxe, dropE hlt] at hI
  simp only [grP] at hI
  have hg : (l.map Rule.cs)[x]? = some [.str l[x].name, .bool l[x].deny, .slice 3 l[x].nc (l[x].conds.map Cond.cs) none, .slice 1 l[x].ns (l[x].scopes.map fun x => [.str x]) none, .int .i64 l[x].lvl, .int .i64 l[x].age] := getM hlt
  have hnf := nl_false hnl hlt
  simp (decide := true) only [setPs_two, dsFL, W, List.map_cons, List.map_nil, ↓reduceIte, Int.reduceToNat]
  refine WP.sr [3, 4, 5, 6, 7, 13] (by kernel_rfl) fun K hK => ?_
  simp (decide := true) only [TF, hfl, hg, hnf, ↓reduceIte, Int.reduceToNat]
  refine hK _ _ ?_; clear hK K
  refine WP.region (by kernel_rfl) fun K hK => ?_
  simp (decide := true) only [TF, hfl, hg, hnf, ↓reduceIte, Int.reduceToNat]
  refine hK _ _ ?_; clear hK K
  show _ ∧ Weak _ _ _
  exact ⟨rfl, Weak.store (by simp [St.get, lk, W, Le.refl, hfl, hg, hnf]) (by simp [lk, W, hfl, hg, hnf]) (by simp [lk, W]) (by simp [BClo, lk]) (by simp [lk, MK])⟩
 ·
  intro pre x hpx hI
  obtain ⟨hxe, hlt⟩ := range_pre hpx
  have hfl : FL l r x = firstL r l[x].conds 0 := FL_at hlt
  rw [← hxe, dropE hlt] at hI
  simp only [grP] at hI
  have hg : (l.map Rule.cs)[x]? = some [.str l[x].name, .bool l[x].deny, .slice 3 l[x].nc (l[x].conds.map Cond.cs) none, .slice 1 l[x].ns (l[x].scopes.map fun x => [.str x]) none, .int .i64 l[x].lvl, .int .i64 l[x].age] := getM hlt
  have hnf := nl_false hnl hlt
  simp only [List.cons_append, List.nil_append, List.map_cons, List.map_nil]
  refine WP.block ?_
  refine WP.sd [6, 7, 39] (by kernel_rfl) (by kernel_rfl) fun K hK => ?_
  refine runOps.take 3 fun J hJ => ?_
  simp (decide := true) only [TF, hfl, hg, hnf, ↓reduceIte, Int.reduceToNat]
  refine hJ _ _ ?_; clear hJ J
  refine runOps.part 16 rfl (fun q1 => ?_) (fun q1 => ?_)
  ·
   refine runOps.take 8 fun J hJ => ?_
   simp (decide := true) only [TF, hfl, hg, hnf, q1, ↓reduceIte, Int.reduceToNat]
   refine hJ _ _ ?_; clear hJ J
   refine runOps.part 24 rfl (fun q2 => ?_) (fun q2 => ?_)
   ·
    simp (decide := true) only [TF, hfl, hg, hnf, q1, q2, ↓reduceIte, Int.reduceToNat]
    refine CallK.pure (c_covers l[x] s (hl _ (List.getElem_mem hlt)) hs) rfl rfl (by simp [-List.map_take]) ?_
    refine runOps.take 2 fun J hJ => ?_
    simp (decide := true) only [TF, hfl, hg, hnf, q1, q2, ↓reduceIte, Int.reduceToNat]
    refine hJ _ _ ?_; clear hJ J
    refine runOps.part 32 rfl (fun q3 => ?_) (fun q3 => ?_)
    ·
     simp (decide := true) only [TF, hfl, hg, hnf, q1, q2, q3, ↓reduceIte, Int.reduceToNat]
     refine CallK.pure (c_satisfied l[x] r) rfl rfl (by simp [-List.map_take]) ?_
     simp (decide := true) only [TF, hfl, hg, hnf, q1, q2, q3, ↓reduceIte, Int.reduceToNat]
     refine hK _ _ (by kernel_rfl) ?_
     clear hK K
     refine WP.cond (b := _) rfl (fun q4 => ?_) (fun q4 => ?_)
     ·
      refine WP.sr [6] (by kernel_rfl) fun K hK => ?_
      simp (decide := true) only [TF, hfl, hg, hnf, q1, q2, q3, q4, ↓reduceIte, Int.reduceToNat]
      refine hK _ _ ?_; clear hK K
      refine WP.ret ?_
      show ∃ T', Weak _ _ _ ∧ WP _ _ _ _ _ _
      have hO : okG r s l[x] = true := by simp only [okG, okM, hfl, hg, hnf, q1, q2, q3, q4, hI, Bool.false_and, Bool.and_false, Bool.true_and, Bool.and_true, Bool.not_true, Bool.not_false]
      rw [if_pos hO] at hI
      refine ⟨[(4, .box 22 [.slice 6 nl (l.map Rule.cs) none]), (5, .box 25 [.str r.user, .str r.client, .str r.tenant, .slice 1 r.ng (r.groups.map fun x => [.str x]) none, .slice 1 r.ns (r.scopes.map fun x => [.str x]) none, .int .i64 r.risk, .bool r.trusted, .int .i64 r.level, .int .i64 r.auth, .int .i64 r.now]), (3, .box 3 [.int .i64 x]), (2, .box 9 [.str s]), (1, .box 25 [.str r.user, .str r.client, .str r.tenant, .slice 1 r.ng (r.groups.map fun x => [.str x]) none, .slice 1 r.ns (r.scopes.map fun x => [.str x]) none, .int .i64 r.risk, .bool r.trusted, .int .i64 r.level, .int .i64 r.auth, .int .i64 r.now]), (0, .box 22 [.slice 6 nl (l.map Rule.cs) none])], Weak.store (by simp) (by simp [lk, hfl, hg, hnf, q1, q2, q3, q4, hI]) (by simp [lk]) (by simp [BClo, lk]) (by simp [lk, MK]), ?_⟩
      refine WP.ret ?_
      exact Ends.pure (.inr rfl) rfl (Le.of_eq (by simp (decide := true) only [St.get, lk, W, hfl, hg, hnf, q1, q2, q3, q4, hI, ↓reduceIte])) (by simp)
     ·
      refine WP.skip ?_
      show _ ∧ Weak _ _ _
      have hO : okG r s l[x] = false := by simp only [okG, okM, hfl, hg, hnf, q1, q2, q3, q4, Bool.false_and, Bool.and_false, Bool.true_and, Bool.and_true, Bool.not_true, Bool.not_false]
      rw [if_neg (by rw [hO]; decide)] at hI
      refine ⟨?_, Weak.store (by simp) (by simp [lk, hfl, hg, hnf, q1, q2, q3, q4]) (by simp [lk]) (by simp [BClo, lk]) (by simp [lk, MK])⟩
      show grP r s l 0 = grP r s (l.drop (pre ++ [x]).length) (pre ++ [x]).length
      rw [List.length_append, ← hxe]; exact hI
    ·
     simp (decide := true) only [TF, hfl, hg, hnf, q1, q2, q3, ↓reduceIte, Int.reduceToNat]
     refine hK _ _ (by kernel_rfl) ?_
     clear hK K
     refine WP.cond (b := false) (by rfl) nofun (fun _ => ?_)
     refine WP.skip ?_
     show _ ∧ Weak _ _ _
     have hO : okG r s l[x] = false := by simp only [okG, okM, hfl, hg, hnf, q1, q2, q3, Bool.false_and, Bool.and_false, Bool.true_and, Bool.and_true, Bool.not_true, Bool.not_false]
     rw [if_neg (by rw [hO]; decide)] at hI
     refine ⟨?_, Weak.store (by simp) (by simp [lk, hfl, hg, hnf, q1, q2, q3]) (by simp [lk]) (by simp [BClo, lk]) (by simp [lk, MK])⟩
     show grP r s l 0 = grP r s (l.drop (pre ++ [x]).length) (pre ++ [x]).length
     rw [List.length_append, ← hxe]; exact hI
   ·
    simp (decide := true) only [TF, hfl, hg, hnf, q1, q2, ↓reduceIte, Int.reduceToNat]
    refine hK _ _ (by kernel_rfl) ?_
    clear hK K
    refine WP.cond (b := false) (by rfl) nofun (fun _ => ?_)
    refine WP.skip ?_
    show _ ∧ Weak _ _ _
    have hO : okG r s l[x] = false := by simp only [okG, okM, hfl, hg, hnf, q1, q2, Bool.false_and, Bool.and_false, Bool.true_and, Bool.and_true, Bool.not_true, Bool.not_false]
    rw [if_neg (by rw [hO]; decide)] at hI
    refine ⟨?_, Weak.store (by simp) (by simp [lk, hfl, hg, hnf, q1, q2]) (by simp [lk]) (by simp [BClo, lk]) (by simp [lk, MK])⟩
    show grP r s l 0 = grP r s (l.drop (pre ++ [x]).length) (pre ++ [x]).length
    rw [List.length_append, ← hxe]; exact hI
  ·
   simp (decide := true) only [TF, hfl, hg, hnf, q1, ↓reduceIte, Int.reduceToNat]
   refine hK _ _ (by kernel_rfl) ?_
   clear hK K
   refine WP.cond (b := false) (by rfl) nofun (fun _ => ?_)
   refine WP.skip ?_
   show _ ∧ Weak _ _ _
   have hO : okG r s l[x] = false := by simp only [okG, okM, hfl, hg, hnf, q1, Bool.false_and, Bool.and_false, Bool.true_and, Bool.and_true, Bool.not_true, Bool.not_false]
   rw [if_neg (by rw [hO]; decide)] at hI
   refine ⟨?_, Weak.store (by simp) (by simp [lk, hfl, hg, hnf, q1]) (by simp [lk]) (by simp [BClo, lk]) (by simp [lk, MK])⟩
   show grP r s l 0 = grP r s (l.drop (pre ++ [x]).length) (pre ++ [x]).length
   rw [List.length_append, ← hxe]; exact hI
 ·
  intro hI
  rw [List.length_range, dropN (Nat.le_refl _)] at hI
  simp only [grP] at hI
  show WP _ _ _ _ _ _
  refine WP.sr [6] (by kernel_rfl) fun K hK => ?_
  simp (decide := true) only [TF, hI, ↓reduceIte, Int.reduceToNat]
  refine hK _ _ ?_; clear hK K
  refine WP.ret ?_
  exact Ends.pure (.inr rfl) rfl (Le.of_eq (by simp (decide := true) only [St.get, lk, W, hI, ↓reduceIte])) (by simp)
end Go.Proofs

set_option linter.unusedSimpArgs false
set_option linter.unusedVariables false
namespace Go.Proofs
open Go Go.Id
theorem least_any (l : List (List UInt8)) (s : List UInt8) : leastR l s = (validB s && !(l.any fun t => !(t == s) && impB t s)) := by
  unfold leastR
  rw [List.not_any_eq_all_not]
  congr 2
  funext t
  cases (t == s) <;> cases (impB t s) <;> rfl
theorem srt_sort (l : List (List UInt8)) : sortS (firstAll (leastR l) [] l) = srtR l := sort_inAll (leastR l) l
theorem flatS (l : List (List UInt8)) : (l.map fun x => [D.str x]).flatten = l.map .str := by
  induction l with
  | nil => rfl
  | cons a l ih => simp [ih]
theorem fr_sl (t : Nat) (l : List (List UInt8)) : ∀ e ∈ (l.map fun x => [D.str x]), ∀ d ∈ e, Fr t d := by
  simp only [List.mem_map]
  rintro e ⟨x, _, rfl⟩ d hd
  simp only [List.mem_singleton] at hd; subst hd; exact .str _
theorem sl_len (l : List (List UInt8)) : ∀ e ∈ (l.map fun x => [D.str x]), e.length = 1 := by
  simp only [List.mem_map]
  rintro e ⟨x, _, rfl⟩; rfl
theorem sortS_nil : sortS [] = [] := by simp [sortS]
theorem sortS_ne {a : List UInt8} {l : List (List UInt8)} : (sortS (a :: l)).isEmpty = false := by
  have := sortS_len (a :: l)
  cases h : sortS (a :: l) with
  | nil => rw [h] at this; simp at this
  | cons => rfl
end Go.Proofs

set_option linter.unusedSimpArgs false
set_option linter.unusedVariables false
set_option maxRecDepth 10000
namespace Go.Proofs
open Go Go.Id
set_option maxHeartbeats 4000000
end Go.Proofs

set_option linter.unusedSimpArgs false
set_option linter.unusedVariables false
set_option maxRecDepth 10000
namespace Go.Proofs
open Go Go.Id
set_option maxHeartbeats 4000000
theorem c_sorted (ls : List (List UInt8)) (nl : Bool) (hn : ls.length ≤ 1099511627776) (hnl : nl = true → ls = []) (hls : ∀ x ∈ ls, x.length ≤ 1099511627776) : CallP Pr 60 [.slice 1 nl (ls.map fun x => [.str x]) none] (.slice 1 (srtR ls).isEmpty ((srtR ls).map (fun x => [D.str x])) none) := by
 refine CallP.of_wp Tryz.func60 rfl (by kernel_rfl) Tryz.ntmps60 (by simp) ?_
 simp only [frameOf, Nat.reduceAdd, Nat.zero_add]
 refine WP.sr [0] (by kernel_rfl) fun K hK => ?_
 simp (decide := true) only [TF, ← List.map_take, ↓reduceIte, Int.reduceToNat]
 refine hK _ _ ?_; clear hK K
 refine WP.scope ?_
 refine WP.sr [0, 3] (by kernel_rfl) fun K hK => ?_
 simp (decide := true) only [TF, ← List.map_take, ↓reduceIte, Int.reduceToNat]
 refine hK _ _ ?_; clear hK K
 refine WP.seq (WP.label ?_)
 show WP _ _ _ _ _ _
 refine WP.seq ?_
 refine WP.sr [0, 3, 8, 9, 10] (by kernel_rfl) fun K hK => ?_
 simp (decide := true) only [TF, ← List.map_take, ↓reduceIte, Int.reduceToNat]
 refine hK _ _ ?_; clear hK K
 refine WP.block ?_
 refine WP.lp [0, 8, 9] (X := {x : (Nat) × (List (List UInt8)) // match x with | (k, o) => k ≤ ls.length ∧ o.length ≤ k ∧ firstAll (leastR ls) [] ls = o ++ firstAll (leastR ls) (ls.take k) (ls.drop k)}) (fun x => match x with | ⟨(k, o), _⟩ => [(3, .slice 1 o.isEmpty (o.map (fun x => [D.str x])) (some 0)), (10, .int .i64 k)]) (fun x => match x with | ⟨(k, o), _⟩ => [(0, .tip 9 1 o.length)]) (fun x => match x with | ⟨(k, o), _⟩ => ls.length - k) (by simp (decide := true) only [W, ↓reduceIte, Int.reduceToNat]; rfl) ?_ ⟨(0, []), ⟨Nat.zero_le _, Nat.zero_le _, by simp⟩⟩ ?_
 rotate_left
 · refine Weak.trans (Weak.ghost 0 9 1 (F' := [(10, .int .i64 0), (9, .int .i64 ls.length), (8, .slice 1 nl (ls.map fun x => [.str x]) none), (3, .slice 1 true [] (some 0)), (0, .slice 1 nl (ls.map fun x => [.str x]) none)]) (σ' := []) (by simp [lk, W]) (by simp [W, keep, ins, UpF, UpD]) (by simp [UpS])) ?_; exact Weak.store (by simp [St.get, lk, W, Le.refl, W]) (by simp [lk, W]) (by simp [lk]) (by simp [BClo, lk]) (by simp [lk])
 rintro ⟨⟨k, o⟩, hk, hr, hI⟩
 dsimp only
 simp only [List.cons_append, List.nil_append]
 refine WP.sr [0, 3, 8, 9, 10, 11] (by kernel_rfl) fun K hK => ?_
 simp (decide := true) only [TF, hk, ← List.map_take, ↓reduceIte, Int.reduceToNat]
 refine hK _ _ ?_; clear hK K
 refine WP.seq ?_
 refine WP.cond (b := _) rfl (fun q1 => ?_) (fun q1 => ?_)
 ·
  have hlt := lt_of_q q1
  have hg : (ls.map (fun x => [D.str x]))[k]? = some [.str ls[k]] := getM hlt
  have hnf := nl_false hnl hlt
  rw [dropE hlt] at hI
  simp only [firstAll] at hI
  refine WP.skip ?_
  show WP _ _ _ _ _ _
  refine WP.seq ?_
  refine WP.block ?_
  refine WP.sr [0, 3, 4, 5, 8, 9, 10] (by kernel_rfl) fun K hK => ?_
  simp (decide := true) only [TF, hk, q1, hg, hnf, ← List.map_take, ↓reduceIte, Int.reduceToNat]
  refine hK _ _ ?_; clear hK K
  refine WP.seq ?_
  refine WP.sr [0, 3, 5, 8, 9, 10, 24] (by kernel_rfl) fun K hK => ?_
  simp (decide := true) only [TF, hk, q1, hg, hnf, ← List.map_take, ↓reduceIte, Int.reduceToNat]
  refine CallK.pure (c_valid _ (by have := hls _ (List.getElem_mem hlt); omega)) rfl rfl (by simp [-List.map_take]) ?_
  refine runOps.take 2 fun J hJ => ?_
  simp (decide := true) only [TF, hk, q1, hg, hnf, ← List.map_take, ↓reduceIte, Int.reduceToNat]
  refine hJ _ _ ?_; clear hJ J
  refine runOps.part 18 rfl (fun q2 => ?_) (fun q2 => ?_)
  ·
   simp only [Bool.not_eq_true', Bool.not_eq_false'] at q2
   simp (decide := true) only [TF, hk, q1, hg, hnf, q2, ← List.map_take, ↓reduceIte, Int.reduceToNat]
   refine hK _ _ ?_; clear hK K
   refine WP.cond (b := true) (by rfl) (fun _ => ?_) nofun
   refine WP.exit ?_
   show WP _ _ _ _ _ _
   refine WP.region (by kernel_rfl) fun K hK => ?_
   simp (decide := true) only [TF, hk, q1, hg, hnf, q2, ← List.map_take, ↓reduceIte, Int.reduceToNat]
   refine hK _ _ ?_; clear hK K
   show ∃ y, _ ∧ Weak _ _ _
   have hO : (leastR ls ls[k] && !((ls.take k).contains ls[k])) = false := by simp only [least_any, hk, q1, hg, hnf, q2, Bool.true_and, Bool.and_true, Bool.false_and, Bool.and_false, Bool.not_true, Bool.not_false, Bool.true_or, Bool.false_or]
   rw [if_neg (by rw [hO]; decide)] at hI
   refine ⟨⟨(k + 1, o), ?_⟩, ?_, ?_⟩
   · exact ⟨by dsimp only; omega, by simp; omega, by rw [takeS hlt]; simpa using hI⟩
   · dsimp only; omega
   · exact Weak.store (by simp [St.get, lk, W, Le.refl, isEA, -List.append_assoc, hk, q1, hg, hnf, q2, wrapS hlt (show ls.length ≤ 140737488355328 by omega)]) (by simp [lk, W, -List.append_assoc, hk, q1, hg, hnf, q2]) (by simp [lk, W, clo_ap, clo_sl, clo_s1, -List.mem_append, -List.mem_map, -List.append_assoc]) (by simp [BClo, lk]) (by simp [lk])
  ·
   simp only [Bool.not_eq_true', Bool.not_eq_false'] at q2
   simp (decide := true) only [TF, hk, q1, hg, hnf, q2, ← List.map_take, ↓reduceIte, Int.reduceToNat]
   refine CallK.pure (c_contains (ls.take k) false ls[k] (by simp; omega) nofun) rfl rfl (by simp [-List.map_take]) ?_
   simp (decide := true) only [TF, hk, q1, hg, hnf, q2, ← List.map_take, ↓reduceIte, Int.reduceToNat]
   refine hK _ _ ?_; clear hK K
   refine WP.cond (b := _) rfl (fun q3 => ?_) (fun q3 => ?_)
   ·
    refine WP.exit ?_
    show WP _ _ _ _ _ _
    refine WP.region (by kernel_rfl) fun K hK => ?_
    simp (decide := true) only [TF, hk, q1, hg, hnf, q2, q3, ← List.map_take, ↓reduceIte, Int.reduceToNat]
    refine hK _ _ ?_; clear hK K
    show ∃ y, _ ∧ Weak _ _ _
    have hO : (leastR ls ls[k] && !((ls.take k).contains ls[k])) = false := by simp only [least_any, hk, q1, hg, hnf, q2, q3, Bool.true_and, Bool.and_true, Bool.false_and, Bool.and_false, Bool.not_true, Bool.not_false, Bool.true_or, Bool.false_or]
    rw [if_neg (by rw [hO]; decide)] at hI
    refine ⟨⟨(k + 1, o), ?_⟩, ?_, ?_⟩
    · exact ⟨by dsimp only; omega, by simp; omega, by rw [takeS hlt]; simpa using hI⟩
    · dsimp only; omega
    · exact Weak.store (by simp [St.get, lk, W, Le.refl, isEA, -List.append_assoc, hk, q1, hg, hnf, q2, q3, wrapS hlt (show ls.length ≤ 140737488355328 by omega)]) (by simp [lk, W, -List.append_assoc, hk, q1, hg, hnf, q2, q3]) (by simp [lk, W, clo_ap, clo_sl, clo_s1, -List.mem_append, -List.mem_map, -List.append_assoc]) (by simp [BClo, lk]) (by simp [lk])
   ·
    refine WP.skip ?_
    show WP _ _ _ _ _ _
    refine WP.seq ?_
    refine WP.sr [0, 3, 5, 8, 9, 10, 25, 26, 27] (by kernel_rfl) fun K hK => ?_
    simp (decide := true) only [TF, hk, q1, hg, hnf, q2, q3, ← List.map_take, ↓reduceIte, Int.reduceToNat]
    refine hK _ _ ?_; clear hK K
    refine WP.block ?_
    refine WP.lp [0, 3, 5, 8, 9, 10, 25, 26] (X := {j : Nat // j ≤ ls.length ∧ ls.any (fun t => !(t == ls[k]) && impB t ls[k]) = (ls.drop j).any (fun t => !(t == ls[k]) && impB t ls[k])}) (fun x => match x with | ⟨(j), _⟩ => [(27, .int .i64 j)]) (fun x => match x with | ⟨(j), _⟩ => [(0, .tip 9 1 o.length)]) (fun x => match x with | ⟨(j), _⟩ => ls.length - j) (by simp (decide := true) only [W, ↓reduceIte, Int.reduceToNat]; rfl) ?_ ⟨(0), ⟨Nat.zero_le _, by simp⟩⟩ ?_
    rotate_left
    · exact Weak.store (by simp [St.get, lk, W, Le.refl, hk, q1, hg, hnf, q2, q3]) (by simp [lk, W, hk, q1, hg, hnf, q2, q3]) (by simp [lk, W]) (by simp [BClo, lk]) (by simp [lk])
    rintro ⟨j, hk, hL⟩
    dsimp only
    simp only [List.cons_append, List.nil_append]
    refine WP.sr [0, 3, 5, 8, 9, 10, 25, 26, 27, 28] (by kernel_rfl) fun K hK => ?_
    simp (decide := true) only [TF, hk, q1, hg, hnf, q2, q3, ← List.map_take, ↓reduceIte, Int.reduceToNat]
    refine hK _ _ ?_; clear hK K
    refine WP.seq ?_
    refine WP.cond (b := _) rfl (fun q4 => ?_) (fun q4 => ?_)
    ·
     have hjl := lt_of_q q4
     have hgj : (ls.map (fun x => [D.str x]))[j]? = some [.str ls[j]] := getM hjl
     have hnfj := nl_false hnl hjl
     rw [dropE hjl] at hL
     simp only [List.any_cons] at hL
     refine WP.skip ?_
     show WP _ _ _ _ _ _
     refine WP.seq ?_
     refine WP.block ?_
     refine WP.sr [0, 3, 5, 7, 8, 9, 10, 25, 26, 27] (by kernel_rfl) fun K hK => ?_
     simp (decide := true) only [TF, hk, q1, hg, hnf, q2, q3, q4, hgj, hnfj, ← List.map_take, ↓reduceIte, Int.reduceToNat]
     refine hK _ _ ?_; clear hK K
     refine WP.sr [0, 3, 5, 8, 9, 10, 25, 26, 27, 38] (by kernel_rfl) fun K hK => ?_
     refine runOps.take 4 fun J hJ => ?_
     simp (decide := true) only [TF, hk, q1, hg, hnf, q2, q3, q4, hgj, hnfj, ← List.map_take, ↓reduceIte, Int.reduceToNat]
     refine hJ _ _ ?_; clear hJ J
     refine runOps.part 34 rfl (fun q5 => ?_) (fun q5 => ?_)
     ·
      simp (decide := true) only [TF, hk, q1, hg, hnf, q2, q3, q4, hgj, hnfj, q5, ← List.map_take, ↓reduceIte, Int.reduceToNat]
      refine CallK.pure (c_implies ls[j] ls[k] (hls _ (List.getElem_mem hjl)) (hls _ (List.getElem_mem hlt))) rfl rfl (by simp [-List.map_take]) ?_
      simp (decide := true) only [TF, hk, q1, hg, hnf, q2, q3, q4, hgj, hnfj, q5, ← List.map_take, ↓reduceIte, Int.reduceToNat]
      refine hK _ _ ?_; clear hK K
      refine WP.cond (b := _) rfl (fun q6 => ?_) (fun q6 => ?_)
      ·
       simp only [q1, q2, q3, q4, q5, q6, Bool.true_and, Bool.true_or] at hL
       refine WP.exit ?_
       show WP _ _ _ _ _ _
       refine WP.region (by kernel_rfl) fun K hK => ?_
       simp (decide := true) only [TF, hk, q1, hg, hnf, q2, q3, q4, hgj, hnfj, q5, q6, hL, ← List.map_take, ↓reduceIte, Int.reduceToNat]
       refine hK _ _ ?_; clear hK K
       show ∃ y, _ ∧ Weak _ _ _
       have hO : (leastR ls ls[k] && !((ls.take k).contains ls[k])) = false := by simp only [least_any, hk, q1, hg, hnf, q2, q3, hk, q4, hgj, hnfj, q5, q6, hL, Bool.true_and, Bool.and_true, Bool.false_and, Bool.and_false, Bool.not_true, Bool.not_false, Bool.true_or, Bool.false_or]
       rw [if_neg (by rw [hO]; decide)] at hI
       refine ⟨⟨(k + 1, o), ?_⟩, ?_, ?_⟩
       · exact ⟨by dsimp only; omega, by simp; omega, by rw [takeS hlt]; simpa using hI⟩
       · dsimp only; omega
       · exact Weak.store (by simp [St.get, lk, W, Le.refl, isEA, -List.append_assoc, hk, q1, hg, hnf, q2, q3, hk, q4, hgj, hnfj, q5, q6, hL, wrapS hlt (show ls.length ≤ 140737488355328 by omega)]) (by simp [lk, W, -List.append_assoc, hk, q1, hg, hnf, q2, q3, hk, q4, hgj, hnfj, q5, q6, hL]) (by simp [lk, W, clo_ap, clo_sl, clo_s1, -List.mem_append, -List.mem_map, -List.append_assoc]) (by simp [BClo, lk]) (by simp [lk])
      ·
       simp only [q1, q2, q3, q4, q5, q6, Bool.true_and, Bool.false_and, Bool.false_or] at hL
       refine WP.skip ?_
       show WP _ _ _ _ _ _
       refine WP.region (by kernel_rfl) fun K hK => ?_
       simp (decide := true) only [TF, hk, q1, hg, hnf, q2, q3, q4, hgj, hnfj, q5, q6, ← List.map_take, ↓reduceIte, Int.reduceToNat]
       refine hK _ _ ?_; clear hK K
       show ∃ y, _ ∧ Weak _ _ _
       refine ⟨⟨j + 1, ?_⟩, ?_, ?_⟩
       · exact ⟨by omega, by first | (simpa [hk, q1, hg, hnf, q2, q3, hk, q4, hgj, hnfj, q5, q6] using hL) | (simp_all; done)⟩
       · dsimp only; omega
       · exact Weak.store (by simp [St.get, lk, W, Le.refl, hk, q1, hg, hnf, q2, q3, hk, q4, hgj, hnfj, q5, q6, wrapS hjl (show ls.length ≤ 140737488355328 by omega)]) (by simp [lk, W, hk, q1, hg, hnf, q2, q3, hk, q4, hgj, hnfj, q5, q6, wrapS hjl (show ls.length ≤ 140737488355328 by omega)]) (by simp [lk, W]) (by simp [BClo, lk]) (by simp [lk])
     ·
      simp (decide := true) only [TF, hk, q1, hg, hnf, q2, q3, q4, hgj, hnfj, q5, ← List.map_take, ↓reduceIte, Int.reduceToNat]
      refine hK _ _ ?_; clear hK K
      refine WP.cond (b := false) (by rfl) nofun (fun _ => ?_)
      refine WP.skip ?_
      show WP _ _ _ _ _ _
      refine WP.region (by kernel_rfl) fun K hK => ?_
      simp (decide := true) only [TF, hk, q1, hg, hnf, q2, q3, q4, hgj, hnfj, q5, ← List.map_take, ↓reduceIte, Int.reduceToNat]
      refine hK _ _ ?_; clear hK K
      show ∃ y, _ ∧ Weak _ _ _
      refine ⟨⟨j + 1, ?_⟩, ?_, ?_⟩
      · exact ⟨by omega, by first | (simpa [hk, q1, hg, hnf, q2, q3, hk, q4, hgj, hnfj, q5] using hL) | (simp_all; done)⟩
      · dsimp only; omega
      · exact Weak.store (by simp [St.get, lk, W, Le.refl, hk, q1, hg, hnf, q2, q3, hk, q4, hgj, hnfj, q5, wrapS hjl (show ls.length ≤ 140737488355328 by omega)]) (by simp [lk, W, hk, q1, hg, hnf, q2, q3, hk, q4, hgj, hnfj, q5, wrapS hjl (show ls.length ≤ 140737488355328 by omega)]) (by simp [lk, W]) (by simp [BClo, lk]) (by simp [lk])
    ·
     have hjg := ge_of_q q4
     rw [dropN hjg] at hL
     simp only [List.any_nil] at hL
     refine WP.exit ?_
     show WP _ _ _ _ _ _
     refine WP.region (by kernel_rfl) fun K hK => ?_
     simp (decide := true) only [TF, hk, q1, hg, hnf, q2, q3, q4, hL, ← List.map_take, ↓reduceIte, Int.reduceToNat]
     refine ⟨⟨by simp only [List.length_append, List.length_map, List.length_cons, List.length_nil]; omega, by simp only [List.length_append, List.length_map, List.length_cons, List.length_nil]; omega⟩, ?_⟩
     refine hK _ _ ?_; clear hK K
     show WP _ _ _ _ _ _
     refine WP.region (by kernel_rfl) fun K hK => ?_
     simp (decide := true) only [TF, hk, q1, hg, hnf, q2, q3, q4, hL, ← List.map_take, ↓reduceIte, Int.reduceToNat]
     refine hK _ _ ?_; clear hK K
     show ∃ y, _ ∧ Weak _ _ _
     have hO : (leastR ls ls[k] && !((ls.take k).contains ls[k])) = true := by simp only [least_any, hk, q1, hg, hnf, q2, q3, hk, q4, hL, Bool.true_and, Bool.and_true, Bool.false_and, Bool.and_false, Bool.not_true, Bool.not_false, Bool.true_or, Bool.false_or]
     rw [if_pos hO] at hI
     refine ⟨⟨(k + 1, o ++ [ls[k]]), ?_⟩, ?_, ?_⟩
     · exact ⟨by dsimp only; omega, by simp; omega, by rw [takeS hlt]; simpa using hI⟩
     · dsimp only; omega
     · exact Weak.store (by simp [St.get, lk, W, Le.refl, isEA, -List.append_assoc, hk, q1, hg, hnf, q2, q3, hk, q4, hL, wrapS hlt (show ls.length ≤ 140737488355328 by omega)]) (by simp [lk, W, -List.append_assoc, hk, q1, hg, hnf, q2, q3, hk, q4, hL]) (by simp [lk, W, clo_ap, clo_sl, clo_s1, -List.mem_append, -List.mem_map, -List.append_assoc]) (by simp [BClo, lk]) (by simp [lk])
 ·
  have hge := ge_of_q q1
  rw [dropN hge] at hI
  simp only [firstAll] at hI
  rw [List.append_nil] at hI
  have hS : sortS o = srtR ls := by rw [← hI]; exact srt_sort ls
  refine WP.exit ?_
  show WP _ _ _ _ _ _
  rcases o with _ | ⟨a0, o0⟩
  ·
   rw [sortS_nil] at hS
   refine WP.sr [3] (by kernel_rfl) fun K hK => ?_
   simp (decide := true) only [TF, hk, q1, ← List.map_take, ↓reduceIte, Int.reduceToNat]
   refine CallK.pure (c_ssort0) rfl rfl (by simp [-List.map_take]) ?_
   simp (decide := true) only [TF, hk, q1, ← List.map_take, ↓reduceIte, Int.reduceToNat]
   refine hK _ _ ?_; clear hK K
   refine WP.sr [2] (by kernel_rfl) fun K hK => ?_
   simp (decide := true) only [TF, hk, q1, ← List.map_take, ↓reduceIte, Int.reduceToNat]
   refine hK _ _ ?_; clear hK K
   refine WP.ret ?_
   exact Ends.pure (.inr rfl) rfl ((by rw [← hS]; exact Le.fg _)) (by simp)
  ·
   refine WP.weak (st' := ⟨[(3, .arr 0 1 (a0 :: o0).length)], [(0, .arr 9 ((a0 :: o0).map .str))]⟩) ?_ ?_
   ·
    rw [← flatS (a0 :: o0)]
    exact Weak.tipArr 0 9 1 ((a0 :: o0).map fun x => [D.str x]) 3 (by simp [St.get, lk, W]) (by simp [lk, W]) (fr_sl 0 _) (by intro b hb; simp [lk, hb]) (by simp)
   refine WP.sr [3] (by kernel_rfl) fun K hK => ?_
   simp (decide := true) only [TF, hk, q1, ← List.map_take, ↓reduceIte, Int.reduceToNat]
   refine CallK.imp (c_ssort (a0 :: o0) (by omega)) rfl rfl (by simp [lk, BClo]) (by simp [lk]) (by simp [lk]) ?_
   simp (decide := true) only [TF, hk, q1, ← List.map_take, ↓reduceIte, Int.reduceToNat]
   refine hK _ _ ?_; clear hK K
   refine WP.sr [2] (by kernel_rfl) fun K hK => ?_
   simp (decide := true) only [TF, hk, q1, ← List.map_take, ↓reduceIte, Int.reduceToNat]
   refine hK _ _ ?_; clear hK K
   refine WP.weak (st' := ⟨[(2, .slice 1 false ((sortS (a0 :: o0)).map fun x => [D.str x]) (some 0))], [(0, .tip 9 1 (sortS (a0 :: o0)).length)]⟩) ?_ ?_
   ·
    refine Weak.trans (Weak.keep [2]) ?_
    simp only [keep, ins, W, ↓reduceIte, Nat.reduceEqDiff]
    exact Weak.arrTip 0 9 1 ((sortS (a0 :: o0)).map fun x => [D.str x]) 2 (by simp [St.get, lk, W, sortS_len]) (by simp [lk, W, flatS]) (sl_len _) (by simp) (by simp (decide := true) [ArF, ArD, sortS_len, hk, q1]) (by simp) (by intro i hi; simp_all [lk]) (by simp [lk]) (by simp [BClo])
   refine WP.ret ?_
   exact Ends.pure (.inr rfl) rfl ((by rw [← hS]; simp only [sortS_ne]; exact Le.fg _)) (by simp)
end Go.Proofs

set_option linter.unusedSimpArgs false
set_option linter.unusedVariables false
namespace Go.Proofs
open Go Go.Id
structure Reas where
  rule : Int
  cond : Int
  scopes : List (List UInt8)
  ns : Bool
def Reas.cs (x : Reas) : List D := [.int .i64 x.rule, .int .i64 x.cond, .slice 1 x.ns (x.scopes.map fun x => [.str x]) none]
structure Dec where
  eff : Int
  scopes : List (List UInt8)
  ns : Bool
  lvl : Int
  age : Int
  reas : List Reas
  nr : Bool
@[simp] theorem clo_reas {S : Nat → Prop} (x : Reas) : (∀ d ∈ x.cs, Clo S d) ↔ True := by
  simp only [iff_true]
  intro d hd
  simp only [Reas.cs, List.mem_cons, List.not_mem_nil, or_false] at hd
  rcases hd with rfl | rfl | rfl
  · exact .int _ _
  · exact .int _ _
  · exact .slice (by simp) (by simp)
def Reas.ok (x : Reas) : Prop := x.scopes.length ≤ 64 ∧ (x.ns = true → x.scopes = []) ∧ (∀ s ∈ x.scopes, s.length ≤ 1099511627776)
def Dec.ok (d : Dec) : Prop := d.scopes.length ≤ 64 ∧ (d.ns = true → d.scopes = []) ∧ (∀ s ∈ d.scopes, s.length ≤ 1099511627776) ∧ d.reas.length ≤ 1099511627776 ∧ (d.nr = true → d.reas = []) ∧ (∀ x ∈ d.reas, x.ok) ∧ (-9223372036854775808 ≤ d.lvl ∧ d.lvl ≤ 9223372036854775807) ∧ (-9223372036854775808 ≤ d.age ∧ d.age ≤ 9223372036854775807)

theorem jlens (m : Nat) : ∀ ls : List (List UInt8), (∀ x ∈ ls, x.length ≤ m) → Lib.lens ls ≤ ls.length * m
  | [], _ => by simp [Lib.lens]
  | x :: l, h => by
    have := jlens m l (fun y hy => h y (by simp [hy]))
    have hx := h x (by simp)
    simp only [Lib.lens, List.map_cons, List.sum_cons, List.length_cons, Nat.succ_mul] at this ⊢
    omega
theorem jlen (m : Nat) (ls : List (List UInt8)) (h : ∀ x ∈ ls, x.length ≤ m) : (Lib.join ls [32]).length ≤ ls.length * (m + 1) := by
  cases ls with
  | nil => simp [Lib.join_nil]
  | cons x r =>
    rw [Lib.join_length]
    have := jlens m (x :: r) h
    simp only [List.length_cons, List.length_nil, Nat.zero_add, Nat.one_mul] at this ⊢
    rw [Nat.mul_add]
    omega
theorem jlen64 {ls : List (List UInt8)} (h : ∀ x ∈ ls, x.length ≤ 1099511627776) (hn : ls.length ≤ 72) : (Lib.join ls [32]).length ≤ 79164837199944 := by
  have := jlen 1099511627776 ls h
  have := Nat.mul_le_mul_right (1099511627776 + 1) hn
  omega
theorem joinTail_app (s : List UInt8) (a b : List (List UInt8)) : Lib.joinTail s (a ++ b) = Lib.joinTail s a ++ Lib.joinTail s b := by simp [Lib.joinTail]
/-- What was joined before may be joined again. -/
theorem join_app (a : List UInt8) (l k : List (List UInt8)) (hk : k ≠ []) : Lib.join (a :: l ++ [Lib.join k [32]]) [32] = Lib.join (a :: l ++ k) [32] := by
  cases k with
  | nil => exact absurd rfl hk
  | cons y k =>
    rw [List.cons_append, List.cons_append, Lib.join_cons, Lib.join_cons, Lib.join_cons, joinTail_app, joinTail_app]
    simp [Lib.joinTail]

/-- The line of a reason of a rule. -/
def lineP (p : Rule) (x : Reas) : List UInt8 :=
  if (x.cond == -1) = true then (if p.deny = true then p.name ++ [32, 100, 101, 110, 105, 101, 115] else if decide ((x.scopes.length : Int) > 0) = true then p.name ++ [32, 103, 114, 97, 110, 116, 115, 32] ++ Lib.join x.scopes [32] else p.name ++ [32, 97, 112, 112, 108, 105, 101, 115])
  else if (decide (x.cond ≥ 0) && decide (x.cond < p.conds.length)) = true then (match p.conds[x.cond.toNat]? with | some c => p.name ++ [32, 102, 97, 105, 108, 115, 58, 32] ++ c.f ++ [32] ++ c.op ++ [32] ++ escB c.v | none => [63])
  else [63]
def lineX (l : List Rule) (x : Reas) : List UInt8 :=
  if (decide (x.rule < 0) || decide (x.rule ≥ l.length)) = true then [63] else (match l[x.rule.toNat]? with | some p => lineP p x | none => [63])
def endW (d : Dec) : List (List UInt8) := [[108, 101, 118, 101, 108], Lib.itoa d.lvl, [97, 103, 101], Lib.itoa d.age]
def effX (d : Dec) : List UInt8 :=
  if (d.eff == 1) = true then Lib.join ([112, 101, 114, 109, 105, 116] :: d.scopes ++ endW d) [32]
  else if (d.eff == 2) = true then [100, 101, 110, 121]
  else if (d.eff == 3) = true then [115, 116, 101, 112, 32, 117, 112, 32] ++ Lib.join (endW d) [32]
  else if (d.eff == 4) = true then [110, 111, 32, 114, 117, 108, 101]
  else [63]
def explX (l : List Rule) (d : Dec) : List (List UInt8) := d.reas.map (lineX l) ++ [effX d]
theorem endW_join (d : Dec) : Lib.join (endW d) [32] = [108, 101, 118, 101, 108, 32] ++ Lib.itoa d.lvl ++ [32, 97, 103, 101, 32] ++ Lib.itoa d.age := by
  simp [endW, Lib.join_cons, Lib.joinTail]
end Go.Proofs

set_option linter.unusedSimpArgs false
set_option linter.unusedVariables false
set_option maxRecDepth 10000
namespace Go.Proofs
open Go Go.Id
set_option maxHeartbeats 4000000
theorem c_line (l : List Rule) (nl : Bool) (x : Reas) (hnl : nl = true → l = []) (hl : ∀ p ∈ l, p.ok) (hx : x.ok) : CallP Pr 41 [.slice 6 nl (l.map Rule.cs) none, .agg [.int .i64 x.rule, .int .i64 x.cond, .slice 1 x.ns (x.scopes.map fun x => [.str x]) none]] (.str (lineX l x)) := by
 refine CallP.of_wp Tryz.func41 rfl (by kernel_rfl) Tryz.ntmps41 (by simp) ?_
 simp only [frameOf, Nat.reduceAdd, Nat.zero_add]
 refine WP.sr [0, 3] (by kernel_rfl) fun K hK => ?_
 simp (decide := true) only [TF, ↓reduceIte, Int.reduceToNat]
 refine hK _ _ ?_; clear hK K
 refine WP.seq ?_
 refine WP.sr [0, 3, 16] (by kernel_rfl) fun K hK => ?_
 refine runOps.take 4 fun J hJ => ?_
 simp (decide := true) only [TF, ↓reduceIte, Int.reduceToNat]
 refine hJ _ _ ?_; clear hJ J
 refine runOps.part 10 rfl (fun q1 => ?_) (fun q1 => ?_)
 ·
  have hX : lineX l x = [63] := by simp only [lineX, q1, Bool.true_or, Bool.or_true, ↓reduceIte]
  simp (decide := true) only [TF, q1, hX, ↓reduceIte, Int.reduceToNat]
  refine hK _ _ ?_; clear hK K
  refine WP.cond (b := true) (by rfl) (fun _ => ?_) nofun
  refine WP.sr [4] (by kernel_rfl) fun K hK => ?_
  simp (decide := true) only [TF, q1, hX, ↓reduceIte, Int.reduceToNat]
  refine hK _ _ ?_; clear hK K
  refine WP.ret ?_
  exact Ends.pure (.inr rfl) rfl (Le.of_eq (by simp (decide := true) only [St.get, lk, W, lineP, q1, hX, ↓reduceIte])) (by simp)
 ·
  simp (decide := true) only [TF, q1, ↓reduceIte, Int.reduceToNat]
  refine hK _ _ ?_; clear hK K
  refine WP.cond (b := _) rfl (fun q2 => ?_) (fun q2 => ?_)
  ·
   have hX : lineX l x = [63] := by simp only [lineX, q1, q2, Bool.true_or, Bool.or_true, ↓reduceIte]
   refine WP.sr [4] (by kernel_rfl) fun K hK => ?_
   simp (decide := true) only [TF, q1, q2, hX, ↓reduceIte, Int.reduceToNat]
   refine hK _ _ ?_; clear hK K
   refine WP.ret ?_
   exact Ends.pure (.inr rfl) rfl (Le.of_eq (by simp (decide := true) only [St.get, lk, W, lineP, q1, q2, hX, ↓reduceIte])) (by simp)
  ·
   have h0 : 0 ≤ x.rule := by have := of_decide_eq_false q1; omega
   have hlt : x.rule.toNat < l.length := by have := of_decide_eq_false q1; have := of_decide_eq_false q2; omega
   have hg : (l.map Rule.cs)[x.rule.toNat]? = some [.str l[x.rule.toNat].name, .bool l[x.rule.toNat].deny, .slice 3 l[x.rule.toNat].nc (l[x.rule.toNat].conds.map Cond.cs) none, .slice 1 l[x.rule.toNat].ns (l[x.rule.toNat].scopes.map fun x => [.str x]) none, .int .i64 l[x.rule.toNat].lvl, .int .i64 l[x.rule.toNat].age] := getM hlt
   have hnf := nl_false hnl hlt
   have hX : lineX l x = lineP l[x.rule.toNat] x := by simp only [lineX, q1, q2, Bool.or_false, Bool.false_eq_true, ↓reduceIte, getE hlt]
   have hpo := hl _ (List.getElem_mem hlt)
   have hpn := hpo.2.1
   have hjx := jlen64 hx.2.2 (by have := hx.1; omega)
   refine WP.skip ?_
   show WP _ _ _ _ _ _
   refine WP.sr [3, 5] (by kernel_rfl) fun K hK => ?_
   simp (decide := true) only [TF, q1, q2, h0, hg, hnf, hX, ↓reduceIte, Int.reduceToNat]
   refine hK _ _ ?_; clear hK K
   refine WP.seq ?_
   refine WP.block ?_
   refine WP.sr [3, 5, 22] (by kernel_rfl) fun K hK => ?_
   refine runOps.take 4 fun J hJ => ?_
   simp (decide := true) only [TF, q1, q2, h0, hg, hnf, hX, ↓reduceIte, Int.reduceToNat]
   refine hJ _ _ ?_; clear hJ J
   refine runOps.part 26 rfl (fun q3 => ?_) (fun q3 => ?_)
   ·
    simp (decide := true) only [TF, q1, q2, h0, hg, hnf, hX, q3, ↓reduceIte, Int.reduceToNat]
    refine hK _ _ ?_; clear hK K
    refine WP.cond (b := _) rfl (fun q4 => ?_) (fun q4 => ?_)
    ·
     refine WP.sr [4] (by kernel_rfl) fun K hK => ?_
     simp (decide := true) only [TF, q1, q2, h0, hg, hnf, hX, q3, q4, ↓reduceIte, Int.reduceToNat]
     repeat (refine ⟨by (try simp only [List.length_append, List.length_cons, List.length_nil]); omega, ?_⟩)
     refine hK _ _ ?_; clear hK K
     refine WP.ret ?_
     exact Ends.pure (.inr rfl) rfl (Le.of_eq (by simp (decide := true) only [St.get, lk, W, lineP, q1, q2, h0, hg, hnf, hX, q3, q4, ↓reduceIte])) (by simp)
    ·
     refine WP.sr [3, 5, 33] (by kernel_rfl) fun K hK => ?_
     simp (decide := true) only [TF, q1, q2, h0, hg, hnf, hX, q3, q4, ↓reduceIte, Int.reduceToNat]
     refine hK _ _ ?_; clear hK K
     refine WP.cond (b := _) rfl (fun q5 => ?_) (fun q5 => ?_)
     ·
      refine WP.sd [4] (by kernel_rfl) (by kernel_rfl) fun K hK => ?_
      simp (decide := true) only [TF, q1, q2, h0, hg, hnf, hX, q3, q4, q5, ↓reduceIte, Int.reduceToNat]
      repeat (refine ⟨by (try simp only [List.length_append, List.length_cons, List.length_nil]); omega, ?_⟩)
      refine CallK.pure (lib_join x.scopes x.ns [32] (by have := hx.1; omega) (by omega)) rfl rfl (by simp [-List.map_take]) ?_
      simp (decide := true) only [TF, q1, q2, h0, hg, hnf, hX, q3, q4, q5, ↓reduceIte, Int.reduceToNat]
      repeat (refine ⟨by (try simp only [List.length_append, List.length_cons, List.length_nil]); omega, ?_⟩)
      refine hK _ _ (by kernel_rfl) ?_
      clear hK K
      refine WP.ret ?_
      exact Ends.pure (.inr rfl) rfl (Le.of_eq (by simp (decide := true) only [St.get, lk, W, lineP, q1, q2, h0, hg, hnf, hX, q3, q4, q5, ↓reduceIte])) (by simp)
     ·
      refine WP.sr [3, 5, 50] (by kernel_rfl) fun K hK => ?_
      simp (decide := true) only [TF, q1, q2, h0, hg, hnf, hX, q3, q4, q5, ↓reduceIte, Int.reduceToNat]
      refine hK _ _ ?_; clear hK K
      refine WP.cond (b := true) (by rfl) (fun _ => ?_) nofun
      refine WP.sr [4] (by kernel_rfl) fun K hK => ?_
      simp (decide := true) only [TF, q1, q2, h0, hg, hnf, hX, q3, q4, q5, ↓reduceIte, Int.reduceToNat]
      repeat (refine ⟨by (try simp only [List.length_append, List.length_cons, List.length_nil]); omega, ?_⟩)
      refine hK _ _ ?_; clear hK K
      refine WP.ret ?_
      exact Ends.pure (.inr rfl) rfl (Le.of_eq (by simp (decide := true) only [St.get, lk, W, lineP, q1, q2, h0, hg, hnf, hX, q3, q4, q5, ↓reduceIte])) (by simp)
   ·
    simp (decide := true) only [TF, q1, q2, h0, hg, hnf, hX, q3, ↓reduceIte, Int.reduceToNat]
    refine hK _ _ ?_; clear hK K
    refine WP.cond (b := false) (by rfl) nofun (fun _ => ?_)
    refine WP.sr [3, 5, 33] (by kernel_rfl) fun K hK => ?_
    simp (decide := true) only [TF, q1, q2, h0, hg, hnf, hX, q3, ↓reduceIte, Int.reduceToNat]
    refine hK _ _ ?_; clear hK K
    refine WP.cond (b := false) (by rfl) nofun (fun _ => ?_)
    refine WP.sr [3, 5, 50] (by kernel_rfl) fun K hK => ?_
    simp (decide := true) only [TF, q1, q2, h0, hg, hnf, hX, q3, ↓reduceIte, Int.reduceToNat]
    refine hK _ _ ?_; clear hK K
    refine WP.cond (b := false) (by rfl) nofun (fun _ => ?_)
    refine WP.sr [3, 5, 57] (by kernel_rfl) fun K hK => ?_
    refine runOps.take 4 fun J hJ => ?_
    simp (decide := true) only [TF, q1, q2, h0, hg, hnf, hX, q3, ↓reduceIte, Int.reduceToNat]
    refine hJ _ _ ?_; clear hJ J
    refine runOps.part 61 rfl (fun q6 => ?_) (fun q6 => ?_)
    ·
     simp (decide := true) only [TF, q1, q2, h0, hg, hnf, hX, q3, q6, ↓reduceIte, Int.reduceToNat]
     refine hK _ _ ?_; clear hK K
     refine WP.cond (b := _) rfl (fun q7 => ?_) (fun q7 => ?_)
     ·
      have hc0 : 0 ≤ x.cond := by have := of_decide_eq_true q6; omega
      have hcl : x.cond.toNat < l[x.rule.toNat].conds.length := by have := of_decide_eq_true q6; have := of_decide_eq_true q7; omega
      have hgc : (l[x.rule.toNat].conds.map Cond.cs)[x.cond.toNat]? = some [.str l[x.rule.toNat].conds[x.cond.toNat].f, .str l[x.rule.toNat].conds[x.cond.toNat].op, .str l[x.rule.toNat].conds[x.cond.toNat].v] := getM hcl
      have hge := getE hcl
      have hnc := nl_false hpo.1.2.1 hcl
      obtain ⟨hc1, hc2, hc3⟩ := hpo.2.2.1 _ (List.getElem_mem hcl)
      have hec := escB_len (l[x.rule.toNat].conds[x.cond.toNat]).v
      have hd1 : decide (x.cond ≥ 0) = true := decide_eq_true (by omega)
      have hd2 : decide (x.cond < (l[x.rule.toNat].conds.length : Int)) = true := decide_eq_true (by omega)
      refine WP.sr [5, 6] (by kernel_rfl) fun K hK => ?_
      simp (decide := true) only [TF, q1, q2, h0, hg, hnf, hX, q3, q6, q7, hc0, hgc, hge, hnc, hd1, hd2, ↓reduceIte, Int.reduceToNat]
      refine hK _ _ ?_; clear hK K
      refine WP.sd [4] (by kernel_rfl) (by kernel_rfl) fun K hK => ?_
      simp (decide := true) only [TF, q1, q2, h0, hg, hnf, hX, q3, q6, q7, hc0, hgc, hge, hnc, hd1, hd2, ↓reduceIte, Int.reduceToNat]
      repeat (refine ⟨by (try simp only [List.length_append, List.length_cons, List.length_nil]); omega, ?_⟩)
      refine CallK.pure (c_escape _ (by omega)) rfl rfl (by simp [-List.map_take]) ?_
      simp (decide := true) only [TF, q1, q2, h0, hg, hnf, hX, q3, q6, q7, hc0, hgc, hge, hnc, hd1, hd2, ↓reduceIte, Int.reduceToNat]
      repeat (refine ⟨by (try simp only [List.length_append, List.length_cons, List.length_nil]); omega, ?_⟩)
      refine hK _ _ (by kernel_rfl) ?_
      clear hK K
      refine WP.ret ?_
      exact Ends.pure (.inr rfl) rfl (Le.of_eq (by simp (decide := true) only [St.get, lk, W, lineP, q1, q2, h0, hg, hnf, hX, q3, q6, q7, hc0, hgc, hge, hnc, hd1, hd2, ↓reduceIte])) (by simp)
     ·
      refine WP.skip ?_
      show WP _ _ _ _ _ _
      refine WP.sr [4] (by kernel_rfl) fun K hK => ?_
      simp (decide := true) only [TF, q1, q2, h0, hg, hnf, hX, q3, q6, q7, ↓reduceIte, Int.reduceToNat]
      refine hK _ _ ?_; clear hK K
      refine WP.ret ?_
      exact Ends.pure (.inr rfl) rfl (Le.of_eq (by simp (decide := true) only [St.get, lk, W, lineP, q1, q2, h0, hg, hnf, hX, q3, q6, q7, ↓reduceIte])) (by simp)
    ·
     have hd1 : decide (x.cond ≥ 0) = false := q6
     simp (decide := true) only [TF, q1, q2, h0, hg, hnf, hX, q3, q6, hd1, ↓reduceIte, Int.reduceToNat]
     refine hK _ _ ?_; clear hK K
     refine WP.cond (b := false) (by rfl) nofun (fun _ => ?_)
     refine WP.skip ?_
     show WP _ _ _ _ _ _
     refine WP.sr [4] (by kernel_rfl) fun K hK => ?_
     simp (decide := true) only [TF, q1, q2, h0, hg, hnf, hX, q3, q6, hd1, ↓reduceIte, Int.reduceToNat]
     refine hK _ _ ?_; clear hK K
     refine WP.ret ?_
     exact Ends.pure (.inr rfl) rfl (Le.of_eq (by simp (decide := true) only [St.get, lk, W, lineP, q1, q2, h0, hg, hnf, hX, q3, q6, hd1, ↓reduceIte])) (by simp)
end Go.Proofs

set_option linter.unusedSimpArgs false
set_option linter.unusedVariables false
set_option maxRecDepth 10000
namespace Go.Proofs
open Go Go.Id
set_option maxHeartbeats 4000000
theorem endW_le {d : Dec} (h1 : (Lib.itoa d.lvl).length ≤ 21) (h2 : (Lib.itoa d.age).length ≤ 21) : ∀ x ∈ endW d, x.length ≤ 1099511627776 := by
 simp only [endW, List.mem_cons, List.not_mem_nil, or_false]
 rintro x (rfl | rfl | rfl | rfl)
 · decide
 · omega
 · decide
 · omega
theorem c_effect (d : Dec) (hd : d.ok) : CallP Pr 42 [.agg [.int .i64 d.eff, .slice 1 d.ns (d.scopes.map fun x => [.str x]) none, .int .i64 d.lvl, .int .i64 d.age, .slice 3 d.nr (d.reas.map Reas.cs) none]] (.str (effX d)) := by
 have hj1 := Lib.itoa_length_le d.lvl hd.2.2.2.2.2.2.1.1 hd.2.2.2.2.2.2.1.2
 have hj2 := Lib.itoa_length_le d.age hd.2.2.2.2.2.2.2.1 hd.2.2.2.2.2.2.2.2
 have hes := endW_le (d := d) hj1 hj2
 have hsl := hd.1
 have hjE : (Lib.join (endW d) [32]).length ≤ 79164837199944 := jlen64 hes (by simp [endW])
 have hjS : (Lib.join ([112, 101, 114, 109, 105, 116] :: d.scopes ++ endW d) [32]).length ≤ 79164837199944 := jlen64 (by simp only [List.mem_append, List.mem_cons]; rintro x ((rfl | h) | h); simp; exact hd.2.2.1 x h; exact hes x h) (by simp [endW]; omega)
 have hjA := join_app [112, 101, 114, 109, 105, 116] d.scopes (endW d) (by simp [endW])
 rw [endW_join] at hjA
 have hjW := endW_join d
 have hjN : (Lib.join (endW d) [32]).length = ([108, 101, 118, 101, 108, 32] ++ Lib.itoa d.lvl ++ [32, 97, 103, 101, 32] ++ Lib.itoa d.age).length := by rw [hjW]
 refine CallP.of_wp Tryz.func42 rfl (by kernel_rfl) Tryz.ntmps42 (by simp) ?_
 simp only [frameOf, Nat.reduceAdd, Nat.zero_add]
 refine WP.sr [1] (by kernel_rfl) fun K hK => ?_
 simp (decide := true) only [TF, ↓reduceIte, Int.reduceToNat]
 refine hK _ _ ?_; clear hK K
 refine WP.sd [1, 3] (by kernel_rfl) (by kernel_rfl) fun K hK => ?_
 simp (decide := true) only [TF, ↓reduceIte, Int.reduceToNat]
 refine CallK.pure (c_int d.lvl hd.2.2.2.2.2.2.1.1 hd.2.2.2.2.2.2.1.2) rfl rfl (by simp [-List.map_take]) ?_
 simp (decide := true) only [TF, ↓reduceIte, Int.reduceToNat]
 refine CallK.pure (c_int d.age hd.2.2.2.2.2.2.2.1 hd.2.2.2.2.2.2.2.2) rfl rfl (by simp [-List.map_take]) ?_
 simp (decide := true) only [TF, ↓reduceIte, Int.reduceToNat]
 refine hK _ _ (by kernel_rfl) ?_
 clear hK K
 refine WP.seq ?_
 refine WP.sr [1, 3, 12] (by kernel_rfl) fun K hK => ?_
 simp (decide := true) only [TF, ↓reduceIte, Int.reduceToNat]
 refine hK _ _ ?_; clear hK K
 refine WP.block ?_
 refine WP.sr [1, 3, 12, 13] (by kernel_rfl) fun K hK => ?_
 simp (decide := true) only [TF, ↓reduceIte, Int.reduceToNat]
 refine hK _ _ ?_; clear hK K
 refine WP.cond (b := _) rfl (fun q1 => ?_) (fun q1 => ?_)
 ·
  refine WP.sr [2] (by kernel_rfl) fun K hK => ?_
  simp (decide := true) only [TF, q1, ↓reduceIte, Int.reduceToNat]
  repeat (refine ⟨⟨by (try simp only [List.length_append, List.length_map, List.length_cons, List.length_nil]); omega, by (try simp only [List.length_append, List.length_map, List.length_cons, List.length_nil]); omega⟩, ?_⟩)
  refine CallK.pure (lib_join ([112, 101, 114, 109, 105, 116] :: d.scopes ++ endW d) false [32] (by simp [endW]; omega) (by omega)) rfl ?_ ?_ ?_
  · simp [endW, fg]
  · intro d hd; simp only [List.mem_cons, List.not_mem_nil, or_false] at hd; rcases hd with rfl | rfl; exact .slice ((clo_sl _).2 trivial) nofun; exact .str _
  simp (decide := true) only [TF, q1, ↓reduceIte, Int.reduceToNat]
  refine hK _ _ ?_; clear hK K
  refine WP.ret ?_
  exact Ends.pure (.inr rfl) rfl (Le.of_eq (by simp (decide := true) only [St.get, lk, W, effX, endW, q1, ↓reduceIte])) (by simp)
 ·
  refine WP.sr [3, 12, 22] (by kernel_rfl) fun K hK => ?_
  simp (decide := true) only [TF, q1, ↓reduceIte, Int.reduceToNat]
  refine hK _ _ ?_; clear hK K
  refine WP.cond (b := _) rfl (fun q2 => ?_) (fun q2 => ?_)
  ·
   refine WP.sr [2] (by kernel_rfl) fun K hK => ?_
   simp (decide := true) only [TF, q1, q2, ↓reduceIte, Int.reduceToNat]
   refine hK _ _ ?_; clear hK K
   refine WP.ret ?_
   exact Ends.pure (.inr rfl) rfl (Le.of_eq (by simp (decide := true) only [St.get, lk, W, effX, endW, q1, q2, ↓reduceIte])) (by simp)
  ·
   refine WP.sr [3, 12, 24] (by kernel_rfl) fun K hK => ?_
   simp (decide := true) only [TF, q1, q2, ↓reduceIte, Int.reduceToNat]
   refine hK _ _ ?_; clear hK K
   refine WP.cond (b := _) rfl (fun q3 => ?_) (fun q3 => ?_)
   ·
    refine WP.sr [2] (by kernel_rfl) fun K hK => ?_
    simp (decide := true) only [TF, q1, q2, q3, ↓reduceIte, Int.reduceToNat]
    refine CallK.pure (lib_join (endW d) false [32] (by simp [endW]) (by omega)) rfl rfl (by simp [endW]) ?_
    simp (decide := true) only [TF, q1, q2, q3, ↓reduceIte, Int.reduceToNat]
    repeat (refine ⟨by (try simp only [List.length_append, List.length_cons, List.length_nil]); omega, ?_⟩)
    refine hK _ _ ?_; clear hK K
    refine WP.ret ?_
    exact Ends.pure (.inr rfl) rfl (Le.of_eq (by simp (decide := true) only [St.get, lk, W, effX, endW, q1, q2, q3, ↓reduceIte])) (by simp)
   ·
    refine WP.sr [29] (by kernel_rfl) fun K hK => ?_
    simp (decide := true) only [TF, q1, q2, q3, ↓reduceIte, Int.reduceToNat]
    refine hK _ _ ?_; clear hK K
    refine WP.cond (b := _) rfl (fun q4 => ?_) (fun q4 => ?_)
    ·
     refine WP.sr [2] (by kernel_rfl) fun K hK => ?_
     simp (decide := true) only [TF, q1, q2, q3, q4, ↓reduceIte, Int.reduceToNat]
     refine hK _ _ ?_; clear hK K
     refine WP.ret ?_
     exact Ends.pure (.inr rfl) rfl (Le.of_eq (by simp (decide := true) only [St.get, lk, W, effX, endW, q1, q2, q3, q4, ↓reduceIte])) (by simp)
    ·
     refine WP.skip ?_
     show WP _ _ _ _ _ _
     refine WP.sr [2] (by kernel_rfl) fun K hK => ?_
     simp (decide := true) only [TF, q1, q2, q3, q4, ↓reduceIte, Int.reduceToNat]
     refine hK _ _ ?_; clear hK K
     refine WP.ret ?_
     exact Ends.pure (.inr rfl) rfl (Le.of_eq (by simp (decide := true) only [St.get, lk, W, effX, endW, q1, q2, q3, q4, ↓reduceIte])) (by simp)
theorem c_minus (ls ks : List (List UInt8)) (na nl : Bool) (hna : ls.length ≤ 1099511627776) (hnal : na = true → ls = []) (hxs : ∀ x ∈ ls, x.length ≤ 1099511627776) (hn : ks.length ≤ 1099511627776) (hnl : nl = true → ks = []) (hks : ∀ x ∈ ks, x.length ≤ 1099511627776) : CallP Pr 45 [.slice 1 na (ls.map fun x => [.str x]) none, .slice 1 nl (ks.map fun x => [.str x]) none] (.slice 1 (srtR (ls.filter (fun s => !(covB s ks)))).isEmpty ((srtR (ls.filter (fun s => !(covB s ks)))).map (fun x => [D.str x])) none) := by
 refine CallP.of_wp Tryz.func45 rfl (by kernel_rfl) Tryz.ntmps45 (by simp) ?_
 simp only [frameOf, Nat.reduceAdd, Nat.zero_add]
 refine WP.sr [0, 1] (by kernel_rfl) fun K hK => ?_
 simp (decide := true) only [TF, ↓reduceIte, Int.reduceToNat]
 refine hK _ _ ?_; clear hK K
 refine WP.sr [0, 1, 5] (by kernel_rfl) fun K hK => ?_
 simp (decide := true) only [TF, ↓reduceIte, Int.reduceToNat]
 refine hK _ _ ?_; clear hK K
 refine WP.seq ?_
 refine WP.sr [1, 5, 8, 9, 10] (by kernel_rfl) fun K hK => ?_
 simp (decide := true) only [TF, ↓reduceIte, Int.reduceToNat]
 refine hK _ _ ?_; clear hK K
 refine WP.block ?_
 refine WP.lp [1, 8, 9] (X := {x : (Nat) × (List (List UInt8)) // match x with | (k, o) => k ≤ ls.length ∧ o.length ≤ k ∧ ls.filter (fun s => !(covB s ks)) = o ++ (ls.drop k).filter (fun s => !(covB s ks))}) (fun x => match x with | ⟨(k, o), _⟩ => [(5, .slice 1 o.isEmpty (o.map (fun x => [D.str x])) (some 0)), (10, .int .i64 k)]) (fun x => match x with | ⟨(k, o), _⟩ => [(0, .tip 9 1 o.length)]) (fun x => match x with | ⟨(k, o), _⟩ => ls.length - k) (by simp (decide := true) only [W, ↓reduceIte, Int.reduceToNat]; rfl) ?_ ⟨(0, []), ⟨Nat.zero_le _, Nat.zero_le _, by simp⟩⟩ ?_
 rotate_left
 · refine Weak.trans (Weak.ghost 0 9 1 (F' := [(10, .int .i64 0), (9, .int .i64 ls.length), (8, .slice 1 na (ls.map fun x => [.str x]) none), (5, .slice 1 true [] (some 0)), (1, .slice 1 nl (ks.map fun x => [.str x]) none)]) (σ' := []) (by simp [lk, W]) (by simp [W, keep, ins, UpF, UpD]) (by simp [UpS])) ?_; exact Weak.store (by simp [St.get, lk, W, Le.refl, W]) (by simp [lk, W]) (by simp [lk]) (by simp [BClo, lk]) (by simp [lk])
 rintro ⟨⟨k, o⟩, hk, hr, hI⟩
 dsimp only
 simp only [List.cons_append, List.nil_append]
 refine WP.sr [1, 5, 8, 9, 10, 11] (by kernel_rfl) fun K hK => ?_
 simp (decide := true) only [TF, hk, ↓reduceIte, Int.reduceToNat]
 refine hK _ _ ?_; clear hK K
 refine WP.seq ?_
 refine WP.cond (b := _) rfl (fun q1 => ?_) (fun q1 => ?_)
 ·
  have hlt := lt_of_q q1
  have hg : (ls.map (fun x => [D.str x]))[k]? = some [.str ls[k]] := getM hlt
  have hnf := nl_false hnal hlt
  rw [dropE hlt] at hI
  simp only [List.filter_cons] at hI
  refine WP.skip ?_
  show WP _ _ _ _ _ _
  refine WP.seq ?_
  refine WP.block ?_
  refine WP.sr [1, 5, 7, 8, 9, 10] (by kernel_rfl) fun K hK => ?_
  simp (decide := true) only [TF, hk, q1, hg, hnf, ↓reduceIte, Int.reduceToNat]
  refine hK _ _ ?_; clear hK K
  refine WP.sr [1, 5, 7, 8, 9, 10, 17] (by kernel_rfl) fun K hK => ?_
  simp (decide := true) only [TF, hk, q1, hg, hnf, ↓reduceIte, Int.reduceToNat]
  refine CallK.pure (c_covered ls[k] ks nl (hxs _ (List.getElem_mem hlt)) hn hnl hks) rfl rfl (by simp [-List.map_take]) ?_
  simp (decide := true) only [TF, hk, q1, hg, hnf, ↓reduceIte, Int.reduceToNat]
  refine hK _ _ ?_; clear hK K
  refine WP.cond (b := _) rfl (fun q2 => ?_) (fun q2 => ?_)
  ·
   simp only [Bool.not_eq_true', Bool.not_eq_false'] at q2
   refine WP.region (by kernel_rfl) fun K hK => ?_
   simp (decide := true) only [TF, hk, q1, hg, hnf, q2, ↓reduceIte, Int.reduceToNat]
   refine ⟨⟨by simp only [List.length_append, List.length_map, List.length_cons, List.length_nil]; omega, by simp only [List.length_append, List.length_map, List.length_cons, List.length_nil]; omega⟩, ?_⟩
   refine hK _ _ ?_; clear hK K
   show WP _ _ _ _ _ _
   refine WP.region (by kernel_rfl) fun K hK => ?_
   simp (decide := true) only [TF, hk, q1, hg, hnf, q2, ↓reduceIte, Int.reduceToNat]
   refine hK _ _ ?_; clear hK K
   show ∃ y, _ ∧ Weak _ _ _
   refine ⟨⟨(k + 1, o ++ [ls[k]]), ?_⟩, ?_, ?_⟩
   · exact ⟨by dsimp only; omega, by simp; omega, by simpa [q1, q2] using hI⟩
   · dsimp only; omega
   · exact Weak.store (by simp [St.get, lk, W, Le.refl, isEA, -List.append_assoc, hk, q1, hg, hnf, q2, wrapS hlt (show ls.length ≤ 140737488355328 by omega)]) (by simp [lk, W, -List.append_assoc, hk, q1, hg, hnf, q2]) (by simp [lk, W, clo_ap, clo_sl, clo_s1, -List.mem_append, -List.mem_map, -List.append_assoc]) (by simp [BClo, lk]) (by simp [lk])
  ·
   simp only [Bool.not_eq_true', Bool.not_eq_false'] at q2
   refine WP.skip ?_
   show WP _ _ _ _ _ _
   refine WP.region (by kernel_rfl) fun K hK => ?_
   simp (decide := true) only [TF, hk, q1, hg, hnf, q2, ↓reduceIte, Int.reduceToNat]
   refine hK _ _ ?_; clear hK K
   show ∃ y, _ ∧ Weak _ _ _
   refine ⟨⟨(k + 1, o), ?_⟩, ?_, ?_⟩
   · exact ⟨by dsimp only; omega, by simp; omega, by simpa [q1, q2] using hI⟩
   · dsimp only; omega
   · exact Weak.store (by simp [St.get, lk, W, Le.refl, isEA, -List.append_assoc, hk, q1, hg, hnf, q2, wrapS hlt (show ls.length ≤ 140737488355328 by omega)]) (by simp [lk, W, -List.append_assoc, hk, q1, hg, hnf, q2]) (by simp [lk, W, clo_ap, clo_sl, clo_s1, -List.mem_append, -List.mem_map, -List.append_assoc]) (by simp [BClo, lk]) (by simp [lk])
 ·
  have hge := ge_of_q q1
  rw [dropN hge] at hI
  simp only [List.filter_nil] at hI
  rw [List.append_nil] at hI
  have hol : ∀ x ∈ o, x.length ≤ 1099511627776 := fun x hx => hxs x ((List.mem_filter.1 (hI ▸ hx)).1)
  have hon : o.isEmpty = true → o = [] := by cases o <;> simp
  refine WP.exit ?_
  show WP _ _ _ _ _ _
  refine WP.sr [4] (by kernel_rfl) fun K hK => ?_
  simp (decide := true) only [TF, hk, q1, ↓reduceIte, Int.reduceToNat]
  refine CallK.pure (c_sorted o o.isEmpty (by omega) hon hol) rfl rfl (by simp [-List.map_take]) ?_
  simp (decide := true) only [TF, hk, q1, ↓reduceIte, Int.reduceToNat]
  refine hK _ _ ?_; clear hK K
  refine WP.ret ?_
  exact Ends.pure (.inr rfl) rfl ((by rw [hI]; exact Le.fg _)) (by simp)
end Go.Proofs

set_option linter.unusedSimpArgs false
set_option linter.unusedVariables false
namespace Go.Proofs
open Go Go.Id
theorem insR_split {o : List (List UInt8)} {s : List UInt8} {j : Nat} (ha : Asc o) (h1 : ∀ x ∈ o.take j, Op.bytesLess x s = true) (h2 : ∀ x ∈ o.drop j, Op.bytesLess x s = false) : insR o s = o.take j ++ [s] ++ (o.drop j).filter (fun x => Op.bytesLess s x) := by
  rw [insR_eq s ha]
  have e : ∀ p : List UInt8 → Bool, o.filter p = (o.take j).filter p ++ (o.drop j).filter p := fun p => by rw [← List.filter_append, List.take_append_drop]
  rw [e, e (fun x => Op.bytesLess s x), List.filter_eq_self.2 h1, List.filter_eq_nil_iff.2 (fun x hx => by rw [h2 x hx]; simp), List.append_nil, List.filter_eq_nil_iff.2 (fun x hx => by rw [bl_asymm _ _ (h1 x hx)]; simp), List.nil_append]
theorem insR_end {o : List (List UInt8)} {s : List UInt8} {j : Nat} (ha : Asc o) (h1 : ∀ x ∈ o.take j, Op.bytesLess x s = true) (hj : o.length ≤ j) : insR o s = o.take j ++ [s] ++ o.drop j := by
  rw [insR_split ha h1 (by rw [List.drop_eq_nil_of_le hj]; simp), List.drop_eq_nil_of_le hj]; rfl
theorem drop_ge {o : List (List UInt8)} {s : List UInt8} {j : Nat} (ha : Asc o) (hj : j < o.length) (h : Op.bytesLess o[j] s = false) : ∀ x ∈ o.drop j, Op.bytesLess x s = false := by
  rw [dropE hj]
  intro x hx
  rcases List.mem_cons.1 hx with rfl | hx
  · exact h
  · have hp : Asc (o.drop j) := List.Pairwise.sublist (List.drop_sublist j o) ha
    rw [dropE hj] at hp
    have := hp.head x hx
    cases hb : Op.bytesLess x s
    · rfl
    · have := bl_trans _ _ _ this hb
      rw [h] at this; cases this
theorem insR_eqv {o : List (List UInt8)} {s : List UInt8} {j : Nat} (ha : Asc o) (h1 : ∀ x ∈ o.take j, Op.bytesLess x s = true) (hj : j < o.length) (h : Op.bytesLess o[j] s = false) (he : (o[j] == s) = true) : insR o s = o := by
  have he' : o[j] = s := by simpa using he
  have hp : Asc (o.drop j) := List.Pairwise.sublist (List.drop_sublist j o) ha
  rw [dropE hj] at hp
  rw [insR_split ha h1 (drop_ge ha hj h), dropE hj, List.filter_cons_of_neg (by rw [he', bl_irrefl]; simp), List.filter_eq_self.2 (fun x hx => by rw [← he']; exact hp.head x hx), ← he', List.append_assoc]
  show o.take j ++ (o[j] :: o.drop (j + 1)) = o
  rw [← dropE hj, List.take_append_drop]
theorem insR_mid {o : List (List UInt8)} {s : List UInt8} {j : Nat} (ha : Asc o) (h1 : ∀ x ∈ o.take j, Op.bytesLess x s = true) (hj : j < o.length) (h : Op.bytesLess o[j] s = false) (he : (o[j] == s) = false) : insR o s = o.take j ++ [s] ++ o.drop j := by
  have he' : o[j] ≠ s := by simpa using he
  have hs : Op.bytesLess s o[j] = true := by
    rcases bl_tri o[j] s with q | q | q
    · rw [h] at q; cases q
    · exact absurd q he'
    · exact q
  have hp : Asc (o.drop j) := List.Pairwise.sublist (List.drop_sublist j o) ha
  rw [dropE hj] at hp
  rw [insR_split ha h1 (drop_ge ha hj h), List.filter_eq_self.2]
  intro x hx
  rw [dropE hj] at hx
  rcases List.mem_cons.1 hx with rfl | hx
  · exact hs
  · exact bl_trans _ _ _ hs (hp.head x hx)
/-- In ascending order, each once. -/
def ascL (l : List (List UInt8)) : List (List UInt8) := l.foldl insR []
theorem ascL_spec (l : List (List UInt8)) : Asc (ascL l) ∧ ∀ x, x ∈ ascL l ↔ x ∈ l := by
  have e : ascL l = inAll (fun _ => true) [] l := by
    unfold ascL inAll
    congr 1
  rw [e]
  obtain ⟨h1, h2⟩ := inAll_spec (fun _ => true) l [] List.Pairwise.nil
  exact ⟨h1, fun x => by rw [h2]; simp⟩
theorem isE_f {α : Type} {o : List α} {j : Nat} (h : j < o.length) : o.isEmpty = false := by cases o with
  | nil => simp at h
  | cons => rfl
def keyR (x : Reas) : Int × Int × List (List UInt8) := (x.rule, x.cond, x.scopes)
def sameD (d e : Dec) : Bool := d.eff == e.eff && d.scopes == e.scopes && d.lvl == e.lvl && d.age == e.age && d.reas.map keyR == e.reas.map keyR
def shG (ls : List (List UInt8)) (n m : Int) : Bool := decide ((ls.length : Int) > n) || ls.any (fun x => decide ((x.length : Int) > m))
def cG (c : Cond) : Bool := decide ((c.f.length : Int) > 300) || decide ((c.op.length : Int) > 300) || decide ((c.v.length : Int) > 300)
def pG (p : Rule) : Bool := decide ((p.name.length : Int) > 300) || decide ((p.conds.length : Int) > 12) || shG p.scopes 20 300 || p.conds.any cG
def greatB (l : List Rule) (r : Req) : Bool := decide ((l.length : Int) > 70) || shG r.scopes 20 300 || shG r.groups 20 300 || decide ((r.user.length : Int) > 300) || decide ((r.client.length : Int) > 300) || decide ((r.tenant.length : Int) > 300) || l.any pG
theorem eqL {α : Type} [BEq α] [LawfulBEq α] {a b : List α} {k : Nat} (ha : k < a.length) (hb : k < b.length) : (a.drop k == b.drop k) = (a[k] == b[k] && (a.drop (k + 1) == b.drop (k + 1))) := by
  rw [dropE ha, dropE hb]; rfl
theorem eqN {α : Type} [BEq α] [LawfulBEq α] {a b : List α} {k : Nat} (ha : a.length ≤ k) (hb : b.length ≤ k) : (a.drop k == b.drop k) = true := by
  rw [dropN ha, dropN hb]; simp
theorem eqLen {α : Type} [BEq α] [LawfulBEq α] {a b : List α} (h : a.length ≠ b.length) : (a == b) = false := by
  rw [Bool.eq_false_iff]; intro e; rw [beq_iff_eq] at e; exact h (by rw [e])
end Go.Proofs

set_option linter.unusedSimpArgs false
set_option linter.unusedVariables false
set_option maxRecDepth 10000
namespace Go.Proofs
open Go Go.Id
set_option maxHeartbeats 4000000
theorem tkm (o : List (List UInt8)) : List.take o.length (o.map fun x => [D.str x]) = o.map fun x => [D.str x] := List.take_of_length_le (by simp)
theorem c_r2great (ls : List (List UInt8)) (nl : Bool) (n m : Int) (hn : ls.length ≤ 9223372036854775807) (hnl : nl = true → ls = []) : CallP Pr 14 [.slice 1 nl (ls.map fun x => [.str x]) none, .int .i64 n, .int .i64 m] (.bool (shG ls n m)) := by
 refine CallP.of_wp Tryz.func14 rfl (by kernel_rfl) Tryz.ntmps14 (by simp) ?_
 simp only [frameOf, Nat.reduceAdd, Nat.zero_add]
 refine WP.sr [0, 1, 2] (by kernel_rfl) fun K hK => ?_
 simp (decide := true) only [TF, ↓reduceIte, Int.reduceToNat]
 refine hK _ _ ?_; clear hK K
 refine WP.seq ?_
 refine WP.sr [0, 2, 11] (by kernel_rfl) fun K hK => ?_
 simp (decide := true) only [TF, ↓reduceIte, Int.reduceToNat]
 refine hK _ _ ?_; clear hK K
 refine WP.cond (b := _) rfl (fun q1 => ?_) (fun q1 => ?_)
 ·
  refine WP.sr [6] (by kernel_rfl) fun K hK => ?_
  simp (decide := true) only [TF, q1, ↓reduceIte, Int.reduceToNat]
  refine hK _ _ ?_; clear hK K
  refine WP.ret ?_
  exact Ends.pure (.inr rfl) rfl (Le.of_eq (by simp (decide := true) only [St.get, lk, W, shG, q1, ↓reduceIte])) (by simp)
 ·
  refine WP.skip ?_
  show WP _ _ _ _ _ _
  refine WP.seq ?_
  refine WP.sr [0, 2, 7] (by kernel_rfl) fun K hK => ?_
  simp (decide := true) only [TF, q1, ↓reduceIte, Int.reduceToNat]
  refine hK _ _ ?_; clear hK K
  refine WP.block ?_
  refine WP.lp [0, 2] (X := {k : Nat // k ≤ ls.length ∧ ls.any (fun x => decide ((x.length : Int) > m)) = (ls.drop k).any (fun x => decide ((x.length : Int) > m))}) (fun x => match x with | ⟨(k), _⟩ => [(7, .int .i64 k)]) (fun x => match x with | ⟨(k), _⟩ => []) (fun x => match x with | ⟨(k), _⟩ => ls.length - k) (by simp (decide := true) only [W, ↓reduceIte, Int.reduceToNat]; rfl) ?_ ⟨(0), ⟨Nat.zero_le _, by simp⟩⟩ ?_
  rotate_left
  · exact Weak.store (by simp [St.get, lk, W, Le.refl, q1]) (by simp [lk, W, q1]) (by simp [lk, W]) (by simp [BClo, lk]) (by simp [lk])
  rintro ⟨k, hk, hI⟩
  dsimp only
  simp only [List.cons_append, List.nil_append]
  refine WP.seq ?_
  refine WP.sr [0, 2, 7, 15] (by kernel_rfl) fun K hK => ?_
  simp (decide := true) only [TF, q1, hk, ↓reduceIte, Int.reduceToNat]
  refine hK _ _ ?_; clear hK K
  refine WP.cond (b := _) rfl (fun q2 => ?_) (fun q2 => ?_)
  ·
   have hlt := lt_of_q q2
   have hg : (ls.map (fun x => [D.str x]))[k]? = some [.str ls[k]] := getM hlt
   have hnf := nl_false hnl hlt
   rw [dropE hlt] at hI
   simp only [List.any_cons] at hI
   refine WP.skip ?_
   show WP _ _ _ _ _ _
   refine WP.seq ?_
   refine WP.block ?_
   refine WP.sr [0, 2, 7, 24] (by kernel_rfl) fun K hK => ?_
   simp (decide := true) only [TF, q1, hk, q2, hg, hnf, ↓reduceIte, Int.reduceToNat]
   refine hK _ _ ?_; clear hK K
   refine WP.cond (b := _) rfl (fun q3 => ?_) (fun q3 => ?_)
   ·
    refine WP.sr [6] (by kernel_rfl) fun K hK => ?_
    simp (decide := true) only [TF, q1, hk, q2, hg, hnf, q3, ↓reduceIte, Int.reduceToNat]
    refine hK _ _ ?_; clear hK K
    refine WP.ret ?_
    exact Ends.pure (.inr rfl) rfl (Le.of_eq (by simp (decide := true) only [St.get, lk, W, shG, q1, hk, q2, hg, hnf, q3, hI, ↓reduceIte])) (by simp)
   ·
    refine WP.skip ?_
    show WP _ _ _ _ _ _
    refine WP.region (by kernel_rfl) fun K hK => ?_
    simp (decide := true) only [TF, q1, hk, q2, hg, hnf, q3, ↓reduceIte, Int.reduceToNat]
    refine hK _ _ ?_; clear hK K
    show ∃ y, _ ∧ Weak _ _ _
    refine ⟨⟨k + 1, ?_⟩, ?_, ?_⟩
    · exact ⟨by omega, by first | (simpa [q1, hk, q2, hg, hnf, q3] using hI) | (simp_all; done)⟩
    · dsimp only; omega
    · exact Weak.store (by simp [St.get, lk, W, Le.refl, q1, hk, q2, hg, hnf, q3, wrapBig hlt (show ls.length ≤ 9223372036854775807 by omega)]) (by simp [lk, W, q1, hk, q2, hg, hnf, q3, wrapBig hlt (show ls.length ≤ 9223372036854775807 by omega)]) (by simp [lk, W]) (by simp [BClo, lk]) (by simp [lk])
  ·
   have hge := ge_of_q q2
   rw [dropN hge] at hI
   simp only [List.any_nil] at hI
   refine WP.exit ?_
   show WP _ _ _ _ _ _
   refine WP.sr [6] (by kernel_rfl) fun K hK => ?_
   simp (decide := true) only [TF, q1, hk, q2, ↓reduceIte, Int.reduceToNat]
   refine hK _ _ ?_; clear hK K
   refine WP.ret ?_
   exact Ends.pure (.inr rfl) rfl (Le.of_eq (by simp (decide := true) only [St.get, lk, W, shG, q1, hk, q2, hI, ↓reduceIte])) (by simp)
theorem c_same2 (a b : List (List UInt8)) (na nb : Bool) (hn : a.length ≤ 1099511627776) (hna : na = true → a = []) (hnb : nb = true → b = []) : CallP Pr 16 [.slice 1 na (a.map fun x => [.str x]) none, .slice 1 nb (b.map fun x => [.str x]) none] (.bool (a == b)) := by
 refine CallP.of_wp Tryz.func16 rfl (by kernel_rfl) Tryz.ntmps16 (by simp) ?_
 simp only [frameOf, Nat.reduceAdd, Nat.zero_add]
 refine WP.sr [0, 1] (by kernel_rfl) fun K hK => ?_
 simp (decide := true) only [TF, ↓reduceIte, Int.reduceToNat]
 refine hK _ _ ?_; clear hK K
 refine WP.seq ?_
 refine WP.sr [0, 1, 10] (by kernel_rfl) fun K hK => ?_
 simp (decide := true) only [TF, ↓reduceIte, Int.reduceToNat]
 refine hK _ _ ?_; clear hK K
 refine WP.cond (b := _) rfl (fun q1 => ?_) (fun q1 => ?_)
 ·
  have hX : (a == b) = false := eqLen (fun e => by rw [e] at q1; simp at q1)
  refine WP.sr [4] (by kernel_rfl) fun K hK => ?_
  simp (decide := true) only [TF, q1, hX, ↓reduceIte, Int.reduceToNat]
  refine hK _ _ ?_; clear hK K
  refine WP.ret ?_
  exact Ends.pure (.inr rfl) rfl (Le.of_eq (by simp (decide := true) only [St.get, lk, W, q1, hX, ↓reduceIte])) (by simp)
 ·
  have hE : a.length = b.length := by have hq := q1; simp at hq; omega
  refine WP.skip ?_
  show WP _ _ _ _ _ _
  refine WP.seq ?_
  refine WP.sr [0, 1, 5] (by kernel_rfl) fun K hK => ?_
  simp (decide := true) only [TF, q1, ↓reduceIte, Int.reduceToNat]
  refine hK _ _ ?_; clear hK K
  refine WP.block ?_
  refine WP.lp [0, 1] (X := {k : Nat // k ≤ a.length ∧ (a == b) = (a.drop k == b.drop k)}) (fun x => match x with | ⟨(k), _⟩ => [(5, .int .i64 k)]) (fun x => match x with | ⟨(k), _⟩ => []) (fun x => match x with | ⟨(k), _⟩ => a.length - k) (by simp (decide := true) only [W, ↓reduceIte, Int.reduceToNat]; rfl) ?_ ⟨(0), ⟨Nat.zero_le _, by simp⟩⟩ ?_
  rotate_left
  · exact Weak.store (by simp [St.get, lk, W, Le.refl, q1]) (by simp [lk, W, q1]) (by simp [lk, W]) (by simp [BClo, lk]) (by simp [lk])
  rintro ⟨k, hk, hI⟩
  dsimp only
  simp only [List.cons_append, List.nil_append]
  refine WP.seq ?_
  refine WP.sr [0, 1, 5, 14] (by kernel_rfl) fun K hK => ?_
  simp (decide := true) only [TF, q1, hk, ↓reduceIte, Int.reduceToNat]
  refine hK _ _ ?_; clear hK K
  refine WP.cond (b := _) rfl (fun q2 => ?_) (fun q2 => ?_)
  ·
   have hlt := lt_of_q q2
   have hlb : k < b.length := by omega
   have hg : (a.map fun x => [D.str x])[k]? = some [.str a[k]] := getM hlt
   have hgb : (b.map fun x => [D.str x])[k]? = some [.str b[k]] := getM hlb
   have hnf := nl_false hna hlt
   have hnfb := nl_false hnb hlb
   rw [eqL hlt hlb] at hI
   refine WP.skip ?_
   show WP _ _ _ _ _ _
   refine WP.seq ?_
   refine WP.block ?_
   refine WP.sd [0, 1, 5, 25] (by kernel_rfl) (by kernel_rfl) fun K hK => ?_
   simp (decide := true) only [TF, q1, hk, q2, hg, hgb, hnf, hnfb, ↓reduceIte, Int.reduceToNat]
   refine hK _ _ (by kernel_rfl) ?_
   clear hK K
   refine WP.cond (b := _) rfl (fun q3 => ?_) (fun q3 => ?_)
   ·
    refine WP.sr [4] (by kernel_rfl) fun K hK => ?_
    simp (decide := true) only [TF, q1, hk, q2, hg, hgb, hnf, hnfb, q3, ↓reduceIte, Int.reduceToNat]
    refine hK _ _ ?_; clear hK K
    refine WP.ret ?_
    exact Ends.pure (.inr rfl) rfl (Le.of_eq (by simp_all [St.get, lk, W, LN, bne])) (by simp)
   ·
    refine WP.skip ?_
    show WP _ _ _ _ _ _
    refine WP.region (by kernel_rfl) fun K hK => ?_
    simp (decide := true) only [TF, q1, hk, q2, hg, hgb, hnf, hnfb, q3, ↓reduceIte, Int.reduceToNat]
    refine hK _ _ ?_; clear hK K
    show ∃ y, _ ∧ Weak _ _ _
    refine ⟨⟨k + 1, ?_⟩, ?_, ?_⟩
    · exact ⟨by omega, by first | (simpa [q1, hk, q2, hg, hgb, hnf, hnfb, q3] using hI) | (simp_all; done)⟩
    · dsimp only; omega
    · exact Weak.store (by simp [St.get, lk, W, Le.refl, q1, hk, q2, hg, hgb, hnf, hnfb, q3, wrapS hlt (show a.length ≤ 140737488355328 by omega)]) (by simp [lk, W, q1, hk, q2, hg, hgb, hnf, hnfb, q3, wrapS hlt (show a.length ≤ 140737488355328 by omega)]) (by simp [lk, W]) (by simp [BClo, lk]) (by simp [lk])
  ·
   have hge := ge_of_q q2
   rw [eqN hge (by omega)] at hI
   refine WP.exit ?_
   show WP _ _ _ _ _ _
   refine WP.sr [4] (by kernel_rfl) fun K hK => ?_
   simp (decide := true) only [TF, q1, hk, q2, ↓reduceIte, Int.reduceToNat]
   refine hK _ _ ?_; clear hK K
   refine WP.ret ?_
   exact Ends.pure (.inr rfl) rfl (Le.of_eq (by simp (decide := true) only [St.get, lk, W, q1, hk, q2, hI, ↓reduceIte])) (by simp)
theorem c_great (l : List Rule) (nl : Bool) (r : Req) (hn : l.length ≤ 9223372036854775807) (hnl : nl = true → l = []) (hl : ∀ p ∈ l, p.big) (hr : r.big) : CallP Pr 9 [.slice 6 nl (l.map Rule.cs) none, .agg [.str r.user, .str r.client, .str r.tenant, .slice 1 r.ng (r.groups.map fun x => [.str x]) none, .slice 1 r.ns (r.scopes.map fun x => [.str x]) none, .int .i64 r.risk, .bool r.trusted, .int .i64 r.level, .int .i64 r.auth, .int .i64 r.now]] (.bool (greatB l r)) := by
 refine CallP.of_wp Tryz.func9 rfl (by kernel_rfl) Tryz.ntmps9 (by simp) ?_
 simp only [frameOf, Nat.reduceAdd, Nat.zero_add]
 refine WP.sr [0, 3] (by kernel_rfl) fun K hK => ?_
 simp (decide := true) only [TF, ↓reduceIte, Int.reduceToNat]
 refine hK _ _ ?_; clear hK K
 refine WP.seq ?_
 refine WP.sr [0, 38] (by kernel_rfl) fun K hK => ?_
 refine runOps.take 4 fun J hJ => ?_
 simp (decide := true) only [TF, ↓reduceIte, Int.reduceToNat]
 refine hJ _ _ ?_; clear hJ J
 refine runOps.part 11 rfl (fun q1 => ?_) (fun q1 => ?_)
 ·
  simp (decide := true) only [TF, q1, ↓reduceIte, Int.reduceToNat]
  refine hK _ _ ?_; clear hK K
  refine WP.cond (b := true) (by rfl) (fun _ => ?_) nofun
  refine WP.sr [4] (by kernel_rfl) fun K hK => ?_
  simp (decide := true) only [TF, q1, ↓reduceIte, Int.reduceToNat]
  refine hK _ _ ?_; clear hK K
  refine WP.ret ?_
  exact Ends.pure (.inr rfl) rfl (Le.of_eq (by simp (decide := true) only [St.get, lk, W, greatB, pG, cG, q1, ↓reduceIte])) (by simp)
 ·
  simp (decide := true) only [TF, q1, ↓reduceIte, Int.reduceToNat]
  refine CallK.pure (c_r2great r.scopes r.ns 20 300 hr.2.2.1 hr.2.2.2) rfl rfl (by simp [-List.map_take]) ?_
  refine runOps.take 2 fun J hJ => ?_
  simp (decide := true) only [TF, q1, ↓reduceIte, Int.reduceToNat]
  refine hJ _ _ ?_; clear hJ J
  refine runOps.part 16 rfl (fun q2 => ?_) (fun q2 => ?_)
  ·
   simp (decide := true) only [TF, q1, q2, ↓reduceIte, Int.reduceToNat]
   refine hK _ _ ?_; clear hK K
   refine WP.cond (b := true) (by rfl) (fun _ => ?_) nofun
   refine WP.sr [4] (by kernel_rfl) fun K hK => ?_
   simp (decide := true) only [TF, q1, q2, ↓reduceIte, Int.reduceToNat]
   refine hK _ _ ?_; clear hK K
   refine WP.ret ?_
   exact Ends.pure (.inr rfl) rfl (Le.of_eq (by simp (decide := true) only [St.get, lk, W, greatB, pG, cG, q1, q2, ↓reduceIte])) (by simp)
  ·
   simp (decide := true) only [TF, q1, q2, ↓reduceIte, Int.reduceToNat]
   refine CallK.pure (c_r2great r.groups r.ng 20 300 hr.1 hr.2.1) rfl rfl (by simp [-List.map_take]) ?_
   refine runOps.take 2 fun J hJ => ?_
   simp (decide := true) only [TF, q1, q2, ↓reduceIte, Int.reduceToNat]
   refine hJ _ _ ?_; clear hJ J
   refine runOps.part 21 rfl (fun q3 => ?_) (fun q3 => ?_)
   ·
    simp (decide := true) only [TF, q1, q2, q3, ↓reduceIte, Int.reduceToNat]
    refine hK _ _ ?_; clear hK K
    refine WP.cond (b := true) (by rfl) (fun _ => ?_) nofun
    refine WP.sr [4] (by kernel_rfl) fun K hK => ?_
    simp (decide := true) only [TF, q1, q2, q3, ↓reduceIte, Int.reduceToNat]
    refine hK _ _ ?_; clear hK K
    refine WP.ret ?_
    exact Ends.pure (.inr rfl) rfl (Le.of_eq (by simp (decide := true) only [St.get, lk, W, greatB, pG, cG, q1, q2, q3, ↓reduceIte])) (by simp)
   ·
    refine runOps.take 6 fun J hJ => ?_
    simp (decide := true) only [TF, q1, q2, q3, ↓reduceIte, Int.reduceToNat]
    refine hJ _ _ ?_; clear hJ J
    refine runOps.part 27 rfl (fun q4 => ?_) (fun q4 => ?_)
    ·
     simp (decide := true) only [TF, q1, q2, q3, q4, ↓reduceIte, Int.reduceToNat]
     refine hK _ _ ?_; clear hK K
     refine WP.cond (b := true) (by rfl) (fun _ => ?_) nofun
     refine WP.sr [4] (by kernel_rfl) fun K hK => ?_
     simp (decide := true) only [TF, q1, q2, q3, q4, ↓reduceIte, Int.reduceToNat]
     refine hK _ _ ?_; clear hK K
     refine WP.ret ?_
     exact Ends.pure (.inr rfl) rfl (Le.of_eq (by simp (decide := true) only [St.get, lk, W, greatB, pG, cG, q1, q2, q3, q4, ↓reduceIte])) (by simp)
    ·
     refine runOps.take 6 fun J hJ => ?_
     simp (decide := true) only [TF, q1, q2, q3, q4, ↓reduceIte, Int.reduceToNat]
     refine hJ _ _ ?_; clear hJ J
     refine runOps.part 33 rfl (fun q5 => ?_) (fun q5 => ?_)
     ·
      simp (decide := true) only [TF, q1, q2, q3, q4, q5, ↓reduceIte, Int.reduceToNat]
      refine hK _ _ ?_; clear hK K
      refine WP.cond (b := true) (by rfl) (fun _ => ?_) nofun
      refine WP.sr [4] (by kernel_rfl) fun K hK => ?_
      simp (decide := true) only [TF, q1, q2, q3, q4, q5, ↓reduceIte, Int.reduceToNat]
      refine hK _ _ ?_; clear hK K
      refine WP.ret ?_
      exact Ends.pure (.inr rfl) rfl (Le.of_eq (by simp (decide := true) only [St.get, lk, W, greatB, pG, cG, q1, q2, q3, q4, q5, ↓reduceIte])) (by simp)
     ·
      simp (decide := true) only [TF, q1, q2, q3, q4, q5, ↓reduceIte, Int.reduceToNat]
      refine hK _ _ ?_; clear hK K
      refine WP.cond (b := _) rfl (fun q6 => ?_) (fun q6 => ?_)
      ·
       refine WP.sr [4] (by kernel_rfl) fun K hK => ?_
       simp (decide := true) only [TF, q1, q2, q3, q4, q5, q6, ↓reduceIte, Int.reduceToNat]
       refine hK _ _ ?_; clear hK K
       refine WP.ret ?_
       exact Ends.pure (.inr rfl) rfl (Le.of_eq (by simp (decide := true) only [St.get, lk, W, greatB, pG, cG, q1, q2, q3, q4, q5, q6, ↓reduceIte])) (by simp)
      ·
       refine WP.skip ?_
       show WP _ _ _ _ _ _
       refine WP.seq ?_
       refine WP.sr [0, 5] (by kernel_rfl) fun K hK => ?_
       simp (decide := true) only [TF, q1, q2, q3, q4, q5, q6, ↓reduceIte, Int.reduceToNat]
       refine hK _ _ ?_; clear hK K
       refine WP.block ?_
       refine WP.lp [0] (X := {k : Nat // k ≤ l.length ∧ l.any pG = (l.drop k).any pG}) (fun x => match x with | ⟨(k), _⟩ => [(5, .int .i64 k)]) (fun x => match x with | ⟨(k), _⟩ => [(0, .box 25 [.str r.user, .str r.client, .str r.tenant, .slice 1 r.ng (r.groups.map fun x => [.str x]) none, .slice 1 r.ns (r.scopes.map fun x => [.str x]) none, .int .i64 r.risk, .bool r.trusted, .int .i64 r.level, .int .i64 r.auth, .int .i64 r.now])]) (fun x => match x with | ⟨(k), _⟩ => l.length - k) (by simp (decide := true) only [W, ↓reduceIte, Int.reduceToNat]; rfl) ?_ ⟨(0), ⟨Nat.zero_le _, by simp⟩⟩ ?_
       rotate_left
       · exact Weak.store (by simp [St.get, lk, W, Le.refl, q1, q2, q3, q4, q5, q6]) (by simp [lk, W, q1, q2, q3, q4, q5, q6]) (by simp [lk, W]) (by simp [BClo, lk]) (by simp [lk])
       rintro ⟨k, hk, hI⟩
       dsimp only
       simp only [List.cons_append, List.nil_append]
       refine WP.seq ?_
       refine WP.sr [0, 5, 42] (by kernel_rfl) fun K hK => ?_
       simp (decide := true) only [TF, q1, q2, q3, q4, q5, q6, hk, ↓reduceIte, Int.reduceToNat]
       refine hK _ _ ?_; clear hK K
       refine WP.cond (b := _) rfl (fun q7 => ?_) (fun q7 => ?_)
       ·
        have hlt := lt_of_q q7
        have hg : (l.map Rule.cs)[k]? = some [.str l[k].name, .bool l[k].deny, .slice 3 l[k].nc (l[k].conds.map Cond.cs) none, .slice 1 l[k].ns (l[k].scopes.map fun x => [.str x]) none, .int .i64 l[k].lvl, .int .i64 l[k].age] := getM hlt
        have hnf := nl_false hnl hlt
        rw [dropE hlt] at hI
        simp only [List.any_cons] at hI
        have hpk := hl _ (List.getElem_mem hlt)
        have hcn := hpk.1
        refine WP.skip ?_
        show WP _ _ _ _ _ _
        refine WP.seq ?_
        refine WP.block ?_
        refine WP.seq ?_
        refine WP.sr [0, 5, 68] (by kernel_rfl) fun K hK => ?_
        refine runOps.take 8 fun J hJ => ?_
        simp (decide := true) only [TF, q1, q2, q3, q4, q5, q6, hk, q7, hg, hnf, ↓reduceIte, Int.reduceToNat]
        refine hJ _ _ ?_; clear hJ J
        refine runOps.part 52 rfl (fun q8 => ?_) (fun q8 => ?_)
        ·
         simp (decide := true) only [TF, q1, q2, q3, q4, q5, q6, hk, q7, hg, hnf, q8, ↓reduceIte, Int.reduceToNat]
         refine hK _ _ ?_; clear hK K
         refine WP.cond (b := true) (by rfl) (fun _ => ?_) nofun
         refine WP.sr [4] (by kernel_rfl) fun K hK => ?_
         simp (decide := true) only [TF, q1, q2, q3, q4, q5, q6, hk, q7, hg, hnf, q8, ↓reduceIte, Int.reduceToNat]
         refine hK _ _ ?_; clear hK K
         refine WP.ret ?_
         exact Ends.pure (.inr rfl) rfl (Le.of_eq (by simp (decide := true) only [St.get, lk, W, greatB, pG, cG, q1, q2, q3, q4, q5, q6, hk, q7, hg, hnf, q8, hI, ↓reduceIte])) (by simp)
        ·
         refine runOps.take 9 fun J hJ => ?_
         simp (decide := true) only [TF, q1, q2, q3, q4, q5, q6, hk, q7, hg, hnf, q8, ↓reduceIte, Int.reduceToNat]
         refine hJ _ _ ?_; clear hJ J
         refine runOps.part 61 rfl (fun q9 => ?_) (fun q9 => ?_)
         ·
          simp (decide := true) only [TF, q1, q2, q3, q4, q5, q6, hk, q7, hg, hnf, q8, q9, ↓reduceIte, Int.reduceToNat]
          refine hK _ _ ?_; clear hK K
          refine WP.cond (b := true) (by rfl) (fun _ => ?_) nofun
          refine WP.sr [4] (by kernel_rfl) fun K hK => ?_
          simp (decide := true) only [TF, q1, q2, q3, q4, q5, q6, hk, q7, hg, hnf, q8, q9, ↓reduceIte, Int.reduceToNat]
          refine hK _ _ ?_; clear hK K
          refine WP.ret ?_
          exact Ends.pure (.inr rfl) rfl (Le.of_eq (by simp (decide := true) only [St.get, lk, W, greatB, pG, cG, q1, q2, q3, q4, q5, q6, hk, q7, hg, hnf, q8, q9, hI, ↓reduceIte])) (by simp)
         ·
          simp (decide := true) only [TF, q1, q2, q3, q4, q5, q6, hk, q7, hg, hnf, q8, q9, ↓reduceIte, Int.reduceToNat]
          refine CallK.pure (c_r2great l[k].scopes l[k].ns 20 300 hpk.2.2.1 hpk.2.2.2) rfl rfl (by simp [-List.map_take]) ?_
          simp (decide := true) only [TF, q1, q2, q3, q4, q5, q6, hk, q7, hg, hnf, q8, q9, ↓reduceIte, Int.reduceToNat]
          refine hK _ _ ?_; clear hK K
          refine WP.cond (b := _) rfl (fun q10 => ?_) (fun q10 => ?_)
          ·
           refine WP.sr [4] (by kernel_rfl) fun K hK => ?_
           simp (decide := true) only [TF, q1, q2, q3, q4, q5, q6, hk, q7, hg, hnf, q8, q9, q10, ↓reduceIte, Int.reduceToNat]
           refine hK _ _ ?_; clear hK K
           refine WP.ret ?_
           exact Ends.pure (.inr rfl) rfl (Le.of_eq (by simp (decide := true) only [St.get, lk, W, greatB, pG, cG, q1, q2, q3, q4, q5, q6, hk, q7, hg, hnf, q8, q9, q10, hI, ↓reduceIte])) (by simp)
          ·
           refine WP.skip ?_
           show WP _ _ _ _ _ _
           refine WP.sr [0, 5, 6] (by kernel_rfl) fun K hK => ?_
           simp (decide := true) only [TF, q1, q2, q3, q4, q5, q6, hk, q7, hg, hnf, q8, q9, q10, ↓reduceIte, Int.reduceToNat]
           refine hK _ _ ?_; clear hK K
           refine WP.block ?_
           refine WP.lp [0, 5] (X := {j : Nat // j ≤ l[k].conds.length ∧ l[k].conds.any cG = (l[k].conds.drop j).any cG}) (fun x => match x with | ⟨(j), _⟩ => [(6, .int .i64 j)]) (fun x => match x with | ⟨(j), _⟩ => [(0, .box 25 [.str r.user, .str r.client, .str r.tenant, .slice 1 r.ng (r.groups.map fun x => [.str x]) none, .slice 1 r.ns (r.scopes.map fun x => [.str x]) none, .int .i64 r.risk, .bool r.trusted, .int .i64 r.level, .int .i64 r.auth, .int .i64 r.now])]) (fun x => match x with | ⟨(j), _⟩ => l[k].conds.length - j) (by simp (decide := true) only [W, ↓reduceIte, Int.reduceToNat]; rfl) ?_ ⟨(0), ⟨Nat.zero_le _, by simp⟩⟩ ?_
           rotate_left
           · exact Weak.store (by simp [St.get, lk, W, Le.refl, q1, q2, q3, q4, q5, q6, hk, q7, hg, hnf, q8, q9, q10]) (by simp [lk, W, q1, q2, q3, q4, q5, q6, hk, q7, hg, hnf, q8, q9, q10]) (by simp [lk, W]) (by simp [BClo, lk]) (by simp [lk])
           rintro ⟨j, hk, hL⟩
           dsimp only
           simp only [List.cons_append, List.nil_append]
           refine WP.seq ?_
           refine WP.sr [0, 5, 6, 76] (by kernel_rfl) fun K hK => ?_
           simp (decide := true) only [TF, q1, q2, q3, q4, q5, q6, hk, q7, hg, hnf, q8, q9, q10, ↓reduceIte, Int.reduceToNat]
           refine hK _ _ ?_; clear hK K
           refine WP.cond (b := _) rfl (fun q11 => ?_) (fun q11 => ?_)
           ·
            have hjl := lt_of_q q11
            have hgj : (l[k].conds.map Cond.cs)[j]? = some [.str l[k].conds[j].f, .str l[k].conds[j].op, .str l[k].conds[j].v] := getM hjl
            have hnfj := nl_false hpk.2.1 hjl
            rw [dropE hjl] at hL
            simp only [List.any_cons] at hL
            refine WP.skip ?_
            show WP _ _ _ _ _ _
            refine WP.seq ?_
            refine WP.block ?_
            refine WP.sr [0, 5, 6, 7] (by kernel_rfl) fun K hK => ?_
            simp (decide := true) only [TF, q1, q2, q3, q4, q5, q6, hk, q7, hg, hnf, q8, q9, q10, q11, hgj, hnfj, ↓reduceIte, Int.reduceToNat]
            refine hK _ _ ?_; clear hK K
            refine WP.sr [0, 5, 6, 102] (by kernel_rfl) fun K hK => ?_
            refine runOps.take 5 fun J hJ => ?_
            simp (decide := true) only [TF, q1, q2, q3, q4, q5, q6, hk, q7, hg, hnf, q8, q9, q10, q11, hgj, hnfj, ↓reduceIte, Int.reduceToNat]
            refine hJ _ _ ?_; clear hJ J
            refine runOps.part 91 rfl (fun q12 => ?_) (fun q12 => ?_)
            ·
             simp (decide := true) only [TF, q1, q2, q3, q4, q5, q6, hk, q7, hg, hnf, q8, q9, q10, q11, hgj, hnfj, q12, ↓reduceIte, Int.reduceToNat]
             refine hK _ _ ?_; clear hK K
             refine WP.cond (b := true) (by rfl) (fun _ => ?_) nofun
             refine WP.sr [4] (by kernel_rfl) fun K hK => ?_
             simp (decide := true) only [TF, q1, q2, q3, q4, q5, q6, hk, q7, hg, hnf, q8, q9, q10, q11, hgj, hnfj, q12, ↓reduceIte, Int.reduceToNat]
             refine hK _ _ ?_; clear hK K
             refine WP.ret ?_
             exact Ends.pure (.inr rfl) rfl (Le.of_eq (by simp (decide := true) only [St.get, lk, W, greatB, pG, cG, q1, q2, q3, q4, q5, q6, hk, q7, hg, hnf, q8, q9, q10, hk, q11, hgj, hnfj, q12, hL, hI, ↓reduceIte])) (by simp)
            ·
             refine runOps.take 6 fun J hJ => ?_
             simp (decide := true) only [TF, q1, q2, q3, q4, q5, q6, hk, q7, hg, hnf, q8, q9, q10, q11, hgj, hnfj, q12, ↓reduceIte, Int.reduceToNat]
             refine hJ _ _ ?_; clear hJ J
             refine runOps.part 97 rfl (fun q13 => ?_) (fun q13 => ?_)
             ·
              simp (decide := true) only [TF, q1, q2, q3, q4, q5, q6, hk, q7, hg, hnf, q8, q9, q10, q11, hgj, hnfj, q12, q13, ↓reduceIte, Int.reduceToNat]
              refine hK _ _ ?_; clear hK K
              refine WP.cond (b := true) (by rfl) (fun _ => ?_) nofun
              refine WP.sr [4] (by kernel_rfl) fun K hK => ?_
              simp (decide := true) only [TF, q1, q2, q3, q4, q5, q6, hk, q7, hg, hnf, q8, q9, q10, q11, hgj, hnfj, q12, q13, ↓reduceIte, Int.reduceToNat]
              refine hK _ _ ?_; clear hK K
              refine WP.ret ?_
              exact Ends.pure (.inr rfl) rfl (Le.of_eq (by simp (decide := true) only [St.get, lk, W, greatB, pG, cG, q1, q2, q3, q4, q5, q6, hk, q7, hg, hnf, q8, q9, q10, hk, q11, hgj, hnfj, q12, q13, hL, hI, ↓reduceIte])) (by simp)
             ·
              simp (decide := true) only [TF, q1, q2, q3, q4, q5, q6, hk, q7, hg, hnf, q8, q9, q10, q11, hgj, hnfj, q12, q13, ↓reduceIte, Int.reduceToNat]
              refine hK _ _ ?_; clear hK K
              refine WP.cond (b := _) rfl (fun q14 => ?_) (fun q14 => ?_)
              ·
               refine WP.sr [4] (by kernel_rfl) fun K hK => ?_
               simp (decide := true) only [TF, q1, q2, q3, q4, q5, q6, hk, q7, hg, hnf, q8, q9, q10, q11, hgj, hnfj, q12, q13, q14, ↓reduceIte, Int.reduceToNat]
               refine hK _ _ ?_; clear hK K
               refine WP.ret ?_
               exact Ends.pure (.inr rfl) rfl (Le.of_eq (by simp (decide := true) only [St.get, lk, W, greatB, pG, cG, q1, q2, q3, q4, q5, q6, hk, q7, hg, hnf, q8, q9, q10, hk, q11, hgj, hnfj, q12, q13, q14, hL, hI, ↓reduceIte])) (by simp)
              ·
               refine WP.skip ?_
               show WP _ _ _ _ _ _
               refine WP.region (by kernel_rfl) fun K hK => ?_
               simp (decide := true) only [TF, q1, q2, q3, q4, q5, q6, hk, q7, hg, hnf, q8, q9, q10, q11, hgj, hnfj, q12, q13, q14, ↓reduceIte, Int.reduceToNat]
               refine hK _ _ ?_; clear hK K
               show ∃ y, _ ∧ Weak _ _ _
               have hC : cG l[k].conds[j] = false := by simp only [cG, q1, q2, q3, q4, q5, q6, q7, q8, q9, q10, q11, q12, q13, q14, Bool.or_false]
               rw [hC, Bool.false_or] at hL
               refine ⟨⟨j + 1, ?_⟩, ?_, ?_⟩
               · exact ⟨by omega, hL⟩
               · dsimp only; omega
               · exact Weak.store (by simp [St.get, lk, W, Le.refl, q1, q2, q3, q4, q5, q6, hk, q7, hg, hnf, q8, q9, q10, hk, q11, hgj, hnfj, q12, q13, q14, wrapBig hjl (show l[k].conds.length ≤ 9223372036854775807 by omega)]) (by simp [lk, W, q1, q2, q3, q4, q5, q6, hk, q7, hg, hnf, q8, q9, q10, hk, q11, hgj, hnfj, q12, q13, q14, wrapBig hjl (show l[k].conds.length ≤ 9223372036854775807 by omega)]) (by simp [lk, W]) (by simp [BClo, lk]) (by simp [lk])
           ·
            have hjg := ge_of_q q11
            rw [dropN hjg] at hL
            simp only [List.any_nil] at hL
            refine WP.exit ?_
            show WP _ _ _ _ _ _
            refine WP.region (by kernel_rfl) fun K hK => ?_
            simp (decide := true) only [TF, q1, q2, q3, q4, q5, q6, hk, q7, hg, hnf, q8, q9, q10, q11, ↓reduceIte, Int.reduceToNat]
            refine hK _ _ ?_; clear hK K
            show ∃ y, _ ∧ Weak _ _ _
            have hP : pG l[k] = false := by simp only [pG, hL, q1, q2, q3, q4, q5, q6, q7, q8, q9, q10, q11, Bool.or_false]
            rw [hP, Bool.false_or] at hI
            refine ⟨⟨k + 1, ?_⟩, ?_, ?_⟩
            · exact ⟨by omega, hI⟩
            · dsimp only; omega
            · exact Weak.store (by simp [St.get, lk, W, Le.refl, q1, q2, q3, q4, q5, q6, hk, q7, hg, hnf, q8, q9, q10, hk, q11, wrapBig hlt (show l.length ≤ 9223372036854775807 by omega)]) (by simp [lk, W, q1, q2, q3, q4, q5, q6, hk, q7, hg, hnf, q8, q9, q10, hk, q11, wrapBig hlt (show l.length ≤ 9223372036854775807 by omega)]) (by simp [lk, W]) (by simp [BClo, lk]) (by simp [lk])
       ·
        have hge := ge_of_q q7
        rw [dropN hge] at hI
        simp only [List.any_nil] at hI
        refine WP.exit ?_
        show WP _ _ _ _ _ _
        refine WP.sr [4] (by kernel_rfl) fun K hK => ?_
        simp (decide := true) only [TF, q1, q2, q3, q4, q5, q6, hk, q7, ↓reduceIte, Int.reduceToNat]
        refine hK _ _ ?_; clear hK K
        refine WP.ret ?_
        exact Ends.pure (.inr rfl) rfl (Le.of_eq (by simp (decide := true) only [St.get, lk, W, greatB, pG, cG, q1, q2, q3, q4, q5, q6, hk, q7, hI, ↓reduceIte])) (by simp)
theorem c_asc (ls : List (List UInt8)) (nl : Bool) (hn : ls.length ≤ 1099511627776) (hnl : nl = true → ls = []) : CallP Pr 48 [.slice 1 nl (ls.map fun x => [.str x]) none] (.slice 1 (ascL ls).isEmpty ((ascL ls).map (fun x => [D.str x])) none) := by
 refine CallP.of_wp Tryz.func48 rfl (by kernel_rfl) Tryz.ntmps48 (by simp) ?_
 simp only [frameOf, Nat.reduceAdd, Nat.zero_add]
 refine WP.sr [0] (by kernel_rfl) fun K hK => ?_
 simp (decide := true) only [TF, ↓reduceIte, Int.reduceToNat]
 refine hK _ _ ?_; clear hK K
 refine WP.sr [0, 3] (by kernel_rfl) fun K hK => ?_
 simp (decide := true) only [TF, ↓reduceIte, Int.reduceToNat]
 refine hK _ _ ?_; clear hK K
 refine WP.seq ?_
 refine WP.sr [0, 3, 4] (by kernel_rfl) fun K hK => ?_
 simp (decide := true) only [TF, ↓reduceIte, Int.reduceToNat]
 refine hK _ _ ?_; clear hK K
 refine WP.block ?_
 refine WP.lp [0] (X := {x : (Nat) × (List (List UInt8)) // match x with | (k, o) => k ≤ ls.length ∧ o.length ≤ k ∧ Asc o ∧ ascL ls = (ls.drop k).foldl insR o}) (fun x => match x with | ⟨(k, o), _⟩ => [(3, .slice 1 o.isEmpty (o.map (fun x => [D.str x])) none), (4, .int .i64 k)]) (fun x => match x with | ⟨(k, o), _⟩ => []) (fun x => match x with | ⟨(k, o), _⟩ => ls.length - k) (by simp (decide := true) only [W, ↓reduceIte, Int.reduceToNat]; rfl) ?_ ⟨(0, []), ⟨Nat.zero_le _, Nat.zero_le _, List.Pairwise.nil, rfl⟩⟩ ?_
 rotate_left
 · exact Weak.nil (by simp [St.get, lk, W, Le.refl, Le.nil, W]) (by simp [W])
 rintro ⟨⟨k, o⟩, hk, hr, hA, hI⟩
 dsimp only
 simp only [List.cons_append, List.nil_append]
 refine WP.seq ?_
 refine WP.sr [0, 3, 4, 10] (by kernel_rfl) fun K hK => ?_
 simp (decide := true) only [TF, hk, ↓reduceIte, Int.reduceToNat]
 refine hK _ _ ?_; clear hK K
 refine WP.cond (b := _) rfl (fun q1 => ?_) (fun q1 => ?_)
 ·
  have hlt := lt_of_q q1
  have hg : (ls.map (fun x => [D.str x]))[k]? = some [.str ls[k]] := getM hlt
  have hnf := nl_false hnl hlt
  rw [dropE hlt] at hI
  simp only [List.foldl_cons] at hI
  refine WP.skip ?_
  show WP _ _ _ _ _ _
  refine WP.seq ?_
  refine WP.block ?_
  refine WP.sr [0, 3, 4, 5] (by kernel_rfl) fun K hK => ?_
  simp (decide := true) only [TF, hk, q1, hg, hnf, ↓reduceIte, Int.reduceToNat]
  refine hK _ _ ?_; clear hK K
  refine WP.seq ?_
  refine WP.block ?_
  refine WP.lp [0, 3, 4] (X := {j : Nat // j ≤ o.length ∧ ∀ x ∈ o.take j, Op.bytesLess x ls[k] = true}) (fun x => match x with | ⟨(j), _⟩ => [(5, .int .i64 j)]) (fun x => match x with | ⟨(j), _⟩ => []) (fun x => match x with | ⟨(j), _⟩ => o.length - j) (by simp (decide := true) only [W, ↓reduceIte, Int.reduceToNat]; rfl) ?_ ⟨(0), ⟨Nat.zero_le _, by simp⟩⟩ ?_
  rotate_left
  · exact Weak.nil (by simp [St.get, lk, W, Le.refl, hk, q1, hg, hnf]) (by simp [W])
  rintro ⟨j, hj, hJ⟩
  dsimp only
  simp only [List.cons_append, List.nil_append]
  refine WP.seq ?_
  refine WP.sd [0, 3, 4, 5, 27] (by kernel_rfl) (by kernel_rfl) fun K hK => ?_
  refine runOps.take 5 fun J hJ => ?_
  simp (decide := true) only [TF, hk, q1, hg, hnf, hj, ↓reduceIte, Int.reduceToNat]
  refine hJ _ _ ?_; clear hJ J
  refine runOps.part 17 rfl (fun q2 => ?_) (fun q2 => ?_)
  ·
   have hjl : j < o.length := lt_of_q q2
   have hgj : (o.map fun x => [D.str x])[j]? = some [.str o[j]] := getM hjl
   have hie := isE_f hjl
   simp (decide := true) only [TF, hk, q1, hg, hnf, hj, q2, hgj, hie, ↓reduceIte, Int.reduceToNat]
   refine hK _ _ (by kernel_rfl) ?_
   clear hK K
   refine WP.cond (b := _) rfl (fun q3 => ?_) (fun q3 => ?_)
   ·
    refine WP.skip ?_
    show WP _ _ _ _ _ _
    refine WP.block ?_
    refine WP.region (by kernel_rfl) fun K hK => ?_
    simp (decide := true) only [TF, hk, q1, hg, hnf, hj, q2, hgj, hie, q3, ↓reduceIte, Int.reduceToNat]
    refine hK _ _ ?_; clear hK K
    show ∃ y, _ ∧ Weak _ _ _
    refine ⟨⟨j + 1, hjl, ?_⟩, ?_, ?_⟩
    · rw [takeS hjl]; intro x hx; rcases List.mem_append.1 hx with hx | hx; exact hJ x hx; rw [List.mem_singleton] at hx; rw [hx]; exact q3
    · dsimp only; omega
    · exact Weak.nil (by simp [St.get, lk, W, Le.refl, hk, q1, hg, hnf, hj, q2, hgj, hie, q3, wrapS hjl (show o.length ≤ 140737488355328 by omega)]) (by simp [W])
   ·
    refine WP.exit ?_
    show WP _ _ _ _ _ _
    refine WP.seq ?_
    refine WP.sd [0, 3, 4, 5, 44] (by kernel_rfl) (by kernel_rfl) fun K hK => ?_
    simp (decide := true) only [TF, hk, q1, hg, hnf, hj, q2, hgj, hie, q3, ↓reduceIte, Int.reduceToNat]
    refine hK _ _ (by kernel_rfl) ?_
    clear hK K
    refine WP.cond (b := _) rfl (fun q4 => ?_) (fun q4 => ?_)
    ·
     have hN := insR_eqv hA hJ hjl q3 q4
     refine WP.exit ?_
     show WP _ _ _ _ _ _
     refine WP.region (by kernel_rfl) fun K hK => ?_
     simp (decide := true) only [TF, hk, q1, hg, hnf, hj, q2, hgj, hie, q3, q4, ↓reduceIte, Int.reduceToNat]
     refine hK _ _ ?_; clear hK K
     show ∃ y, _ ∧ Weak _ _ _
     refine ⟨⟨(k + 1, insR o ls[k]), ?_⟩, ?_, ?_⟩
     · exact ⟨by dsimp only; omega, by have := insR_len o ls[k]; dsimp only; omega, insR_asc _ hA, hI⟩
     · dsimp only; omega
     ·
      refine Weak.nil (fun p hp => ?_) (by simp [W])
      simp only [List.mem_cons, List.not_mem_nil, or_false] at hp
      rcases hp with rfl | rfl | rfl
      · exact Le.trans (Le.fg _) (Le.of_eq (by simp [St.get, lk, fg, W, hN, tkm o, hnf, hie]))
      · simp [St.get, lk, W, Le.refl, wrapS hlt (show ls.length ≤ 140737488355328 by omega)]
      · simp [St.get, lk, W, Le.refl, hnf]
    ·
     have hN := insR_mid hA hJ hjl q3 q4
     refine WP.skip ?_
     show WP _ _ _ _ _ _
     refine WP.sr [0, 3, 4, 5, 6] (by kernel_rfl) fun K hK => ?_
     simp (decide := true) only [TF, hk, q1, hg, hnf, hj, q2, hgj, hie, q3, q4, ↓reduceIte, Int.reduceToNat]
     repeat (refine ⟨⟨by (try simp only [List.length_append, List.length_map, List.length_take, List.length_drop, List.length_cons, List.length_nil]); omega, by (try simp only [List.length_append, List.length_map, List.length_take, List.length_drop, List.length_cons, List.length_nil]); omega⟩, ?_⟩)
     refine hK _ _ ?_; clear hK K
     refine WP.sr [0, 3, 4, 5, 6] (by kernel_rfl) fun K hK => ?_
     simp (decide := true) only [TF, hk, q1, hg, hnf, hj, q2, hgj, hie, q3, q4, ↓reduceIte, Int.reduceToNat]
     repeat (refine ⟨⟨by (try simp only [List.length_append, List.length_map, List.length_take, List.length_drop, List.length_cons, List.length_nil]); omega, by (try simp only [List.length_append, List.length_map, List.length_take, List.length_drop, List.length_cons, List.length_nil]); omega⟩, ?_⟩)
     refine hK _ _ ?_; clear hK K
     refine WP.region (by kernel_rfl) fun K hK => ?_
     simp (decide := true) only [TF, hk, q1, hg, hnf, hj, q2, hgj, hie, q3, q4, ↓reduceIte, Int.reduceToNat]
     repeat (refine ⟨⟨by (try simp only [List.length_append, List.length_map, List.length_take, List.length_drop, List.length_cons, List.length_nil]); omega, by (try simp only [List.length_append, List.length_map, List.length_take, List.length_drop, List.length_cons, List.length_nil]); omega⟩, ?_⟩)
     refine hK _ _ ?_; clear hK K
     show WP _ _ _ _ _ _
     refine WP.region (by kernel_rfl) fun K hK => ?_
     simp (decide := true) only [TF, hk, q1, hg, hnf, hj, q2, hgj, hie, q3, q4, ↓reduceIte, Int.reduceToNat]
     refine hK _ _ ?_; clear hK K
     show ∃ y, _ ∧ Weak _ _ _
     refine ⟨⟨(k + 1, insR o ls[k]), ?_⟩, ?_, ?_⟩
     · exact ⟨by dsimp only; omega, by have := insR_len o ls[k]; dsimp only; omega, insR_asc _ hA, hI⟩
     · dsimp only; omega
     ·
      refine Weak.nil (fun p hp => ?_) (by simp [W])
      simp only [List.mem_cons, List.not_mem_nil, or_false] at hp
      rcases hp with rfl | rfl | rfl
      · exact Le.trans (Le.fg _) (Le.of_eq (by simp [St.get, lk, fg, W, hN, tkm o, hnf, hie]))
      · simp [St.get, lk, W, Le.refl, wrapS hlt (show ls.length ≤ 140737488355328 by omega)]
      · simp [St.get, lk, W, Le.refl, hnf]
  ·
   have hjg := ge_of_q q2
   have hN := insR_end hA hJ hjg
   simp (decide := true) only [TF, hk, q1, hg, hnf, hj, q2, ↓reduceIte, Int.reduceToNat]
   refine hK _ _ (by kernel_rfl) ?_
   clear hK K
   refine WP.cond (b := false) (by rfl) nofun (fun _ => ?_)
   refine WP.exit ?_
   show WP _ _ _ _ _ _
   refine WP.seq ?_
   refine WP.sd [0, 3, 4, 5, 44] (by kernel_rfl) (by kernel_rfl) fun K hK => ?_
   simp (decide := true) only [TF, hk, q1, hg, hnf, hj, q2, ↓reduceIte, Int.reduceToNat]
   refine hK _ _ (by kernel_rfl) ?_
   clear hK K
   refine WP.cond (b := false) (by rfl) nofun (fun _ => ?_)
   refine WP.skip ?_
   show WP _ _ _ _ _ _
   refine WP.sr [0, 3, 4, 5, 6] (by kernel_rfl) fun K hK => ?_
   simp (decide := true) only [TF, hk, q1, hg, hnf, hj, q2, ↓reduceIte, Int.reduceToNat]
   repeat (refine ⟨⟨by (try simp only [List.length_append, List.length_map, List.length_take, List.length_drop, List.length_cons, List.length_nil]); omega, by (try simp only [List.length_append, List.length_map, List.length_take, List.length_drop, List.length_cons, List.length_nil]); omega⟩, ?_⟩)
   refine hK _ _ ?_; clear hK K
   refine WP.sr [0, 3, 4, 5, 6] (by kernel_rfl) fun K hK => ?_
   simp (decide := true) only [TF, hk, q1, hg, hnf, hj, q2, ↓reduceIte, Int.reduceToNat]
   repeat (refine ⟨⟨by (try simp only [List.length_append, List.length_map, List.length_take, List.length_drop, List.length_cons, List.length_nil]); omega, by (try simp only [List.length_append, List.length_map, List.length_take, List.length_drop, List.length_cons, List.length_nil]); omega⟩, ?_⟩)
   refine hK _ _ ?_; clear hK K
   refine WP.region (by kernel_rfl) fun K hK => ?_
   simp (decide := true) only [TF, hk, q1, hg, hnf, hj, q2, ↓reduceIte, Int.reduceToNat]
   repeat (refine ⟨⟨by (try simp only [List.length_append, List.length_map, List.length_take, List.length_drop, List.length_cons, List.length_nil]); omega, by (try simp only [List.length_append, List.length_map, List.length_take, List.length_drop, List.length_cons, List.length_nil]); omega⟩, ?_⟩)
   refine hK _ _ ?_; clear hK K
   show WP _ _ _ _ _ _
   refine WP.region (by kernel_rfl) fun K hK => ?_
   simp (decide := true) only [TF, hk, q1, hg, hnf, hj, q2, ↓reduceIte, Int.reduceToNat]
   refine hK _ _ ?_; clear hK K
   show ∃ y, _ ∧ Weak _ _ _
   refine ⟨⟨(k + 1, insR o ls[k]), ?_⟩, ?_, ?_⟩
   · exact ⟨by dsimp only; omega, by have := insR_len o ls[k]; dsimp only; omega, insR_asc _ hA, hI⟩
   · dsimp only; omega
   ·
    refine Weak.nil (fun p hp => ?_) (by simp [W])
    simp only [List.mem_cons, List.not_mem_nil, or_false] at hp
    rcases hp with rfl | rfl | rfl
    · exact Le.trans (Le.fg _) (Le.of_eq (by simp [St.get, lk, fg, W, hN, tkm o, hnf]))
    · simp [St.get, lk, W, Le.refl, wrapS hlt (show ls.length ≤ 140737488355328 by omega)]
    · simp [St.get, lk, W, Le.refl, hnf]
 ·
  have hge := ge_of_q q1
  rw [dropN hge] at hI
  simp only [List.foldl_nil] at hI
  refine WP.exit ?_
  show WP _ _ _ _ _ _
  refine WP.sr [2] (by kernel_rfl) fun K hK => ?_
  simp (decide := true) only [TF, hk, q1, ↓reduceIte, Int.reduceToNat]
  refine hK _ _ ?_; clear hK K
  refine WP.ret ?_
  exact Ends.pure (.inr rfl) rfl ((by rw [hI]; exact Le.refl _)) (by simp)
end Go.Proofs

set_option linter.unusedSimpArgs false
set_option linter.unusedVariables false
set_option maxRecDepth 10000
namespace Go.Proofs
open Go Go.Id
set_option maxHeartbeats 4000000
theorem clo_reL {S : Nat → Prop} (l : List Reas) : (∀ e ∈ l.map Reas.cs, ∀ d ∈ e, Clo S d) ↔ True := by simp
theorem clo_ruL {S : Nat → Prop} (l : List Rule) : (∀ e ∈ l.map Rule.cs, ∀ d ∈ e, Clo S d) ↔ True := by simp
theorem keyE {a b : List Reas} {k : Nat} (ha : k < a.length) (hb : k < b.length) : ((a.drop k).map keyR == (b.drop k).map keyR) = ((a[k].rule == b[k].rule && (a[k].cond == b[k].cond && (a[k].scopes == b[k].scopes))) && ((a.drop (k + 1)).map keyR == (b.drop (k + 1)).map keyR)) := by
 rw [dropE ha, dropE hb]; rfl
theorem keyN {a b : List Reas} {k : Nat} (ha : a.length ≤ k) (hb : b.length ≤ k) : ((a.drop k).map keyR == (b.drop k).map keyR) = true := by
 rw [dropN ha, dropN hb]; rfl
theorem c_same31 (d e : Dec) (hd : d.ok) (he : e.ok) : CallP Pr 11 [.agg [.int .i64 d.eff, .slice 1 d.ns (d.scopes.map fun x => [.str x]) none, .int .i64 d.lvl, .int .i64 d.age, .slice 3 d.nr (d.reas.map Reas.cs) none], .agg [.int .i64 e.eff, .slice 1 e.ns (e.scopes.map fun x => [.str x]) none, .int .i64 e.lvl, .int .i64 e.age, .slice 3 e.nr (e.reas.map Reas.cs) none]] (.bool (sameD d e)) := by
 have hn := hd.2.2.2.1
 refine CallP.of_wp Tryz.func11 rfl (by kernel_rfl) Tryz.ntmps11 (by simp) ?_
 simp only [frameOf, Nat.reduceAdd, Nat.zero_add]
 refine WP.sr [2, 3] (by kernel_rfl) fun K hK => ?_
 simp (decide := true) only [TF, ↓reduceIte, Int.reduceToNat]
 refine hK _ _ ?_; clear hK K
 refine WP.seq ?_
 refine WP.sr [2, 3, 43] (by kernel_rfl) fun K hK => ?_
 refine runOps.take 6 fun J hJ => ?_
 simp (decide := true) only [TF, ↓reduceIte, Int.reduceToNat]
 refine hJ _ _ ?_; clear hJ J
 refine runOps.part 13 rfl (fun q1 => ?_) (fun q1 => ?_)
 ·
  simp (decide := true) only [TF, q1, ↓reduceIte, Int.reduceToNat]
  refine hK _ _ ?_; clear hK K
  refine WP.cond (b := true) (by rfl) (fun _ => ?_) nofun
  refine WP.sr [4] (by kernel_rfl) fun K hK => ?_
  simp (decide := true) only [TF, q1, ↓reduceIte, Int.reduceToNat]
  refine hK _ _ ?_; clear hK K
  refine WP.ret ?_
  exact Ends.pure (.inr rfl) rfl (Le.of_eq (by simp_all [St.get, lk, W, LN, bne, sameD])) (by simp)
 ·
  simp (decide := true) only [TF, q1, ↓reduceIte, Int.reduceToNat]
  refine CallK.pure (c_same2 d.scopes e.scopes d.ns e.ns (by have := hd.1; omega) hd.2.1 he.2.1) rfl rfl (by simp [-List.map_take]) ?_
  refine runOps.take 3 fun J hJ => ?_
  simp (decide := true) only [TF, q1, ↓reduceIte, Int.reduceToNat]
  refine hJ _ _ ?_; clear hJ J
  refine runOps.part 21 rfl (fun q2 => ?_) (fun q2 => ?_)
  ·
   simp (decide := true) only [TF, q1, q2, ↓reduceIte, Int.reduceToNat]
   refine hK _ _ ?_; clear hK K
   refine WP.cond (b := true) (by rfl) (fun _ => ?_) nofun
   refine WP.sr [4] (by kernel_rfl) fun K hK => ?_
   simp (decide := true) only [TF, q1, q2, ↓reduceIte, Int.reduceToNat]
   refine hK _ _ ?_; clear hK K
   refine WP.ret ?_
   exact Ends.pure (.inr rfl) rfl (Le.of_eq (by simp_all [St.get, lk, W, LN, bne, sameD])) (by simp)
  ·
   refine runOps.take 7 fun J hJ => ?_
   simp (decide := true) only [TF, q1, q2, ↓reduceIte, Int.reduceToNat]
   refine hJ _ _ ?_; clear hJ J
   refine runOps.part 28 rfl (fun q3 => ?_) (fun q3 => ?_)
   ·
    simp (decide := true) only [TF, q1, q2, q3, ↓reduceIte, Int.reduceToNat]
    refine hK _ _ ?_; clear hK K
    refine WP.cond (b := true) (by rfl) (fun _ => ?_) nofun
    refine WP.sr [4] (by kernel_rfl) fun K hK => ?_
    simp (decide := true) only [TF, q1, q2, q3, ↓reduceIte, Int.reduceToNat]
    refine hK _ _ ?_; clear hK K
    refine WP.ret ?_
    exact Ends.pure (.inr rfl) rfl (Le.of_eq (by simp_all [St.get, lk, W, LN, bne, sameD])) (by simp)
   ·
    refine runOps.take 7 fun J hJ => ?_
    simp (decide := true) only [TF, q1, q2, q3, ↓reduceIte, Int.reduceToNat]
    refine hJ _ _ ?_; clear hJ J
    refine runOps.part 35 rfl (fun q4 => ?_) (fun q4 => ?_)
    ·
     simp (decide := true) only [TF, q1, q2, q3, q4, ↓reduceIte, Int.reduceToNat]
     refine hK _ _ ?_; clear hK K
     refine WP.cond (b := true) (by rfl) (fun _ => ?_) nofun
     refine WP.sr [4] (by kernel_rfl) fun K hK => ?_
     simp (decide := true) only [TF, q1, q2, q3, q4, ↓reduceIte, Int.reduceToNat]
     refine hK _ _ ?_; clear hK K
     refine WP.ret ?_
     exact Ends.pure (.inr rfl) rfl (Le.of_eq (by simp_all [St.get, lk, W, LN, bne, sameD])) (by simp)
    ·
     simp (decide := true) only [TF, q1, q2, q3, q4, ↓reduceIte, Int.reduceToNat]
     refine hK _ _ ?_; clear hK K
     refine WP.cond (b := _) rfl (fun q5 => ?_) (fun q5 => ?_)
     ·
      have hX : (d.reas.map keyR == e.reas.map keyR) = false := eqLen (fun e1 => by rw [List.length_map, List.length_map] at e1; rw [e1] at q5; simp at q5)
      refine WP.sr [4] (by kernel_rfl) fun K hK => ?_
      simp (decide := true) only [TF, q1, q2, q3, q4, q5, hX, ↓reduceIte, Int.reduceToNat]
      refine hK _ _ ?_; clear hK K
      refine WP.ret ?_
      exact Ends.pure (.inr rfl) rfl (Le.of_eq (by simp (decide := true) only [St.get, lk, W, sameD, q1, q2, q3, q4, q5, hX, ↓reduceIte])) (by simp)
     ·
      have hE : d.reas.length = e.reas.length := by have hq := q5; simp at hq; omega
      refine WP.skip ?_
      show WP _ _ _ _ _ _
      refine WP.seq ?_
      refine WP.sr [2, 3, 5] (by kernel_rfl) fun K hK => ?_
      simp (decide := true) only [TF, q1, q2, q3, q4, q5, ↓reduceIte, Int.reduceToNat]
      refine hK _ _ ?_; clear hK K
      refine WP.block ?_
      refine WP.lp [2, 3] (X := {k : Nat // k ≤ d.reas.length ∧ (d.reas.map keyR == e.reas.map keyR) = ((d.reas.drop k).map keyR == (e.reas.drop k).map keyR)}) (fun x => match x with | ⟨(k), _⟩ => [(5, .int .i64 k)]) (fun x => match x with | ⟨(k), _⟩ => [(0, .box 32 [.int .i64 d.eff, .slice 1 d.ns (d.scopes.map fun x => [.str x]) none, .int .i64 d.lvl, .int .i64 d.age, .slice 3 d.nr (d.reas.map Reas.cs) none]), (1, .box 32 [.int .i64 e.eff, .slice 1 e.ns (e.scopes.map fun x => [.str x]) none, .int .i64 e.lvl, .int .i64 e.age, .slice 3 e.nr (e.reas.map Reas.cs) none])]) (fun x => match x with | ⟨(k), _⟩ => d.reas.length - k) (by simp (decide := true) only [W, ↓reduceIte, Int.reduceToNat]; rfl) ?_ ⟨(0), ⟨Nat.zero_le _, by simp⟩⟩ ?_
      rotate_left
      · exact Weak.store (by simp [St.get, lk, W, Le.refl, q1, q2, q3, q4, q5]) (by simp [lk, W, q1, q2, q3, q4, q5]) (by simp [lk, W]) (by simp [BClo, lk]) (by simp [lk])
      rintro ⟨k, hk, hI⟩
      dsimp only
      simp only [List.cons_append, List.nil_append]
      refine WP.seq ?_
      refine WP.sr [2, 3, 5, 48] (by kernel_rfl) fun K hK => ?_
      simp (decide := true) only [TF, q1, q2, q3, q4, q5, hk, ↓reduceIte, Int.reduceToNat]
      refine hK _ _ ?_; clear hK K
      refine WP.cond (b := _) rfl (fun q6 => ?_) (fun q6 => ?_)
      ·
       have hlt := lt_of_q q6
       have hlb : k < e.reas.length := by omega
       have hg : (d.reas.map Reas.cs)[k]? = some [.int .i64 d.reas[k].rule, .int .i64 d.reas[k].cond, .slice 1 d.reas[k].ns (d.reas[k].scopes.map fun x => [.str x]) none] := getM hlt
       have hgb : (e.reas.map Reas.cs)[k]? = some [.int .i64 e.reas[k].rule, .int .i64 e.reas[k].cond, .slice 1 e.reas[k].ns (e.reas[k].scopes.map fun x => [.str x]) none] := getM hlb
       have hnf := nl_false hd.2.2.2.2.1 hlt
       have hnfb := nl_false he.2.2.2.2.1 hlb
       rw [keyE hlt hlb] at hI
       have hdk := hd.2.2.2.2.2.1 _ (List.getElem_mem hlt)
       have hek := he.2.2.2.2.2.1 _ (List.getElem_mem hlb)
       refine WP.skip ?_
       show WP _ _ _ _ _ _
       refine WP.seq ?_
       refine WP.block ?_
       refine WP.sd [2, 3, 5, 6, 7] (by kernel_rfl) (by kernel_rfl) fun K hK => ?_
       simp (decide := true) only [TF, q1, q2, q3, q4, q5, hk, q6, hg, hgb, hnf, hnfb, ↓reduceIte, Int.reduceToNat]
       refine hK _ _ (by kernel_rfl) ?_
       clear hK K
       refine WP.sr [2, 3, 5, 80] (by kernel_rfl) fun K hK => ?_
       refine runOps.take 6 fun J hJ => ?_
       simp (decide := true) only [TF, q1, q2, q3, q4, q5, hk, q6, hg, hgb, hnf, hnfb, ↓reduceIte, Int.reduceToNat]
       refine hJ _ _ ?_; clear hJ J
       refine runOps.part 66 rfl (fun q7 => ?_) (fun q7 => ?_)
       ·
        simp (decide := true) only [TF, q1, q2, q3, q4, q5, hk, q6, hg, hgb, hnf, hnfb, q7, ↓reduceIte, Int.reduceToNat]
        refine hK _ _ ?_; clear hK K
        refine WP.cond (b := true) (by rfl) (fun _ => ?_) nofun
        refine WP.sr [4] (by kernel_rfl) fun K hK => ?_
        simp (decide := true) only [TF, q1, q2, q3, q4, q5, hk, q6, hg, hgb, hnf, hnfb, q7, ↓reduceIte, Int.reduceToNat]
        refine hK _ _ ?_; clear hK K
        refine WP.ret ?_
        exact Ends.pure (.inr rfl) rfl (Le.of_eq (by simp_all [St.get, lk, W, LN, bne, sameD])) (by simp)
       ·
        refine runOps.take 7 fun J hJ => ?_
        simp (decide := true) only [TF, q1, q2, q3, q4, q5, hk, q6, hg, hgb, hnf, hnfb, q7, ↓reduceIte, Int.reduceToNat]
        refine hJ _ _ ?_; clear hJ J
        refine runOps.part 73 rfl (fun q8 => ?_) (fun q8 => ?_)
        ·
         simp (decide := true) only [TF, q1, q2, q3, q4, q5, hk, q6, hg, hgb, hnf, hnfb, q7, q8, ↓reduceIte, Int.reduceToNat]
         refine hK _ _ ?_; clear hK K
         refine WP.cond (b := true) (by rfl) (fun _ => ?_) nofun
         refine WP.sr [4] (by kernel_rfl) fun K hK => ?_
         simp (decide := true) only [TF, q1, q2, q3, q4, q5, hk, q6, hg, hgb, hnf, hnfb, q7, q8, ↓reduceIte, Int.reduceToNat]
         refine hK _ _ ?_; clear hK K
         refine WP.ret ?_
         exact Ends.pure (.inr rfl) rfl (Le.of_eq (by simp_all [St.get, lk, W, LN, bne, sameD])) (by simp)
        ·
         simp (decide := true) only [TF, q1, q2, q3, q4, q5, hk, q6, hg, hgb, hnf, hnfb, q7, q8, ↓reduceIte, Int.reduceToNat]
         refine CallK.pure (c_same2 d.reas[k].scopes e.reas[k].scopes d.reas[k].ns e.reas[k].ns (by have := hdk.1; omega) hdk.2.1 hek.2.1) rfl rfl (by simp [-List.map_take]) ?_
         simp (decide := true) only [TF, q1, q2, q3, q4, q5, hk, q6, hg, hgb, hnf, hnfb, q7, q8, ↓reduceIte, Int.reduceToNat]
         refine hK _ _ ?_; clear hK K
         refine WP.cond (b := _) rfl (fun q9 => ?_) (fun q9 => ?_)
         ·
          refine WP.sr [4] (by kernel_rfl) fun K hK => ?_
          simp (decide := true) only [TF, q1, q2, q3, q4, q5, hk, q6, hg, hgb, hnf, hnfb, q7, q8, q9, ↓reduceIte, Int.reduceToNat]
          refine hK _ _ ?_; clear hK K
          refine WP.ret ?_
          exact Ends.pure (.inr rfl) rfl (Le.of_eq (by simp_all [St.get, lk, W, LN, bne, sameD])) (by simp)
         ·
          refine WP.skip ?_
          show WP _ _ _ _ _ _
          refine WP.region (by kernel_rfl) fun K hK => ?_
          simp (decide := true) only [TF, q1, q2, q3, q4, q5, hk, q6, hg, hgb, hnf, hnfb, q7, q8, q9, ↓reduceIte, Int.reduceToNat]
          refine hK _ _ ?_; clear hK K
          show ∃ y, _ ∧ Weak _ _ _
          refine ⟨⟨k + 1, ?_⟩, ?_, ?_⟩
          · exact ⟨by omega, by first | (simpa [q1, q2, q3, q4, q5, hk, q6, hg, hgb, hnf, hnfb, q7, q8, q9] using hI) | (simp_all; done)⟩
          · dsimp only; omega
          · exact Weak.store (by simp [St.get, lk, W, Le.refl, q1, q2, q3, q4, q5, hk, q6, hg, hgb, hnf, hnfb, q7, q8, q9, wrapS hlt (show d.reas.length ≤ 140737488355328 by omega)]) (by simp [lk, W, q1, q2, q3, q4, q5, hk, q6, hg, hgb, hnf, hnfb, q7, q8, q9, wrapS hlt (show d.reas.length ≤ 140737488355328 by omega)]) (by simp [lk, W]) (by simp [BClo, lk]) (by simp [lk])
      ·
       have hge := ge_of_q q6
       rw [keyN hge (by omega)] at hI
       refine WP.exit ?_
       show WP _ _ _ _ _ _
       refine WP.sr [4] (by kernel_rfl) fun K hK => ?_
       simp (decide := true) only [TF, q1, q2, q3, q4, q5, hk, q6, ↓reduceIte, Int.reduceToNat]
       refine hK _ _ ?_; clear hK K
       refine WP.ret ?_
       exact Ends.pure (.inr rfl) rfl (Le.of_eq (by simp_all [St.get, lk, W, LN, bne, sameD])) (by simp)
theorem c_explain (l : List Rule) (nl : Bool) (d : Dec) (hnl : nl = true → l = []) (hl : ∀ p ∈ l, p.ok) (hd : d.ok) : CallP Pr 15 [.slice 6 nl (l.map Rule.cs) none, .agg [.int .i64 d.eff, .slice 1 d.ns (d.scopes.map fun x => [.str x]) none, .int .i64 d.lvl, .int .i64 d.age, .slice 3 d.nr (d.reas.map Reas.cs) none]] (.slice 1 (explX l d).isEmpty ((explX l d).map (fun x => [D.str x])) none) := by
 have hn := hd.2.2.2.1
 refine CallP.of_wp Tryz.func15 rfl (by kernel_rfl) Tryz.ntmps15 (by simp) ?_
 simp only [frameOf, Nat.reduceAdd, Nat.zero_add]
 refine WP.sr [0, 3] (by kernel_rfl) fun K hK => ?_
 simp (decide := true) only [TF, ↓reduceIte, Int.reduceToNat]
 refine hK _ _ ?_; clear hK K
 refine WP.sr [0, 3, 5] (by kernel_rfl) fun K hK => ?_
 simp (decide := true) only [TF, ↓reduceIte, Int.reduceToNat]
 refine hK _ _ ?_; clear hK K
 refine WP.seq ?_
 refine WP.sr [0, 3, 5, 9, 10, 11] (by kernel_rfl) fun K hK => ?_
 simp (decide := true) only [TF, ↓reduceIte, Int.reduceToNat]
 refine hK _ _ ?_; clear hK K
 refine WP.block ?_
 refine WP.lp [0, 3, 9, 10] (X := {x : (Nat) × (List (List UInt8)) // match x with | (k, o) => k ≤ d.reas.length ∧ o.length ≤ k ∧ d.reas.map (lineX l) = o ++ (d.reas.drop k).map (lineX l)}) (fun x => match x with | ⟨(k, o), _⟩ => [(5, .slice 1 o.isEmpty (o.map (fun x => [D.str x])) (some 1)), (11, .int .i64 k)]) (fun x => match x with | ⟨(k, o), _⟩ => [(1, .tip 9 1 o.length), (0, .box 32 [.int .i64 d.eff, .slice 1 d.ns (d.scopes.map fun x => [.str x]) none, .int .i64 d.lvl, .int .i64 d.age, .slice 3 d.nr (d.reas.map Reas.cs) none])]) (fun x => match x with | ⟨(k, o), _⟩ => d.reas.length - k) (by simp (decide := true) only [W, ↓reduceIte, Int.reduceToNat]; rfl) ?_ ⟨(0, []), ⟨Nat.zero_le _, Nat.zero_le _, by simp⟩⟩ ?_
 rotate_left
 · refine Weak.trans (Weak.ghost 1 9 1 (F' := [(11, .int .i64 0), (10, .int .i64 d.reas.length), (9, .slice 3 d.nr (d.reas.map Reas.cs) none), (5, .slice 1 true [] (some 1)), (3, .ref 0 0), (0, .slice 6 nl (l.map Rule.cs) none)]) (σ' := [(0, .box 32 [.int .i64 d.eff, .slice 1 d.ns (d.scopes.map fun x => [.str x]) none, .int .i64 d.lvl, .int .i64 d.age, .slice 3 d.nr (d.reas.map Reas.cs) none])]) (by simp [lk, W]) (by simp [W, keep, ins, UpF, UpD]) (by simp [UpS, UpB, UpL, UpD])) ?_; exact Weak.store (by simp [St.get, lk, W, Le.refl, W]) (by simp [lk, W]) (by simp [lk]) (by simp [BClo, lk]) (by simp [lk])
 rintro ⟨⟨k, o⟩, hk, hr, hI⟩
 dsimp only
 simp only [List.cons_append, List.nil_append]
 refine WP.sr [0, 3, 5, 9, 10, 11, 12] (by kernel_rfl) fun K hK => ?_
 simp (decide := true) only [TF, hk, ↓reduceIte, Int.reduceToNat]
 refine hK _ _ ?_; clear hK K
 refine WP.seq ?_
 refine WP.cond (b := _) rfl (fun q1 => ?_) (fun q1 => ?_)
 ·
  have hlt := lt_of_q q1
  have hg : (d.reas.map Reas.cs)[k]? = some [.int .i64 d.reas[k].rule, .int .i64 d.reas[k].cond, .slice 1 d.reas[k].ns (d.reas[k].scopes.map fun x => [.str x]) none] := getM hlt
  have hnf := nl_false hd.2.2.2.2.1 hlt
  rw [dropE hlt] at hI
  simp only [List.map_cons] at hI
  have hxk := hd.2.2.2.2.2.1 _ (List.getElem_mem hlt)
  refine WP.skip ?_
  show WP _ _ _ _ _ _
  refine WP.seq ?_
  refine WP.block ?_
  refine WP.sr [0, 3, 5, 7, 9, 10, 11] (by kernel_rfl) fun K hK => ?_
  simp (decide := true) only [TF, hk, q1, hg, hnf, ↓reduceIte, Int.reduceToNat]
  refine hK _ _ ?_; clear hK K
  refine WP.region (by kernel_rfl) fun K hK => ?_
  simp (decide := true) only [TF, hk, q1, hg, hnf, ↓reduceIte, Int.reduceToNat]
  refine CallK.pure (c_line l nl d.reas[k] hnl hl hxk) rfl rfl (by simp [-List.map_take]) ?_
  simp (decide := true) only [TF, hk, q1, hg, hnf, ↓reduceIte, Int.reduceToNat]
  repeat (refine ⟨⟨by (try simp only [List.length_append, List.length_map, List.length_cons, List.length_nil]); omega, by (try simp only [List.length_append, List.length_map, List.length_cons, List.length_nil]); omega⟩, ?_⟩)
  refine hK _ _ ?_; clear hK K
  show WP _ _ _ _ _ _
  refine WP.region (by kernel_rfl) fun K hK => ?_
  simp (decide := true) only [TF, hk, q1, hg, hnf, ↓reduceIte, Int.reduceToNat]
  refine hK _ _ ?_; clear hK K
  show ∃ y, _ ∧ Weak _ _ _
  refine ⟨⟨(k + 1, o ++ [lineX l d.reas[k]]), ?_⟩, ?_, ?_⟩
  · exact ⟨by dsimp only; omega, by simp; omega, by simpa using hI⟩
  · dsimp only; omega
  · exact Weak.store (by simp [St.get, lk, W, Le.refl, isEA, -List.append_assoc, hk, q1, hg, hnf, wrapS hlt (show d.reas.length ≤ 140737488355328 by omega)]) (by simp [lk, W, -List.append_assoc, hk, q1, hg, hnf]) (by simp [lk, W, clo_ap, clo_sl, clo_s1, clo_reL, clo_ruL, -List.mem_append, -List.mem_map, -List.append_assoc]) (by simp [BClo, lk]) (by simp [lk])
 ·
  have hge := ge_of_q q1
  rw [dropN hge] at hI
  simp only [List.map_nil, List.append_nil] at hI
  refine WP.exit ?_
  show WP _ _ _ _ _ _
  refine WP.sr [4] (by kernel_rfl) fun K hK => ?_
  simp (decide := true) only [TF, hk, q1, ↓reduceIte, Int.reduceToNat]
  refine CallK.pure (c_effect d hd) rfl rfl (by simp [-List.map_take]) ?_
  simp (decide := true) only [TF, hk, q1, ↓reduceIte, Int.reduceToNat]
  repeat (refine ⟨⟨by (try simp only [List.length_append, List.length_map, List.length_cons, List.length_nil]); omega, by (try simp only [List.length_append, List.length_map, List.length_cons, List.length_nil]); omega⟩, ?_⟩)
  refine hK _ _ ?_; clear hK K
  refine WP.ret ?_
  exact Ends.pure (.inr rfl) rfl ((by rw [show explX l d = o ++ [effX d] from by rw [explX, hI]]; exact Le.trans (Le.fg _) (Le.of_eq (by simp [St.get, lk, W, fg])))) (by simp)
theorem c_missing (d : Dec) (r : Req) (hd : d.ok) (hr : r.ok) (hrs : ∀ s ∈ r.scopes, s.length ≤ 1099511627776) : CallP Pr 18 [.agg [.int .i64 d.eff, .slice 1 d.ns (d.scopes.map fun x => [.str x]) none, .int .i64 d.lvl, .int .i64 d.age, .slice 3 d.nr (d.reas.map Reas.cs) none], .agg [.str r.user, .str r.client, .str r.tenant, .slice 1 r.ng (r.groups.map fun x => [.str x]) none, .slice 1 r.ns (r.scopes.map fun x => [.str x]) none, .int .i64 r.risk, .bool r.trusted, .int .i64 r.level, .int .i64 r.auth, .int .i64 r.now]] (.slice 1 (srtR (r.scopes.filter (fun s => !(covB s d.scopes)))).isEmpty ((srtR (r.scopes.filter (fun s => !(covB s d.scopes)))).map (fun x => [D.str x])) none) := by
 refine CallP.of_wp Tryz.func18 rfl (by kernel_rfl) Tryz.ntmps18 (by simp) ?_
 simp only [frameOf, Nat.reduceAdd, Nat.zero_add]
 refine WP.sr [2, 3] (by kernel_rfl) fun K hK => ?_
 simp (decide := true) only [TF, ↓reduceIte, Int.reduceToNat]
 refine hK _ _ ?_; clear hK K
 refine WP.sr [4] (by kernel_rfl) fun K hK => ?_
 simp (decide := true) only [TF, ↓reduceIte, Int.reduceToNat]
 refine CallK.pure (c_minus r.scopes d.scopes r.ns d.ns hr.2.2.1 hr.2.2.2 hrs (by have := hd.1; omega) hd.2.1 hd.2.2.1) rfl rfl (by simp [-List.map_take]) ?_
 simp (decide := true) only [TF, ↓reduceIte, Int.reduceToNat]
 refine hK _ _ ?_; clear hK K
 refine WP.ret ?_
 exact Ends.pure (.inr rfl) rfl (Le.of_eq (by simp (decide := true) only [St.get, lk, W, ↓reduceIte])) (by simp)
end Go.Proofs

set_option linter.unusedSimpArgs false
set_option linter.unusedVariables false
namespace Go.Proofs
open Go Go.Id
/-- The reason of rule i, without scopes. -/
def mkR (l : List Rule) (r : Req) (i : Nat) : Reas := ⟨i, FL l r i, [], true⟩
def row0 (l : List Rule) (r : Req) (i : Nat) : List D := [.int .i64 i, .int .i64 (FL l r i), .slice 0 true [] none]
def rows0 (l : List Rule) (r : Req) (n : Nat) : List (List D) := (List.range n).map (row0 l r)
def Reas.nrm (x : Reas) : Reas := { x with ns := x.scopes.isEmpty }
def reaT (b : Nat) (x : Reas) : List D := [.int .i64 x.rule, .int .i64 x.cond, .slice 1 x.scopes.isEmpty (x.scopes.map fun x => [.str x]) (some b)]
def rowsT : Nat → List Reas → List (List D)
  | _, [] => []
  | b, x :: l => reaT b x :: rowsT (b + 1) l
def fam : Nat → List Reas → List (Nat × Blk)
  | _, [] => []
  | b, x :: l => (b, .tip 9 1 x.scopes.length) :: fam (b + 1) l
def rowsN (rs : List Reas) : List (List D) := rs.map fun x => x.nrm.cs
structure PS where
  all : List (List UInt8)
  rs : List Reas
  lvl : Int
  age : Int
def addS (s : List UInt8) (x : Reas) : Reas := if x.scopes.contains s = true then x else { x with scopes := x.scopes ++ [s] }
def ageU (a b : Int) : Int := if (decide (b > 0) && (a == 0 || decide (b < a))) = true then b else a
def lvlU (a b : Int) : Int := if b > a then b else a
def pStep (l : List Rule) (r : Req) (q : PS) (s : List UInt8) : PS :=
  if decide (grP r s l 0 < 0) = true then q else
    match l[(grP r s l 0).toNat]? with
    | some p => ⟨q.all ++ [s], q.rs.modify (grP r s l 0).toNat (addS s), lvlU q.lvl p.lvl, ageU q.age p.age⟩
    | none => q
def ps0 (l : List Rule) (r : Req) : PS := ⟨[], (List.range l.length).map (mkR l r), 0, 0⟩
def psR (l : List Rule) (r : Req) : PS := r.scopes.foldl (pStep l r) (ps0 l r)

theorem grP_nat (r : Req) (s : List UInt8) : ∀ (l : List Rule) (k : Nat), grP r s l k = -1 ∨ ∃ i, i < l.length ∧ grP r s l k = ((k + i : Nat) : Int)
  | [], k => .inl rfl
  | p :: l, k => by
    unfold grP
    split
    · exact .inr ⟨0, by simp, rfl⟩
    · rcases grP_nat r s l (k + 1) with h | ⟨i, h1, h2⟩
      · exact .inl h
      · exact .inr ⟨i + 1, by simp; omega, by rw [h2]; congr 1; omega⟩
theorem grP_at {r : Req} {s : List UInt8} {l : List Rule} (h : decide (grP r s l 0 < 0) = false) : ∃ i, i < l.length ∧ grP r s l 0 = (i : Int) := by
  have h := of_decide_eq_false h
  rcases grP_nat r s l 0 with e | ⟨i, h1, h2⟩
  · omega
  · exact ⟨i, h1, by rw [h2, Nat.zero_add]⟩
theorem pStep_no {l : List Rule} {r : Req} {q : PS} {s : List UInt8} (h : decide (grP r s l 0 < 0) = true) : pStep l r q s = q := by unfold pStep; rw [if_pos h]
theorem pStep_at {l : List Rule} {r : Req} {q : PS} {s : List UInt8} {i : Nat} (hi : i < l.length) (h : grP r s l 0 = (i : Int)) : pStep l r q s = ⟨q.all ++ [s], q.rs.modify i (addS s), lvlU q.lvl l[i].lvl, ageU q.age l[i].age⟩ := by
  unfold pStep
  rw [h, if_neg (by simp), Int.toNat_natCast, getE hi]

theorem rowsT_len : ∀ (b : Nat) (rs : List Reas), (rowsT b rs).length = rs.length
  | _, [] => rfl
  | b, x :: l => by simp [rowsT, rowsT_len]
theorem rowsT_mem : ∀ (b : Nat) (rs : List Reas), ∀ x ∈ rowsT b rs, x.length = 3
  | _, [], x, h => by simp [rowsT] at h
  | b, y :: l, x, h => by
    rcases List.mem_cons.1 h with rfl | h
    · rfl
    · exact rowsT_mem _ _ x h
theorem rowsT_flen (b : Nat) (rs : List Reas) : (rowsT b rs).flatten.length = rs.length * 3 := by rw [flat_len _ (rowsT_mem b rs), rowsT_len]
theorem rowsT_drop : ∀ (rs : List Reas) (b i : Nat) (h : i < rs.length), (rowsT b rs).flatten.drop (i * 3 + 2) = .slice 1 rs[i].scopes.isEmpty (rs[i].scopes.map fun x => [.str x]) (some (b + i)) :: (rowsT b rs).flatten.drop (i * 3 + 3)
  | x :: l, b, 0, _ => rfl
  | x :: l, b, i + 1, h => by
    have ih := rowsT_drop l (b + 1) i (by simpa using h)
    rw [show (i + 1) * 3 + 2 = (i * 3 + 2) + 3 from by omega, show (i + 1) * 3 + 3 = (i * 3 + 3) + 3 from by omega, show b + (i + 1) = b + 1 + i from by omega]
    exact ih
  | [], b, i, h => by simp at h
theorem rowsT_set (f : Reas → Reas) (hf : ∀ x, (f x).rule = x.rule ∧ (f x).cond = x.cond) : ∀ (rs : List Reas) (b i : Nat) (h : i < rs.length),
    (rowsT b rs).flatten.take (i * 3 + 2) ++ [D.slice 1 (f rs[i]).scopes.isEmpty ((f rs[i]).scopes.map fun x => [.str x]) (some (b + i))] ++ (rowsT b rs).flatten.drop (i * 3 + 2 + 1) = (rowsT b (rs.modify i f)).flatten
  | x :: l, b, 0, _ => by
    simp only [List.modify_zero_cons, rowsT, List.flatten_cons, reaT, (hf x).1, (hf x).2]
    rfl
  | x :: l, b, i + 1, h => by
    have ih := rowsT_set f hf l (b + 1) i (by simpa using h)
    rw [show (i + 1) * 3 + 2 = (i * 3 + 2) + 3 from by omega, show (i * 3 + 2) + 3 + 1 = (i * 3 + 2 + 1) + 3 from by omega, show b + (i + 1) = b + 1 + i from by omega]
    simp only [List.modify_succ_cons, rowsT, List.flatten_cons, reaT]
    have e : ∀ (p q s : D) (m : Nat) (L : List D), List.take (m + 3) ([p, q, s] ++ L) = [p, q, s] ++ List.take m L := fun p q s m L => rfl
    have e' : ∀ (p q s : D) (m : Nat) (L : List D), List.drop (m + 3) ([p, q, s] ++ L) = List.drop m L := fun p q s m L => rfl
    rw [e, e', ← ih, List.getElem_cons_succ]
    simp only [List.append_assoc]
  | [], b, i, h => by simp at h
theorem fam_at : ∀ (rs : List Reas) (b i : Nat) (h : i < rs.length), lk (fam b rs) (b + i) = some (.tip 9 1 rs[i].scopes.length)
  | x :: l, b, 0, _ => by simp [fam, lk]
  | x :: l, b, i + 1, h => by
    have ih := fam_at l (b + 1) i (by simpa using h)
    rw [fam, lk, if_neg (by omega), show b + (i + 1) = b + 1 + i from by omega, ih]; rfl
  | [], b, i, h => by simp at h
theorem fam_upd (f : Reas → Reas) : ∀ (rs : List Reas) (b i : Nat) (h : i < rs.length) (j : Nat), lk (fam b (rs.modify i f)) j = if j = b + i then some (.tip 9 1 (f rs[i]).scopes.length) else lk (fam b rs) j
  | x :: l, b, 0, _, j => by
    simp only [List.modify_zero_cons, fam, lk, Nat.add_zero, List.getElem_cons_zero]
    split <;> rfl
  | x :: l, b, i + 1, h, j => by
    have ih := fam_upd f l (b + 1) i (by simpa using h) j
    simp only [List.modify_succ_cons, fam, lk, List.getElem_cons_succ]
    rw [ih, show b + 1 + i = b + (i + 1) from by omega]
    by_cases hj : j = b
    · rw [if_pos hj, if_pos hj, if_neg (by omega)]
    · rw [if_neg hj, if_neg hj]
  | [], b, i, h, _ => by simp at h
theorem fam_0 : ∀ (rs : List Reas) (b j : Nat), (∀ x ∈ rs, x.scopes = []) → lk (fam b rs) j = if b ≤ j ∧ j < b + rs.length then some (.tip 9 1 0) else none
  | [], b, j, _ => by rw [if_neg (by intro h; simp only [List.length_nil] at h; omega)]; rfl
  | x :: l, b, j, h => by
    rw [fam, lk, fam_0 l (b + 1) j (fun y hy => h y (by simp [hy])), h x (by simp)]
    simp only [List.length_cons, List.length_nil]
    by_cases hj : j = b
    · rw [if_pos hj, if_pos (by omega)]
    · rw [if_neg hj]
      by_cases hr : b + 1 ≤ j ∧ j < b + 1 + l.length
      · rw [if_pos hr, if_pos (by omega)]
      · rw [if_neg hr, if_neg (by omega)]
/-- The names of the rows are forgotten. -/
theorem rowsT_nrm : ∀ (rs : List Reas) (b : Nat), Les (rowsT b rs).flatten (rowsN rs).flatten
  | [], b => trivial
  | x :: l, b => ⟨Le.refl _, Le.refl _, Le.fg _, rowsT_nrm l (b + 1)⟩
theorem rowsN_clo {S : Nat → Prop} (rs : List Reas) : ∀ d ∈ (rowsN rs).flatten, Clo S d := by
  intro d hd
  simp only [rowsN, List.mem_flatten, List.mem_map] at hd
  obtain ⟨e, ⟨x, _, rfl⟩, hd⟩ := hd
  exact (clo_reas x.nrm).2 trivial d hd
theorem rowsN_len (rs : List Reas) : (rowsN rs).length = rs.length := List.length_map _
theorem rowsN_mem (rs : List Reas) : ∀ x ∈ rowsN rs, x.length = 3 := by
  simp only [rowsN, List.mem_map]
  rintro e ⟨x, _, rfl⟩; rfl
theorem rows0_len (l : List Rule) (r : Req) (n : Nat) : (rows0 l r n).length = n := by simp [rows0]
theorem rowsT_get : ∀ (rs : List Reas) (b i : Nat) (h : i < rs.length), (rowsT b rs)[i]? = some (reaT (b + i) rs[i])
  | x :: l, b, 0, _ => rfl
  | x :: l, b, i + 1, h => by
    have ih := rowsT_get l (b + 1) i (by simpa using h)
    rw [rowsT, List.getElem?_cons_succ, ih, show b + 1 + i = b + (i + 1) from by omega]; rfl
  | [], b, i, h => by simp at h
theorem rows0_up (l : List Rule) (r : Req) (n b : Nat) : ∀ (k : Nat) x x', (rows0 l r n)[k]? = some x → (rowsT b ((List.range n).map (mkR l r)))[k]? = some x' → UpL (b + k) 1 x x' := by
  intro k x x' h1 h2
  have hk : k < n := by have := (List.getElem?_eq_some_iff.1 h1).1; simpa [rows0] using this
  have hk' : k < ((List.range n).map (mkR l r)).length := by simpa using hk
  rw [rowsT_get _ b k hk'] at h2
  simp only [rows0, List.getElem?_map, List.getElem?_range hk, Option.map_some, Option.some.injEq] at h1
  simp only [Option.some.injEq] at h2
  subst h1; subst h2
  simp only [List.getElem_map, List.getElem_range]
  exact ⟨.inl rfl, .inl rfl, .inr ⟨0, rfl, rfl⟩, trivial⟩
theorem modify_len {α : Type} (l : List α) (i : Nat) (f : α → α) : (l.modify i f).length = l.length := by simp
theorem addS_rc (s : List UInt8) (x : Reas) : (addS s x).rule = x.rule ∧ (addS s x).cond = x.cond := by unfold addS; split <;> exact ⟨rfl, rfl⟩
/-- What holds between two rounds. -/
structure PI (l : List Rule) (r : Req) (k : Nat) (q : PS) : Prop where
  len : q.rs.length = l.length
  alen : q.all.length ≤ k
  mem : ∀ x ∈ q.all, x ∈ r.scopes
  rlen : ∀ x ∈ q.rs, x.scopes.length ≤ k
  rsub : ∀ x ∈ q.rs, ∀ s ∈ x.scopes, s ∈ r.scopes
  run : psR l r = (r.scopes.drop k).foldl (pStep l r) q
theorem PI.start (l : List Rule) (r : Req) : PI l r 0 (ps0 l r) := ⟨by simp [ps0], by simp [ps0], by simp [ps0], by simp [ps0, mkR], by simp [ps0, mkR], rfl⟩
theorem PI.next {l : List Rule} {r : Req} {k : Nat} {q : PS} (h : PI l r k q) (hk : k < r.scopes.length) : PI l r (k + 1) (pStep l r q r.scopes[k]) := by
  have hr := h.run
  rw [dropE hk, List.foldl_cons] at hr
  cases hc : decide (grP r r.scopes[k] l 0 < 0) with
  | true =>
    rw [pStep_no hc] at hr ⊢
    exact ⟨h.len, by have := h.alen; omega, h.mem, fun x hx => by have := h.rlen x hx; omega, h.rsub, hr⟩
  | false =>
    obtain ⟨i, hi, hg⟩ := grP_at hc
    rw [pStep_at hi hg] at hr ⊢
    have hm : ∀ x ∈ q.rs.modify i (addS r.scopes[k]), x.scopes.length ≤ k + 1 ∧ ∀ s ∈ x.scopes, s ∈ r.scopes := by
      intro x hx
      obtain ⟨j, hj, rfl⟩ := List.mem_iff_getElem.1 hx
      have hj' : j < q.rs.length := by simpa using hj
      rw [List.getElem_modify]
      have h1 := h.rlen _ (List.getElem_mem hj')
      have h2 := h.rsub _ (List.getElem_mem hj')
      split
      · unfold addS
        split
        · exact ⟨by omega, h2⟩
        · refine ⟨by simp; omega, fun s hs => ?_⟩
          rcases List.mem_append.1 hs with hs | hs
          · exact h2 s hs
          · rw [List.mem_singleton] at hs; rw [hs]; exact List.getElem_mem hk
      · exact ⟨by omega, h2⟩
    refine ⟨by rw [modify_len]; exact h.len, by have := h.alen; simp; omega, fun x hx => ?_, fun x hx => (hm x hx).1, fun x hx => (hm x hx).2, hr⟩
    rcases List.mem_append.1 hx with hx | hx
    · exact h.mem x hx
    · rw [List.mem_singleton] at hx; rw [hx]; exact List.getElem_mem hk
/-- The start of the rounds: the row of reasons (named b), and a list of one's own (named t). -/
theorem weak_rows {ent : List Nat} {st st' : St} {l : List Rule} {r : Req} (t b base : Nat) {F1 : List (Nat × D)} (h2 : lk st.σ b = some (.arr 36 (rows0 l r l.length).flatten)) (hn : ∀ k, k < l.length → lk st.σ (base + k) = none) (h0 : lk st.σ t = none) (ht : t < base) (hF : UpF t 1 st.F F1) (hF' : ∀ p ∈ st'.F, Le (St.get ⟨F1, []⟩ p.1) p.2)
    (hσ : ∀ i, lk st'.σ i = if i = t then some (.tip 9 1 0) else if i = b then some (.arr 36 (rowsT base (ps0 l r).rs).flatten) else if base ≤ i ∧ i < base + l.length then some (.tip 9 1 0) else lk st.σ i) : Weak ent st st' := by
  have htb : t ≠ b := fun e => by rw [e, h2] at h0; cases h0
  obtain ⟨st1, w1, f1, e1⟩ := Weak.ghosts (ent := ent) b 36 9 1 (rows0 l r l.length) (rowsT base (ps0 l r).rs) base [] st (by simpa using h2) (by rw [rows0_len]; exact hn) (by rw [rowsT_len, rows0_len]; simp [ps0]) (rows0_up l r l.length base)
  rw [rows0_len] at e1
  have w2 : Weak ent st1 ⟨F1, (t, .tip 9 1 0) :: st1.σ⟩ := Weak.ghost t 9 1 (by rw [e1, if_neg htb, if_neg (by omega)]; exact h0) (by rw [f1]; exact hF) (UpS.refl _ _ _)
  refine w1.trans (w2.trans (Weak.of_lk hF' fun i => ?_))
  rw [hσ, lk, e1]
  rfl
theorem addS_in {s : List UInt8} {x : Reas} (h : x.scopes.contains s = true) : addS s x = x := by unfold addS; rw [if_pos h]
theorem addS_out {s : List UInt8} {x : Reas} (h : x.scopes.contains s = false) : (addS s x).scopes = x.scopes ++ [s] := by unfold addS; rw [if_neg (by rw [h]; decide)]
theorem modify_in {s : List UInt8} {rs : List Reas} {i : Nat} (hi : i < rs.length) (h : rs[i].scopes.contains s = true) : rs.modify i (addS s) = rs := by
  apply List.ext_getElem (by simp)
  intro j h1 h2
  rw [List.getElem_modify]
  split
  · rename_i e; subst e; exact addS_in h
  · rfl
theorem rows_set {s : List UInt8} {rs : List Reas} {b i : Nat} (hi : i < rs.length) (h : rs[i].scopes.contains s = false) : (rowsT b rs).flatten.take (i * 3 + 2) ++ [D.slice 1 false (rs[i].scopes.map (fun x => [D.str x]) ++ [[D.str s]]) (some (b + i))] ++ (rowsT b rs).flatten.drop (i * 3 + 2 + 1) = (rowsT b (rs.modify i (addS s))).flatten := by
  have := rowsT_set (addS s) (addS_rc s) rs b i hi
  rw [addS_out h] at this
  simpa [isEA] using this
theorem fam_set {s : List UInt8} {rs : List Reas} {b i : Nat} (hi : i < rs.length) (h : rs[i].scopes.contains s = false) (j : Nat) : lk (fam b (rs.modify i (addS s))) j = if j = b + i then some (.tip 9 1 (rs[i].scopes.length + 1)) else lk (fam b rs) j := by
  have := fam_upd (addS s) rs b i hi j
  rw [addS_out h] at this
  simpa using this
end Go.Proofs
