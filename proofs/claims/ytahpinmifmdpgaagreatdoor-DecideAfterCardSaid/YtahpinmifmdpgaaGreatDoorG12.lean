import Derived.Test.YtahpinmifmdpgaaGreatDoorG11
set_option linter.unusedVariables false
set_option linter.unusedSimpArgs false
set_option linter.unnecessarySimpa false
namespace Go.Proofs
open Go Go.Id
structure Alike (l : List Rule) (r q : Req) : Prop where
 first : ∀ p ∈ l, firstL r p.conds 0 = firstL q p.conds 0
 scopes : r.scopes = q.scopes
 level : r.level = q.level
 auth : r.auth = q.auth
 now : r.now = q.now
theorem okM_alike {l : List Rule} {r q : Req} (h : ∀ p ∈ l, firstL r p.conds 0 = firstL q p.conds 0) {p : Rule} (hp : p ∈ l) : okM p r = okM p q := by unfold okM; rw [h p hp]
theorem any_alike {α : Type} {f g : α → Bool} : ∀ {l : List α}, (∀ p ∈ l, f p = g p) → l.any f = l.any g
 | [], _ => rfl
 | x :: l, h => by rw [List.any_cons, List.any_cons, h x (by simp), any_alike fun p hp => h p (by simp [hp])]
theorem denyB_alike {l : List Rule} {r q : Req} (h : ∀ p ∈ l, firstL r p.conds 0 = firstL q p.conds 0) : denyB l r = denyB l q := any_alike fun p hp => by rw [okM_alike h hp]
theorem run_cases (l : List Rule) (r : Req) :
  ((checkE l != 0) = true ∧ runD l r = noD) ∨
  ((checkE l != 0) = false ∧ denyB l r = true ∧ runD l r = ⟨2, [], true, 0, 0, reasD l r, l.isEmpty⟩) ∨
  ((checkE l != 0) = false ∧ denyB l r = false ∧ (psR l r).all ≠ [] ∧ runD l r = ⟨1, srtR (psR l r).all, (srtR (psR l r).all).isEmpty, (psR l r).lvl, (psR l r).age, (psR l r).rs.map Reas.nrm, l.isEmpty⟩) ∨
  ((checkE l != 0) = false ∧ denyB l r = false ∧ (psR l r).all = [] ∧ runD l r = stepD r (dec4 l r) l) := by
 cases h0 : checkE l != 0 with
 | true => exact .inl ⟨rfl, runD_1 h0⟩
 | false =>
  cases h1 : denyB l r with
  | true => exact .inr (.inl ⟨rfl, rfl, runD_2 h0 h1⟩)
  | false =>
   cases h2 : (psR l r).all with
   | nil => exact .inr (.inr (.inr ⟨rfl, rfl, rfl, runD_4 h0 h1 (by rw [h2]; rfl)⟩))
   | cons a b => exact .inr (.inr (.inl ⟨rfl, rfl, nofun, by rw [← h2]; exact runD_3 h0 h1 (by rw [h2]; exact decide_eq_true (by simp))⟩))
theorem grP_find (r : Req) (s : List UInt8) : ∀ (l : List Rule) (k : Nat), match l.find? (okG r s) with
  | none => grP r s l k = -1
  | some p => ∃ i, grP r s l k = ((k + i : Nat) : Int) ∧ l[i]? = some p
 | [], k => rfl
 | p :: l, k => by
  unfold grP
  rw [List.find?_cons]
  split
  ·rename_i p' hf
   cases ho : okG r s p with
   | true => rw [ho] at hf; cases hf
   | false =>
    rw [ho] at hf
    have := grP_find r s l (k + 1)
    simp only at hf
    rw [hf] at this
    simpa using this
  ·rename_i p' hf
   cases ho : okG r s p with
   | true => rw [ho] at hf; cases hf; exact ⟨0, rfl, rfl⟩
   | false =>
    rw [ho] at hf
    have := grP_find r s l (k + 1)
    simp only at hf
    rw [hf] at this
    obtain ⟨i, h1, h2⟩ := this
    exact ⟨i + 1, by simp only [Bool.false_eq_true, ↓reduceIte]; rw [h1]; congr 1; try omega, by simpa using h2⟩
def pf (fd : List UInt8 → Option Rule) (ss : List (List UInt8)) : List (List UInt8) × Int × Int :=
 ss.foldl (fun q s => match fd s with | none => q | some p => (q.1 ++ [s], lvlU q.2.1 p.lvl, ageU q.2.2 p.age)) ([], 0, 0)
theorem psR_pf (l : List Rule) (r : Req) : pf (fun s => l.find? (okG r s)) r.scopes = ((psR l r).all, (psR l r).lvl, (psR l r).age) := by
 have key : ∀ (ss : List (List UInt8)) (q : PS), ss.foldl (fun q s => match l.find? (okG r s) with | none => q | some p => (q.1 ++ [s], lvlU q.2.1 p.lvl, ageU q.2.2 p.age)) (q.all, q.lvl, q.age) = ((ss.foldl (pStep l r) q).all, (ss.foldl (pStep l r) q).lvl, (ss.foldl (pStep l r) q).age) := by
  intro ss
  induction ss with
  | nil => intro q; rfl
  | cons s ss ih =>
   intro q
   rw [List.foldl_cons, List.foldl_cons, ← ih]
   congr 1
   have hf := grP_find r s l 0
   cases h : l.find? (okG r s) with
   | none =>
    rw [h] at hf
    rw [pStep_no (by rw [hf]; rfl)]
   | some p =>
    rw [h] at hf
    obtain ⟨i, h1, h2⟩ := hf
    obtain ⟨hi, hp⟩ := List.getElem?_eq_some_iff.1 h2
    rw [pStep_at hi (by rw [h1, Nat.zero_add]), hp]
 exact key r.scopes (ps0 l r)
structure PF (fd : List UInt8 → Option Rule) (ss : List (List UInt8)) (q : List (List UInt8) × Int × Int) : Prop where
 mem : ∀ s, s ∈ q.1 ↔ s ∈ ss ∧ (fd s).isSome = true
 lvl : q.2.1 = 0 ∨ ∃ s ∈ ss, ∃ p, fd s = some p ∧ q.2.1 = p.lvl
theorem pf_ok (fd : List UInt8 → Option Rule) (ss : List (List UInt8)) : PF fd ss (pf fd ss) := by
 have key : ∀ (ss ts : List (List UInt8)) (q : List (List UInt8) × Int × Int), PF fd ts q → PF fd (ts ++ ss) (ss.foldl (fun q s => match fd s with | none => q | some p => (q.1 ++ [s], lvlU q.2.1 p.lvl, ageU q.2.2 p.age)) q) := by
  intro ss
  induction ss with
  | nil => intro ts q h; simpa using h
  | cons s ss ih =>
   intro ts q h
   rw [List.foldl_cons, show ts ++ s :: ss = (ts ++ [s]) ++ ss by simp]
   refine ih _ _ ?_
   cases hf : fd s with
   | none =>
    refine ⟨fun x => ?_, ?_⟩
    ·rw [h.mem, List.mem_append, List.mem_singleton]
     constructor
     ·rintro ⟨a, b⟩; exact ⟨.inl a, b⟩
     ·rintro ⟨a | rfl, b⟩
      ·exact ⟨a, b⟩
      ·rw [hf] at b; cases b
    ·rcases h.lvl with e | ⟨x, hx, p, h1, h2⟩
     ·exact .inl e
     ·exact .inr ⟨x, by simp [hx], p, h1, h2⟩
   | some p =>
    refine ⟨fun x => ?_, ?_⟩
    ·dsimp only
     rw [List.mem_append, h.mem, List.mem_append, List.mem_singleton]
     constructor
     ·rintro (⟨a, b⟩ | rfl)
      ·exact ⟨.inl a, b⟩
      ·exact ⟨.inr rfl, by rw [hf]; rfl⟩
     ·rintro ⟨a | rfl, b⟩
      ·exact .inl ⟨a, b⟩
      ·exact .inr rfl
    ·dsimp only
     unfold lvlU
     split
     ·exact .inr ⟨s, by simp, p, hf, rfl⟩
     ·rcases h.lvl with e | ⟨x, hx, p, h1, h2⟩
      ·exact .inl e
      ·exact .inr ⟨x, by simp [hx], p, h1, h2⟩
 have := key ss [] ([], 0, 0) ⟨by simp, .inl rfl⟩
 exact this
theorem psR_mem (l : List Rule) (r : Req) (s : List UInt8) : s ∈ (psR l r).all ↔ s ∈ r.scopes ∧ ∃ p ∈ l, okG r s p = true := by
 have h := (pf_ok (fun s => l.find? (okG r s)) r.scopes).mem s
 rw [psR_pf] at h
 rw [h]
 rw [List.find?_isSome]
structure Permits (l : List Rule) (r : Req) : Prop where
 chk : (checkE l != 0) = false
 deny : denyB l r = false
 ne : (((runD l r).scopes.length : Int) == 0) = false
 lvl : decide ((runD l r).lvl > r.level) = false
 each : ∀ s ∈ (runD l r).scopes, s ∈ r.scopes ∧ l.any (grC r s) = true
def laB (c : Cond) : Bool := c.f == [108, 101, 118, 101, 108] || c.f == [97, 103, 101]
theorem holdsB_aft {c : Cond} {r : Req} {n : Int} (h : laB c = false) : holdsB c (aftR r n) = holdsB c r := by
 simp only [laB, Bool.or_eq_false_iff, beq_eq_false_iff_ne] at h
 have hw : wordR c.f (aftR r n) = wordR c.f r := rfl
 have hm : membR c.f (aftR r n) = membR c.f r := rfl
 by_cases hn : c.f = [104, 111, 117, 114] ∨ c.f = [114, 105, 115, 107]
 ·have hs : measR c.f (aftR r n) = measR c.f r := by
   unfold measR
   rcases hn with e | e <;> rw [e] <;> simp [aftR]
  unfold holdsB
  rw [hw, hm, hs]
 ·unfold holdsB
  rw [hw, hm]
  cases hp : possB c with
  | false => rfl
  | true =>
   rw [not_or] at hn
   unfold possB at hp
   split at hp
   ·simp only [Bool.and_eq_true, Bool.or_eq_true, beq_iff_eq] at hp
    rcases hp.1 with e | e <;> simp [e]
   split at hp
   ·simp only [Bool.and_eq_true, Bool.or_eq_true, beq_iff_eq] at hp
    rcases hp.1 with e | e <;> simp [e]
   split at hp
   ·simp only [Bool.and_eq_true, Bool.or_eq_true, beq_iff_eq] at hp
    rcases hp.1 with e | e <;> simp [e]
   split at hp
   ·simp only [Bool.and_eq_true, Bool.or_eq_true, beq_iff_eq] at hp
    simp [hp.1]
   ·exfalso
    simp [numF, h.1, h.2, hn.1, hn.2] at hp
theorem firstL_eq {r q : Req} : ∀ (l : List Cond) (i : Int), (∀ c ∈ l, holdsB c r = holdsB c q) → firstL r l i = firstL q l i
 | [], _, _ => rfl
 | c :: l, i, h => by
  unfold firstL
  rw [h c (by simp), firstL_eq l (i + 1) fun d hd => h d (by simp [hd])]
theorem run_after {l : List Rule} {r : Req} (h : ((runD l r).eff != 3) = false) (hla : ∀ p ∈ l, ∀ c ∈ p.conds, laB c = false) : ((runD l (aftR r (runD l r).lvl)).eff == 1) = true := by
 rcases run_cases l r with ⟨_, e⟩ | ⟨_, _, e⟩ | ⟨_, _, _, e⟩ | ⟨h0, h1, h2, e⟩
 ·rw [e] at h; cases h
 ·rw [e] at h; cases h
 ·rw [e] at h; cases h
 ·rcases stepD_sp r (dec4 l r) l with e2 | ⟨p, hp, e2, ho⟩
  ·rw [e, e2] at h; cases h
  ·have hlv : (runD l r).lvl = p.lvl := by rw [e, e2]
   rw [hlv]
   have hf : ∀ q ∈ l, firstL (aftR r p.lvl) q.conds 0 = firstL r q.conds 0 := fun q hq => firstL_eq _ _ fun c hc => holdsB_aft (hla q hq c hc)
   have hd : denyB l (aftR r p.lvl) = false := by rw [denyB_alike hf]; exact h1
   simp only [okS, Bool.and_eq_true, List.any_eq_true] at ho
   obtain ⟨⟨o1, o2⟩, s, hs, o3⟩ := ho
   have hG : okG (aftR r p.lvl) s p = true := by
    simp only [okG, Bool.and_eq_true]
    refine ⟨⟨⟨by rw [okM_alike hf hp]; exact o1, o2⟩, o3⟩, ?_⟩
    unfold satB
    rw [if_neg]
    ·have : decide ((aftR r p.lvl).auth ≥ (aftR r p.lvl).now) = true := decide_eq_true (Int.le_refl _)
     rw [this]; simp
    ·intro hc
     have hc := of_decide_eq_true hc
     simp only [aftR] at hc
     by_cases hx : p.lvl > r.level
     ·rw [if_pos hx] at hc; omega
     ·rw [if_neg hx] at hc; omega
   have hm : s ∈ (psR l (aftR r p.lvl)).all := (psR_mem _ _ _).2 ⟨hs, p, hp, hG⟩
   rw [runD_3 h0 hd (decide_eq_true (by have := List.length_pos_of_mem hm; omega))]
   rfl
def Dec.big (d : Dec) : Prop := d.scopes.length ≤ 9223372036854775807 ∧ (d.ns = true → d.scopes = []) ∧ d.reas.length ≤ 9223372036854775807 ∧ (d.nr = true → d.reas = []) ∧ (∀ x ∈ d.reas, x.scopes.length ≤ 9223372036854775807 ∧ (x.ns = true → x.scopes = [])) ∧ (-9223372036854775808 ≤ d.lvl ∧ d.lvl ≤ 9223372036854775807) ∧ (-9223372036854775808 ≤ d.age ∧ d.age ≤ 9223372036854775807)
end Go.Proofs
