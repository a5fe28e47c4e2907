import Derived.Test.YtahpinmifmdpgaaGreatDoorG08
set_option linter.unusedVariables false
set_option linter.unusedSimpArgs false
set_option linter.unusedSimpArgs false
set_option linter.unusedVariables false
namespace Go.Proofs
open Go Go.Id
/-- Requests that no rule tells apart. -/
structure Alike (l : List Rule) (r q : Req) : Prop where
  first : ∀ p ∈ l, firstL r p.conds 0 = firstL q p.conds 0
  scopes : r.scopes = q.scopes
  level : r.level = q.level
  auth : r.auth = q.auth
  now : r.now = q.now
/-- The four ways of a decision. -/
theorem run_cases (l : List Rule) (r : Req) :
    ((checkE l != 0) = true ∧ runD l r = noD) ∨
    ((checkE l != 0) = false ∧ denyB l r = true ∧ runD l r = ⟨2, [], true, 0, 0, reasD l r, l.isEmpty⟩) ∨
    ((checkE l != 0) = false ∧ denyB l r = false ∧ (psR l r).all ≠ [] ∧ runD l r = ⟨1, srtR (psR l r).all, (srtR (psR l r).all).isEmpty, (psR l r).lvl, (psR l r).age, (psR l r).rs.map Reas.nrm, l.isEmpty⟩) ∨
    ((checkE l != 0) = false ∧ denyB l r = false ∧ (psR l r).all = [] ∧ runD l r = stepD r (dec4 l r) l) := by
  cases h0 : checkE l != 0 with
  | true => exact .inl ⟨rfl, runD_1 h0⟩
  | false =>
    cases h1 : denyB l r with
    | true => exact .inr (.inl ⟨rfl, rfl, runD_2 h0 h1⟩)
    | false =>
      cases h2 : (psR l r).all with
      | nil => exact .inr (.inr (.inr ⟨rfl, rfl, rfl, runD_4 h0 h1 (by rw [h2]; rfl)⟩))
      | cons a b => exact .inr (.inr (.inl ⟨rfl, rfl, nofun, by rw [← h2]; exact runD_3 h0 h1 (by rw [h2]; exact decide_eq_true (by simp))⟩))
theorem grP_find (r : Req) (s : List UInt8) : ∀ (l : List Rule) (k : Nat), match l.find? (okG r s) with
    | none => grP r s l k = -1
    | some p => ∃ i, grP r s l k = ((k + i : Nat) : Int) ∧ l[i]? = some p
  | [], k => rfl
  | p :: l, k => by
    unfold grP
    rw [List.find?_cons]
    split
    · rename_i p' hf
      cases ho : okG r s p with
      | true => rw [ho] at hf; cases hf
      | false =>
        rw [ho] at hf
        have := grP_find r s l (k + 1)
        simp only at hf
        rw [hf] at this
        simpa using this
    · rename_i p' hf
      cases ho : okG r s p with
      | true => rw [ho] at hf; cases hf; exact ⟨0, rfl, rfl⟩
      | false =>
        rw [ho] at hf
        have := grP_find r s l (k + 1)
        simp only at hf
        rw [hf] at this
        obtain ⟨i, h1, h2⟩ := this
        exact ⟨i + 1, by simp only [Bool.false_eq_true, ↓reduceIte]; rw [h1]; congr 1; try omega, by simpa using h2⟩
/-- What is granted, by the rule found for each scope. -/
def pf (fd : List UInt8 → Option Rule) (ss : List (List UInt8)) : List (List UInt8) × Int × Int :=
  ss.foldl (fun q s => match fd s with | none => q | some p => (q.1 ++ [s], lvlU q.2.1 p.lvl, ageU q.2.2 p.age)) ([], 0, 0)
theorem psR_pf (l : List Rule) (r : Req) : pf (fun s => l.find? (okG r s)) r.scopes = ((psR l r).all, (psR l r).lvl, (psR l r).age) := by
  have key : ∀ (ss : List (List UInt8)) (q : PS), ss.foldl (fun q s => match l.find? (okG r s) with | none => q | some p => (q.1 ++ [s], lvlU q.2.1 p.lvl, ageU q.2.2 p.age)) (q.all, q.lvl, q.age) = ((ss.foldl (pStep l r) q).all, (ss.foldl (pStep l r) q).lvl, (ss.foldl (pStep l r) q).age) := by
    intro ss
    induction ss with
    | nil => intro q; rfl
    | cons s ss ih =>
      intro q
      rw [List.foldl_cons, List.foldl_cons, ← ih]
      congr 1
      have hf := grP_find r s l 0
      cases h : l.find? (okG r s) with
      | none =>
        rw [h] at hf
        rw [pStep_no (by rw [hf]; rfl)]
      | some p =>
        rw [h] at hf
        obtain ⟨i, h1, h2⟩ := hf
        obtain ⟨hi, hp⟩ := List.getElem?_eq_some_iff.1 h2
        rw [pStep_at hi (by rw [h1, Nat.zero_add]), hp]
  exact key r.scopes (ps0 l r)
/-- Facts about what is granted. -/
structure PF (fd : List UInt8 → Option Rule) (ss : List (List UInt8)) (q : List (List UInt8) × Int × Int) : Prop where
  mem : ∀ s, s ∈ q.1 ↔ s ∈ ss ∧ (fd s).isSome = true
  lvl : q.2.1 = 0 ∨ ∃ s ∈ ss, ∃ p, fd s = some p ∧ q.2.1 = p.lvl
theorem pf_ok (fd : List UInt8 → Option Rule) (ss : List (List UInt8)) : PF fd ss (pf fd ss) := by
  have key : ∀ (ss ts : List (List UInt8)) (q : List (List UInt8) × Int × Int), PF fd ts q → PF fd (ts ++ ss) (ss.foldl (fun q s => match fd s with | none => q | some p => (q.1 ++ [s], lvlU q.2.1 p.lvl, ageU q.2.2 p.age)) q) := by
    intro ss
    induction ss with
    | nil => intro ts q h; simpa using h
    | cons s ss ih =>
      intro ts q h
      rw [List.foldl_cons, show ts ++ s :: ss = (ts ++ [s]) ++ ss by simp]
      refine ih _ _ ?_
      cases hf : fd s with
      | none =>
        refine ⟨fun x => ?_, ?_⟩
        · rw [h.mem, List.mem_append, List.mem_singleton]
          constructor
          · rintro ⟨a, b⟩; exact ⟨.inl a, b⟩
          · rintro ⟨a | rfl, b⟩
            · exact ⟨a, b⟩
            · rw [hf] at b; cases b
        · rcases h.lvl with e | ⟨x, hx, p, h1, h2⟩
          · exact .inl e
          · exact .inr ⟨x, by simp [hx], p, h1, h2⟩
      | some p =>
        refine ⟨fun x => ?_, ?_⟩
        · dsimp only
          rw [List.mem_append, h.mem, List.mem_append, List.mem_singleton]
          constructor
          · rintro (⟨a, b⟩ | rfl)
            · exact ⟨.inl a, b⟩
            · exact ⟨.inr rfl, by rw [hf]; rfl⟩
          · rintro ⟨a | rfl, b⟩
            · exact .inl ⟨a, b⟩
            · exact .inr rfl
        · dsimp only
          unfold lvlU
          split
          · exact .inr ⟨s, by simp, p, hf, rfl⟩
          · rcases h.lvl with e | ⟨x, hx, p, h1, h2⟩
            · exact .inl e
            · exact .inr ⟨x, by simp [hx], p, h1, h2⟩
  have := key ss [] ([], 0, 0) ⟨by simp, .inl rfl⟩
  exact this
theorem psR_mem (l : List Rule) (r : Req) (s : List UInt8) : s ∈ (psR l r).all ↔ s ∈ r.scopes ∧ ∃ p ∈ l, okG r s p = true := by
  have h := (pf_ok (fun s => l.find? (okG r s)) r.scopes).mem s
  rw [psR_pf] at h
  rw [h]
  rw [List.find?_isSome]
theorem psR_lvl (l : List Rule) (r : Req) : (psR l r).lvl = 0 ∨ ∃ p ∈ l, (psR l r).lvl = p.lvl ∧ p.lvl ≤ r.level := by
  have h := (pf_ok (fun s => l.find? (okG r s)) r.scopes).lvl
  rw [psR_pf] at h
  rcases h with e | ⟨s, _, p, h1, h2⟩
  · exact .inl e
  · refine .inr ⟨p, List.mem_of_find?_eq_some h1, h2, ?_⟩
    have ho := List.find?_some h1
    simp only [okG, Bool.and_eq_true] at ho
    have hs := ho.2
    unfold satB at hs
    split at hs
    · cases hs
    · rename_i e; simp at e; omega
theorem ruleErr_lvl {p : Rule} (h : ruleErrB p = 0) : 0 ≤ p.lvl := by
  unfold ruleErrB at h
  split at h
  · cases h
  split at h
  · cases h
  split at h
  · cases h
  rename_i h3
  split at h
  · rename_i h4
    rw [h4] at h3
    simp at h3
    omega
  split at h
  · cases h
  split at h
  · cases h
  split at h
  · cases h
  · rename_i h7
    simp at h7
    omega
theorem chk_lvl : ∀ (l seen : List Rule), chkL seen l = 0 → ∀ p ∈ l, 0 ≤ p.lvl
  | [], _, _, p, hp => by simp at hp
  | q :: l, seen, h, p, hp => by
    unfold chkL at h
    split at h
    · rename_i e; simp at e; exact absurd h e
    · rename_i e
      rcases List.mem_cons.1 hp with rfl | hp
      · simp only [bne_iff_ne, ne_eq, Decidable.not_not] at e
        unfold ruleAt at e
        split at e
        · cases e
        split at e
        · cases e
        exact ruleErr_lvl e
      · exact chk_lvl l _ h p hp
theorem check_lvl {l : List Rule} (h : (checkE l != 0) = false) : ∀ p ∈ l, 0 ≤ p.lvl := by
  simp only [bne_eq_false_iff_eq] at h
  unfold checkE at h
  split at h
  · cases h
  · exact chk_lvl l [] h
/-- Sorted: never empty where a valid scope was. -/
theorem srtR_ne {l : List (List UInt8)} (hv : ∀ s ∈ l, validB s = true) (h : l ≠ []) : srtR l ≠ [] := by
  obtain ⟨s, hs, hm⟩ : ∃ s ∈ l, ∀ t ∈ l, s.length ≤ t.length := by
    have key : ∀ (l : List (List UInt8)), l ≠ [] → ∃ s ∈ l, ∀ t ∈ l, s.length ≤ t.length := by
      intro l
      induction l with
      | nil => intro h; exact absurd rfl h
      | cons a l ih =>
        intro _
        by_cases hl : l = []
        · subst hl; exact ⟨a, by simp, by simp⟩
        · obtain ⟨s, hs, hm⟩ := ih hl
          by_cases hle : a.length ≤ s.length
          · exact ⟨a, by simp, fun t ht => by rcases List.mem_cons.1 ht with rfl | ht; exact Nat.le_refl _; exact Nat.le_trans hle (hm t ht)⟩
          · exact ⟨s, by simp [hs], fun t ht => by rcases List.mem_cons.1 ht with rfl | ht; omega; exact hm t ht⟩
    exact key l h
  have hin : s ∈ srtR l := by
    refine ((srtR_spec l).2 s).2 ⟨hs, ?_⟩
    unfold leastR
    rw [hv s hs, Bool.true_and, List.all_eq_true]
    intro t ht
    by_cases e : t = s
    · subst e; simp
    · have : impB t s = false := by
        rw [Bool.eq_false_iff]
        intro hi
        simp only [impB, Bool.and_eq_true, Bool.or_eq_true, beq_iff_eq] at hi
        rcases hi.2 with hi | hi
        · exact e hi
        · unfold Lib.hasPrefix at hi
          rw [List.isPrefixOf_iff_prefix] at hi
          have := hi.length_le
          have := hm t ht
          simp at *; omega
      rw [this]; simp
  exact fun e => by rw [e] at hin; simp at hin
end Go.Proofs

set_option linter.unusedSimpArgs false
set_option linter.unusedVariables false
namespace Go.Proofs
open Go Go.Id
theorem stepD_nil (r : Req) {d : Dec} (hd : d.scopes = []) (l : List Rule) : (stepD r d l).scopes = [] := by
  rcases stepD_sp r d l with e | ⟨p, _, e, _⟩ <;> rw [e] <;> exact hd
/-- What is not permitted grants nothing. -/
theorem run_no {l : List Rule} {r : Req} (h : ((runD l r).eff != 1) = true) : (runD l r).scopes = [] := by
  rcases run_cases l r with ⟨_, e⟩ | ⟨_, _, e⟩ | ⟨_, _, _, e⟩ | ⟨_, _, _, e⟩
  · rw [e]; rfl
  · rw [e]
  · rw [e] at h; cases h
  · rw [e]; exact stepD_nil r rfl l
theorem stepD_eff (r : Req) (l m : List Rule) : ((stepD r (dec4 l r) m).eff != 1) = true := by
  rcases stepD_sp r (dec4 l r) m with e | ⟨p, _, e, _⟩ <;> rw [e] <;> rfl
/-- What is permitted. -/
structure Permits (l : List Rule) (r : Req) : Prop where
  chk : (checkE l != 0) = false
  deny : denyB l r = false
  ne : (((runD l r).scopes.length : Int) == 0) = false
  lvl : decide ((runD l r).lvl > r.level) = false
  each : ∀ s ∈ (runD l r).scopes, s ∈ r.scopes ∧ l.any (grC r s) = true
theorem run_permits {l : List Rule} {r : Req} (h : ((runD l r).eff != 1) = false) : Permits l r := by
  rcases run_cases l r with ⟨_, e⟩ | ⟨_, _, e⟩ | ⟨h0, h1, h2, e⟩ | ⟨_, _, _, e⟩
  · rw [e] at h; cases h
  · rw [e] at h; cases h
  · have hG : ∀ s ∈ (psR l r).all, s ∈ r.scopes ∧ ∃ p ∈ l, okG r s p = true := fun s hs => (psR_mem l r s).1 hs
    have hC : ∀ s p, okG r s p = true → grC r s p = true ∧ validB s = true ∧ p.lvl ≤ r.level := by
      intro s p ho
      simp only [okG, Bool.and_eq_true] at ho
      obtain ⟨⟨⟨o1, o2⟩, o3⟩, o4⟩ := ho
      have hl : p.lvl ≤ r.level := by
        unfold satB at o4
        split at o4
        · cases o4
        · rename_i e; simp at e; omega
      refine ⟨?_, ?_, hl⟩
      · simp only [grC, Bool.and_eq_true, decide_eq_true_eq]
        exact ⟨⟨⟨o2, hl⟩, o1⟩, by simp [withinB]; exact o3⟩
      · simp only [covsB, covB, List.any_eq_true] at o3
        obtain ⟨t, _, ht⟩ := o3
        simp only [impB, Bool.and_eq_true] at ht
        exact ht.1.2
    have hv : ∀ s ∈ (psR l r).all, validB s = true := fun s hs => by
      obtain ⟨_, p, _, ho⟩ := hG s hs
      exact (hC s p ho).2.1
    refine ⟨h0, h1, ?_, ?_, fun s hs => ?_⟩
    · rw [e]
      dsimp only
      have := srtR_ne hv h2
      cases hq : srtR (psR l r).all with
      | nil => exact absurd hq this
      | cons a b => simp only [List.length_cons, beq_eq_false_iff_ne]; omega
    · rw [e]
      dsimp only
      refine decide_eq_false ?_
      rcases psR_lvl l r with e0 | ⟨p, _, e0, hp⟩
      · obtain ⟨s, hs⟩ := List.exists_mem_of_ne_nil _ h2
        obtain ⟨_, p, hp, ho⟩ := hG s hs
        have h3 := (hC s p ho).2.2
        have h4 := check_lvl h0 p hp
        omega
      · omega
    · rw [e] at hs
      obtain ⟨h3, p, hp, ho⟩ := hG s (((srtR_spec _).2 s).1 hs).1
      exact ⟨h3, List.any_eq_true.2 ⟨p, hp, (hC s p ho).1⟩⟩
  · rw [e, stepD_eff] at h; cases h
/-- A rule laid among others. -/
def putR (l : List Rule) (k : Nat) (p : Rule) : List Rule := l.take k ++ [p] ++ l.drop k
theorem putR_mem {l : List Rule} {k : Nat} {p q : Rule} (h : q ∈ putR l k p) : q = p ∨ q ∈ l := by
  unfold putR at h
  rcases List.mem_append.1 h with h | h
  · rcases List.mem_append.1 h with h | h
    · exact .inr (List.mem_of_mem_take h)
    · exact .inl (by simpa using h)
  · exact .inr (List.mem_of_mem_drop h)
theorem putR_any (f : Rule → Bool) (l : List Rule) (k : Nat) (p : Rule) : (putR l k p).any f = (f p || l.any f) := by
  unfold putR
  rw [List.any_append, List.any_append]
  conv => rhs; rw [← List.take_append_drop k l, List.any_append]
  simp only [List.any_cons, List.any_nil, Bool.or_false]
  cases (l.take k).any f <;> cases f p <;> simp
theorem putR_find {f : Rule → Bool} {p : Rule} (h : f p = false) (l : List Rule) (k : Nat) : (putR l k p).find? f = l.find? f := by
  unfold putR
  rw [List.find?_append, List.find?_append]
  conv => rhs; rw [← List.take_append_drop k l, List.find?_append]
  simp [h]
theorem stepD_find (r : Req) (d : Dec) : ∀ l : List Rule, stepD r d l = match l.find? (okS r) with | none => d | some p => { d with eff := 3, lvl := p.lvl, age := p.age }
  | [] => rfl
  | p :: l => by
    unfold stepD
    rw [List.find?_cons]
    cases okS r p with
    | true => rfl
    | false => simp only [Bool.false_eq_true, ↓reduceIte]; exact stepD_find r d l
/-- A deny rule that does not apply changes nothing. -/
theorem run_put {l : List Rule} {p : Rule} {r : Req} {k : Nat} (hp : p.deny = true) (h0 : (checkE l != 0) = false) (h1 : (checkE (putR l k p) != 0) = false) (h2 : ((runD (putR l k p) r).eff == 2) = false) :
    (runD (putR l k p) r).eff = (runD l r).eff ∧ (runD (putR l k p) r).scopes = (runD l r).scopes ∧ (runD (putR l k p) r).lvl = (runD l r).lvl ∧ (runD (putR l k p) r).age = (runD l r).age := by
  have hd : denyB (putR l k p) r = false := by
    cases hd : denyB (putR l k p) r with
    | false => rfl
    | true => rw [runD_2 h1 hd] at h2; cases h2
  have hd' := hd
  unfold denyB at hd'
  rw [putR_any, Bool.or_eq_false_iff, hp, Bool.and_true] at hd'
  obtain ⟨hm, hl⟩ := hd'
  have hf : ∀ s, okG r s p = false := fun s => by unfold okG; rw [hm]; rfl
  have hP : pf (fun s => (putR l k p).find? (okG r s)) r.scopes = pf (fun s => l.find? (okG r s)) r.scopes := by
    congr 1; funext s; exact putR_find (hf s) l k
  rw [psR_pf, psR_pf] at hP
  simp only [Prod.mk.injEq] at hP
  obtain ⟨e1, e2, e3⟩ := hP
  have hS : (putR l k p).find? (okS r) = l.find? (okS r) := putR_find (by unfold okS; rw [hm]; rfl) l k
  cases ha : (psR l r).all with
  | nil =>
    have h4 : runD l r = stepD r (dec4 l r) l := runD_4 h0 hl (by rw [ha]; rfl)
    have h5 : runD (putR l k p) r = stepD r (dec4 (putR l k p) r) (putR l k p) := runD_4 h1 hd (by rw [e1, ha]; rfl)
    rw [h4, h5, stepD_find, stepD_find, hS]
    cases l.find? (okS r) <;> exact ⟨rfl, rfl, rfl, rfl⟩
  | cons a b =>
    have h4 := runD_3 h0 hl (by rw [ha]; exact decide_eq_true (by simp))
    have h5 := runD_3 h1 hd (by rw [e1, ha]; exact decide_eq_true (by simp))
    rw [h4, h5, e1, e2, e3]
    exact ⟨rfl, rfl, rfl, rfl⟩
end Go.Proofs

set_option linter.unusedSimpArgs false
set_option linter.unusedVariables false
namespace Go.Proofs
open Go Go.Id
end Go.Proofs

set_option linter.unusedSimpArgs false
set_option linter.unusedVariables false
namespace Go.Proofs
open Go Go.Id
/-- Sizes of a decision that is given. -/
def Dec.big (d : Dec) : Prop := d.scopes.length ≤ 9223372036854775807 ∧ (d.ns = true → d.scopes = []) ∧ d.reas.length ≤ 9223372036854775807 ∧ (d.nr = true → d.reas = []) ∧ (∀ x ∈ d.reas, x.scopes.length ≤ 9223372036854775807 ∧ (x.ns = true → x.scopes = [])) ∧ (-9223372036854775808 ≤ d.lvl ∧ d.lvl ≤ 9223372036854775807) ∧ (-9223372036854775808 ≤ d.age ∧ d.age ≤ 9223372036854775807)
theorem deny_at {l : List Rule} {r : Req} {k : Nat} (h : denyB l r = false) (hk : k < l.length) (hd : l[k].deny = true) : okM l[k] r = false := by
  have := List.any_eq_false.1 h _ (List.getElem_mem hk)
  simpa [hd] using this
theorem any_step {l : List (List UInt8)} {f : List UInt8 → Bool} {j : Nat} (h : j < l.length) : (l.take (j + 1)).any f = ((l.take j).any f || f l[j]) := by
  rw [takeS h, List.any_append]; simp
theorem any_full {l : List (List UInt8)} {s : List UInt8} {j : Nat} (h : l.length ≤ j) (hs : s ∈ l) : (l.take j).any (fun x => x == s) = true := by
  rw [List.take_of_length_le h]; exact List.any_eq_true.2 ⟨s, hs, by simp⟩
theorem ng_tail {p : Rule} {l : List Rule} {r : Req} (h : NotGreat (p :: l) r) : NotGreat l r := ⟨by have := h.few; simp at this; omega, fun q hq => h.ok q (by simp [hq]), h.rok, h.hrs, h.sc⟩
theorem putR_len {l : List Rule} {m : Nat} (p : Rule) (h : m ≤ l.length) : (putR l m p).length = l.length + 1 := by unfold putR; simp; omega
theorem ng_put {p : Rule} {l : List Rule} {r : Req} {m : Nat} (h : NotGreat (p :: l) r) (hm : m ≤ l.length) : NotGreat (putR l m p) r := by
  refine ⟨by rw [putR_len p hm]; have := h.few; simp at this; omega, fun q hq => ?_, h.rok, h.hrs, h.sc⟩
  rcases putR_mem hq with rfl | hq
  · exact h.ok _ (by simp)
  · exact h.ok q (by simp [hq])
theorem putR_cs (l : List Rule) (m : Nat) (p : Rule) : (putR l m p).map Rule.cs = (l.map Rule.cs).take m ++ [p.cs] ++ (l.map Rule.cs).drop m := by unfold putR; simp
theorem clo_pcs {S : Nat → Prop} (p : Rule) : ∀ d ∈ p.cs, Clo S d := rl_clo [p] p.cs (by simp)
end Go.Proofs
