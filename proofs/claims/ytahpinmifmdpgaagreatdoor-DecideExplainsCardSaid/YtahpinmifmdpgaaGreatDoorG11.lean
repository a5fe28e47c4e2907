import Derived.Test.YtahpinmifmdpgaaGreatDoorG10
set_option linter.unusedVariables false
set_option linter.unusedSimpArgs false
set_option linter.unnecessarySimpa false
set_option linter.unusedSimpArgs false
set_option linter.unusedVariables false
namespace Go.Proofs
open Go Go.Id
theorem FL_get {l : List Rule} {r : Req} {i : Nat} (h : i < l.length) : FL l r i = firstL r l[i].conds 0 := FL_at h
/-- Requests that no rule tells apart. -/
structure Alike (l : List Rule) (r q : Req) : Prop where
  first : ∀ p ∈ l, firstL r p.conds 0 = firstL q p.conds 0
  scopes : r.scopes = q.scopes
  level : r.level = q.level
  auth : r.auth = q.auth
  now : r.now = q.now
/-- The four ways of a decision. -/
theorem run_cases (l : List Rule) (r : Req) :
    ((checkE l != 0) = true ∧ runD l r = noD) ∨
    ((checkE l != 0) = false ∧ denyB l r = true ∧ runD l r = ⟨2, [], true, 0, 0, reasD l r, l.isEmpty⟩) ∨
    ((checkE l != 0) = false ∧ denyB l r = false ∧ (psR l r).all ≠ [] ∧ runD l r = ⟨1, srtR (psR l r).all, (srtR (psR l r).all).isEmpty, (psR l r).lvl, (psR l r).age, (psR l r).rs.map Reas.nrm, l.isEmpty⟩) ∨
    ((checkE l != 0) = false ∧ denyB l r = false ∧ (psR l r).all = [] ∧ runD l r = stepD r (dec4 l r) l) := by
  cases h0 : checkE l != 0 with
  | true => exact .inl ⟨rfl, runD_1 h0⟩
  | false =>
    cases h1 : denyB l r with
    | true => exact .inr (.inl ⟨rfl, rfl, runD_2 h0 h1⟩)
    | false =>
      cases h2 : (psR l r).all with
      | nil => exact .inr (.inr (.inr ⟨rfl, rfl, rfl, runD_4 h0 h1 (by rw [h2]; rfl)⟩))
      | cons a b => exact .inr (.inr (.inl ⟨rfl, rfl, nofun, by rw [← h2]; exact runD_3 h0 h1 (by rw [h2]; exact decide_eq_true (by simp))⟩))
/-- Facts about what is granted. -/
structure PF (fd : List UInt8 → Option Rule) (ss : List (List UInt8)) (q : List (List UInt8) × Int × Int) : Prop where
  mem : ∀ s, s ∈ q.1 ↔ s ∈ ss ∧ (fd s).isSome = true
  lvl : q.2.1 = 0 ∨ ∃ s ∈ ss, ∃ p, fd s = some p ∧ q.2.1 = p.lvl
end Go.Proofs

set_option linter.unusedSimpArgs false
set_option linter.unusedVariables false
namespace Go.Proofs
open Go Go.Id
/-- What is permitted. -/
structure Permits (l : List Rule) (r : Req) : Prop where
  chk : (checkE l != 0) = false
  deny : denyB l r = false
  ne : (((runD l r).scopes.length : Int) == 0) = false
  lvl : decide ((runD l r).lvl > r.level) = false
  each : ∀ s ∈ (runD l r).scopes, s ∈ r.scopes ∧ l.any (grC r s) = true
end Go.Proofs

set_option linter.unusedSimpArgs false
set_option linter.unusedVariables false
namespace Go.Proofs
open Go Go.Id
theorem expl_len (l : List Rule) (d : Dec) : (explX l d).length = d.reas.length + 1 := by simp [explX]
/-- The reasons of a decision of one's own. -/
theorem run_reas (l : List Rule) (r : Req) : ∀ x ∈ (runD l r).reas, ∃ a, a < l.length ∧ x.rule = (a : Int) ∧ x.cond = FL l r a := by
  have hD : ∀ x ∈ reasD l r, ∃ a, a < l.length ∧ x.rule = (a : Int) ∧ x.cond = FL l r a := fun x hx => by
    simp only [reasD, mkR, List.mem_map, List.mem_range] at hx
    obtain ⟨a, ha, rfl⟩ := hx
    exact ⟨a, ha, rfl, rfl⟩
  have hP : ∀ x ∈ (psR l r).rs, ∃ a, a < l.length ∧ x.rule = (a : Int) ∧ x.cond = FL l r a := by
    have key : ∀ (ss : List (List UInt8)) (q : PS), (∀ x ∈ q.rs, ∃ a, a < l.length ∧ x.rule = (a : Int) ∧ x.cond = FL l r a) → ∀ x ∈ (ss.foldl (pStep l r) q).rs, ∃ a, a < l.length ∧ x.rule = (a : Int) ∧ x.cond = FL l r a := by
      intro ss
      induction ss with
      | nil => intro q h; exact h
      | cons s ss ih =>
        intro q h
        rw [List.foldl_cons]
        refine ih _ ?_
        cases hc : decide (grP r s l 0 < 0) with
        | true => rw [pStep_no hc]; exact h
        | false =>
          obtain ⟨i, hi, hg⟩ := grP_at hc
          rw [pStep_at hi hg]
          intro x hx
          obtain ⟨j, hj, rfl⟩ := List.mem_iff_getElem.1 hx
          have hj' : j < q.rs.length := by simpa using hj
          rw [List.getElem_modify]
          have := h _ (List.getElem_mem hj')
          split
          · rw [(addS_rc s q.rs[j]).1, (addS_rc s q.rs[j]).2]; exact this
          · exact this
    exact key r.scopes (ps0 l r) hD
  rcases run_cases l r with ⟨_, e⟩ | ⟨_, _, e⟩ | ⟨_, _, _, e⟩ | ⟨_, _, _, e⟩
  · rw [e]; intro x hx; simp [noD] at hx
  · rw [e]; exact hD
  · rw [e]
    intro x hx
    obtain ⟨y, hy, rfl⟩ := List.mem_map.1 hx
    exact hP y hy
  · rw [e]
    rcases stepD_sp r (dec4 l r) l with e | ⟨p, _, e, _⟩ <;> rw [e] <;> exact hD
theorem ne63 {a b : List UInt8} (h : 2 ≤ b.length) : ((a ++ b) == [63]) = false := by
  rw [beq_eq_false_iff_ne]; intro e
  have := congrArg List.length e
  simp at this; omega
theorem ne63' {a : List UInt8} (h : 2 ≤ a.length) : (a == [63]) = false := by
  rw [beq_eq_false_iff_ne]; intro e
  have := congrArg List.length e
  simp at this; omega
theorem line_ne {l : List Rule} {r : Req} {x : Reas} (h : ∃ a, a < l.length ∧ x.rule = (a : Int) ∧ x.cond = FL l r a) : (lineX l x == [63]) = false := by
  obtain ⟨a, ha, h1, h2⟩ := h
  unfold lineX
  rw [h1, if_neg (by simp; omega), Int.toNat_natCast, getE ha]
  dsimp only
  unfold lineP
  rw [h2, FL_get ha]
  have hf := firstL_lt r l[a].conds 0
  split
  · split
    · exact ne63 (by simp)
    · split
      · rw [List.append_assoc]; exact ne63 (by simp)
      · exact ne63 (by simp)
  · rename_i hm
    simp only [beq_iff_eq] at hm
    have hlt : (firstL r l[a].conds 0).toNat < l[a].conds.length := by omega
    rw [if_pos (by simp; omega), getE hlt]
    dsimp only
    exact ne63' (by simp; omega)
theorem eff_rng (l : List Rule) (r : Req) : (runD l r).eff = 1 ∨ (runD l r).eff = 2 ∨ (runD l r).eff = 3 ∨ (runD l r).eff = 4 := by
  rcases run_cases l r with ⟨_, e⟩ | ⟨_, _, e⟩ | ⟨_, _, _, e⟩ | ⟨_, _, _, e⟩
  · rw [e]; simp [noD]
  · rw [e]; simp
  · rw [e]; simp
  · rw [e]
    rcases stepD_sp r (dec4 l r) l with e | ⟨p, _, e, _⟩ <;> rw [e] <;> simp [dec4]
theorem effX_ne {d : Dec} (h : d.eff = 1 ∨ d.eff = 2 ∨ d.eff = 3 ∨ d.eff = 4) : (effX d == [63]) = false := by
  unfold effX
  rcases h with e | e | e | e <;> rw [e]
  · simp only [beq_self_eq_true, if_true]
    rw [List.cons_append, Lib.join_cons, List.cons_append]
    exact ne63' (by simp)
  · rfl
  · exact ne63' (by simp)
  · rfl
theorem expl_ne (l : List Rule) (r : Req) (k : Nat) (h : k < (explX l (runD l r)).length) : ((explX l (runD l r))[k] == [63]) = false := by
  have hm : (explX l (runD l r))[k] ∈ explX l (runD l r) := List.getElem_mem h
  generalize (explX l (runD l r))[k] = x at hm
  unfold explX at hm
  rcases List.mem_append.1 hm with hm | hm
  · obtain ⟨y, hy, rfl⟩ := List.mem_map.1 hm
    exact line_ne (run_reas l r y hy)
  · rw [List.mem_singleton.1 hm]
    exact effX_ne (eff_rng l r)
end Go.Proofs

set_option linter.unusedSimpArgs false
set_option linter.unusedVariables false
namespace Go.Proofs
open Go Go.Id
/-- Sizes of a decision that is given. -/
def Dec.big (d : Dec) : Prop := d.scopes.length ≤ 9223372036854775807 ∧ (d.ns = true → d.scopes = []) ∧ d.reas.length ≤ 9223372036854775807 ∧ (d.nr = true → d.reas = []) ∧ (∀ x ∈ d.reas, x.scopes.length ≤ 9223372036854775807 ∧ (x.ns = true → x.scopes = [])) ∧ (-9223372036854775808 ≤ d.lvl ∧ d.lvl ≤ 9223372036854775807) ∧ (-9223372036854775808 ≤ d.age ∧ d.age ≤ 9223372036854775807)
theorem dec_ok {d : Dec} (hb : d.big) (h70 : d.reas.length ≤ 70) (hs : shG d.scopes 20 300 = false) (hx : ∀ x ∈ d.reas, shG x.scopes 20 300 = false) : d.ok := by
  obtain ⟨s1, s2⟩ := shG_no hs
  refine ⟨by omega, hb.2.1, fun s h => by have := s2 s h; omega, by omega, hb.2.2.2.1, fun x h => ?_, hb.2.2.2.2.2.1, hb.2.2.2.2.2.2⟩
  obtain ⟨t1, t2⟩ := shG_no (hx x h)
  exact ⟨by omega, (hb.2.2.2.2.1 x h).2, fun s h => by have := t2 s h; omega⟩
end Go.Proofs
