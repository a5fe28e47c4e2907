import Derived.Test.YtahpinmifmdpgaaGreatDoorG10
set_option linter.unusedVariables false
set_option linter.unusedSimpArgs false
set_option linter.unnecessarySimpa false
set_option linter.unusedSimpArgs false
set_option linter.unusedVariables false
namespace Go.Proofs
open Go Go.Id
theorem FL_get {l : List Rule} {r : Req} {i : Nat} (h : i < l.length) : FL l r i = firstL r l[i].conds 0 := FL_at h
/-- Requests that no rule tells apart. -/
structure Alike (l : List Rule) (r q : Req) : Prop where
  first : ∀ p ∈ l, firstL r p.conds 0 = firstL q p.conds 0
  scopes : r.scopes = q.scopes
  level : r.level = q.level
  auth : r.auth = q.auth
  now : r.now = q.now
theorem okM_alike {l : List Rule} {r q : Req} (h : ∀ p ∈ l, firstL r p.conds 0 = firstL q p.conds 0) {p : Rule} (hp : p ∈ l) : okM p r = okM p q := by unfold okM; rw [h p hp]
theorem any_alike {α : Type} {f g : α → Bool} : ∀ {l : List α}, (∀ p ∈ l, f p = g p) → l.any f = l.any g
  | [], _ => rfl
  | x :: l, h => by rw [List.any_cons, List.any_cons, h x (by simp), any_alike fun p hp => h p (by simp [hp])]
theorem denyB_alike {l : List Rule} {r q : Req} (h : ∀ p ∈ l, firstL r p.conds 0 = firstL q p.conds 0) : denyB l r = denyB l q := any_alike fun p hp => by rw [okM_alike h hp]
theorem reasD_alike {l : List Rule} {r q : Req} (h : ∀ p ∈ l, firstL r p.conds 0 = firstL q p.conds 0) : reasD l r = reasD l q := by
  unfold reasD
  refine List.map_congr_left fun i hi => ?_
  have hi' : i < l.length := by simpa using hi
  unfold mkR
  rw [FL_get hi', FL_get hi', h _ (List.getElem_mem hi')]
theorem grP_alike {r q : Req} {s : List UInt8} : ∀ {l : List Rule} (k : Nat), (∀ p ∈ l, okG r s p = okG q s p) → grP r s l k = grP q s l k
  | [], _, _ => rfl
  | p :: l, k, h => by
    unfold grP
    rw [h p (by simp), grP_alike (k + 1) fun p hp => h p (by simp [hp])]
theorem run_alike {l : List Rule} {r q : Req} (h : Alike l r q) : runD l r = runD l q := by
  have hM : ∀ p ∈ l, okM p r = okM p q := fun p hp => okM_alike h.first hp
  have hS : ∀ p, satB p r = satB p q := fun p => by unfold satB gone; rw [h.level, h.auth, h.now]
  have hG : ∀ s, ∀ p ∈ l, okG r s p = okG q s p := fun s p hp => by unfold okG; rw [hM p hp, hS]
  have hR := reasD_alike h.first
  have hP : psR l r = psR l q := by
    unfold psR ps0
    rw [h.scopes, show (List.range l.length).map (mkR l r) = (List.range l.length).map (mkR l q) from hR]
    congr 1
    funext a s
    unfold pStep
    rw [grP_alike 0 (hG s)]
  have hT : ∀ (d : Dec) (m : List Rule), (∀ p ∈ m, p ∈ l) → stepD r d m = stepD q d m := by
    intro d m
    induction m with
    | nil => intro _; rfl
    | cons p m ih =>
      intro hm
      unfold stepD
      rw [show okS r p = okS q p by unfold okS; rw [hM p (hm p (by simp)), h.scopes], ih fun x hx => hm x (by simp [hx])]
  unfold runD
  rw [denyB_alike h.first, hR, hP, hT _ l fun _ h => h]
/-- Facts about what is granted. -/
structure PF (fd : List UInt8 → Option Rule) (ss : List (List UInt8)) (q : List (List UInt8) × Int × Int) : Prop where
  mem : ∀ s, s ∈ q.1 ↔ s ∈ ss ∧ (fd s).isSome = true
  lvl : q.2.1 = 0 ∨ ∃ s ∈ ss, ∃ p, fd s = some p ∧ q.2.1 = p.lvl
end Go.Proofs

set_option linter.unusedSimpArgs false
set_option linter.unusedVariables false
namespace Go.Proofs
open Go Go.Id
/-- What is permitted. -/
structure Permits (l : List Rule) (r : Req) : Prop where
  chk : (checkE l != 0) = false
  deny : denyB l r = false
  ne : (((runD l r).scopes.length : Int) == 0) = false
  lvl : decide ((runD l r).lvl > r.level) = false
  each : ∀ s ∈ (runD l r).scopes, s ∈ r.scopes ∧ l.any (grC r s) = true
end Go.Proofs

set_option linter.unusedSimpArgs false
set_option linter.unusedVariables false
namespace Go.Proofs
open Go Go.Id
/-- The conditions that are looked at. -/
def exL (r : Req) : List Cond → List Cond
  | [] => []
  | c :: l => if holdsB c r = true then c :: exL r l else [c]
theorem firstL_ex {r q : Req} : ∀ (l : List Cond) (i : Int), (∀ c ∈ exL r l, holdsB c r = holdsB c q) → firstL r l i = firstL q l i
  | [], _, _ => rfl
  | c :: l, i, h => by
    unfold exL at h
    unfold firstL
    cases hc : holdsB c r with
    | true =>
      rw [hc] at h
      simp only [if_true] at h
      rw [← h c (by simp), hc, firstL_ex l (i + 1) fun d hd => h d (by simp [hd])]
    | false =>
      rw [hc] at h
      have := h c (by simp)
      rw [hc] at this
      rw [← this]
      rfl
theorem exL_all {r : Req} : ∀ (l : List Cond) (i : Int), 0 ≤ i → firstL r l i = -1 → exL r l = l
  | [], _, _, _ => rfl
  | c :: l, i, hi, h => by
    unfold firstL at h
    unfold exL
    cases hc : holdsB c r with
    | true =>
      rw [hc] at h
      simp only [Bool.not_true, Bool.false_eq_true, if_false] at h
      rw [if_pos rfl, exL_all l (i + 1) (by omega) h]
    | false =>
      rw [hc] at h
      simp at h
      omega
theorem exL_take {r : Req} : ∀ (l : List Cond) (i n : Nat), firstL r l i = ((i + n : Nat) : Int) → exL r l = l.take (n + 1)
  | [], i, n, h => by unfold firstL at h; omega
  | c :: l, i, n, h => by
    unfold firstL at h
    unfold exL
    cases hc : holdsB c r with
    | true =>
      rw [hc] at h
      simp only [Bool.not_true, Bool.false_eq_true, if_false] at h
      match n with
      | 0 =>
        have := firstL_lt r l ((i : Int) + 1)
        omega
      | n + 1 =>
        have h' : firstL r l ((i + 1 : Nat) : Int) = ((i + 1 + n : Nat) : Int) := by
          rw [show ((i + 1 : Nat) : Int) = (i : Int) + 1 by omega, h]; omega
        rw [if_pos rfl, exL_take l (i + 1) n h', List.take_succ_cons]
    | false =>
      rw [hc] at h
      simp at h
      have : n = 0 := by omega
      subst this
      simp
theorem exC_ex (r : Req) (p : Rule) : exC r p = exL r p.conds := by
  have h := firstL_lt r p.conds 0
  cases hd : decide (firstL r p.conds 0 ≥ 0) with
  | true =>
    have h0 := of_decide_eq_true hd
    rw [exC_t hd, exL_take p.conds 0 (firstL r p.conds 0).toNat (by rw [Nat.zero_add, Int.toNat_of_nonneg h0]; rfl)]
  | false =>
    have h0 := of_decide_eq_false hd
    rw [exC_f hd, exL_all p.conds 0 (by omega) (by omega)]
/-- The request that differs where nothing was looked at. -/
def chq (C : List (List UInt8)) (r q : Req) : Req := { r with
  user := if C.contains [117, 115, 101, 114] = true then r.user else q.user
  client := if C.contains [99, 108, 105, 101, 110, 116] = true then r.client else q.client
  tenant := if C.contains [116, 101, 110, 97, 110, 116] = true then r.tenant else q.tenant
  groups := if C.contains [103, 114, 111, 117, 112] = true then r.groups else q.groups
  ng := if C.contains [103, 114, 111, 117, 112] = true then r.ng else q.ng
  risk := if C.contains [114, 105, 115, 107] = true then r.risk else q.risk
  trusted := if C.contains [116, 114, 117, 115, 116, 101, 100] = true then r.trusted else q.trusted }
theorem holdsB_chq {C : List (List UInt8)} {r q : Req} {c : Cond} (h : C.contains c.f = true) : holdsB c r = holdsB c (chq C r q) := by
  have hM : membR c.f (chq C r q) = membR c.f r := by
    unfold membR
    by_cases e : c.f = [103, 114, 111, 117, 112]
    · rw [e] at h ⊢; simp only [chq, h, if_true, beq_self_eq_true]
    · simp [e, chq]
  have hS : measR c.f (chq C r q) = measR c.f r := by
    unfold measR
    by_cases e : c.f = [114, 105, 115, 107]
    · rw [e] at h ⊢; simp only [chq, h, if_true, beq_self_eq_true]
    · simp [e, chq]
  unfold holdsB
  rw [hM, hS]
  cases hp : possB c with
  | false => rfl
  | true =>
    by_cases hw : c.f = [117, 115, 101, 114] ∨ c.f = [99, 108, 105, 101, 110, 116] ∨ c.f = [116, 101, 110, 97, 110, 116] ∨ c.f = [116, 114, 117, 115, 116, 101, 100]
    · have hW : wordR c.f (chq C r q) = wordR c.f r := by
        unfold wordR
        rcases hw with e | e | e | e <;> rw [e] at h ⊢ <;> simp [chq, h] <;> (try (simp only [List.contains_eq_mem, decide_eq_true_eq] at h; simp [h]))
      rw [hW]
    · simp only [not_or] at hw
      unfold possB at hp
      split at hp
      · rename_i e; simp [hw.1, hw.2.1, hw.2.2.1] at e
      split at hp
      · simp only [Bool.and_eq_true, Bool.or_eq_true, beq_iff_eq] at hp
        rcases hp.1 with e | e <;> simp [e]
      split at hp
      · simp only [Bool.and_eq_true, Bool.or_eq_true, beq_iff_eq] at hp
        rcases hp.1 with e | e <;> simp [e]
      split at hp
      · rename_i e; simp [hw.2.2.2] at e
      split at hp
      · simp only [Bool.and_eq_true, Bool.or_eq_true, beq_iff_eq] at hp
        rcases hp.1 with e | e <;> simp [e]
      · cases hp
theorem run_changed (l : List Rule) (r q : Req) : runD l (chq (chgR l r) r q) = runD l r := by
  cases hc : checkE l != 0 with
  | true => rw [runD_1 hc, runD_1 hc]
  | false =>
    refine (run_alike (l := l) (r := r) (q := chq (chgR l r) r q) ⟨fun p hp => ?_, rfl, rfl, rfl, rfl⟩).symm
    refine firstL_ex _ _ fun c hcm => holdsB_chq ?_
    unfold chgR
    rw [hc, if_neg (by decide), List.contains_eq_mem, decide_eq_true_eq, (ascL_spec _).2]
    rw [← exC_ex] at hcm
    exact List.mem_flatMap.2 ⟨p, hp, List.mem_map_of_mem hcm⟩
theorem ng_chq {l : List Rule} {C : List (List UInt8)} {r q : Req} (h1 : NotGreat l r) (h2 : NotGreat l q) : NotGreat l (chq C r q) := by
  refine ⟨h1.few, h1.ok, ⟨?_, ?_, h1.rok.2.2.1, h1.rok.2.2.2⟩, h1.hrs, h1.sc⟩
  · simp only [chq]; split
    · exact h1.rok.1
    · exact h2.rok.1
  · simp only [chq]; split
    · exact h1.rok.2.1
    · exact h2.rok.2.1
end Go.Proofs

set_option linter.unusedSimpArgs false
set_option linter.unusedVariables false
namespace Go.Proofs
open Go Go.Id
/-- Sizes of a decision that is given. -/
def Dec.big (d : Dec) : Prop := d.scopes.length ≤ 9223372036854775807 ∧ (d.ns = true → d.scopes = []) ∧ d.reas.length ≤ 9223372036854775807 ∧ (d.nr = true → d.reas = []) ∧ (∀ x ∈ d.reas, x.scopes.length ≤ 9223372036854775807 ∧ (x.ns = true → x.scopes = [])) ∧ (-9223372036854775808 ≤ d.lvl ∧ d.lvl ≤ 9223372036854775807) ∧ (-9223372036854775808 ≤ d.age ∧ d.age ≤ 9223372036854775807)
def hasF (C : List (List UInt8)) (x : List UInt8) : Bool := C.contains x
theorem c_hasF (C : List (List UInt8)) (x : List UInt8) (h : C.length ≤ 1099511627776) : CallP Pr 24 [.slice 1 C.isEmpty (C.map fun x => [.str x]) none, .str x] (.bool (hasF C x)) := c_has C C.isEmpty x h (fun h => isE_nil h)
theorem chgR_len (l : List Rule) (r : Req) : (chgR l r).length ≤ 512 := by
  unfold chgR
  split
  · simp
  · rename_i h
    have h' : (checkE l != 0) = false := by simpa using h
    obtain ⟨a1, a2⟩ := ascL_spec (fieldsL l r)
    exact Nat.le_trans (nodup_len (asc_nodup a1) fun x hx => (a2 x).1 hx) (fields_512 h')
end Go.Proofs
