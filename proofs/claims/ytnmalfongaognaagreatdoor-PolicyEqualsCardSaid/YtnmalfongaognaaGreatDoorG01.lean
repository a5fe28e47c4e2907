import Derived.Test.YtnmalfongaognaaGreatDoorG00
import Derived.RowKit3
import Derived.Scope
import Derived.ChangeArms
import Derived.ReadAgain
import Derived.ChangeShapes
import Derived.ChangeOld
import Derived.WideShapes
import Derived.Below
/-
  Plain: a region on data, in the order of the text and in whatever order its edges allow. Conditions: two operations that no edge orders touch nothing in common.
-/
set_option linter.unusedSimpArgs false
set_option linter.unusedVariables false
set_option linter.unnecessarySimpa false
namespace Go.Id
open Go

theorem lk_dl {α : Type} (l : List (Nat × α)) (i k : Nat) : lk (dl l i) k = if k = i then none else lk l k := by
  induction l with
  | nil => simp [dl, lk]
  | cons p l ih =>
    obtain ⟨j, v⟩ := p
    simp only [dl]
    split
    · rename_i h
      subst h
      rw [ih]
      by_cases e : k = i
      · simp [e]
      · simp [lk, e]
    · rename_i h
      simp only [lk, ih]
      by_cases e : k = j
      · subst e
        have h' : ¬ k = i := fun e => h e.symm
        simp [h']
      · simp [e]

theorem lk_cons_dl {α : Type} (l : List (Nat × α)) (i : Nat) (v : α) (k : Nat) : lk ((i, v) :: dl l i) k = if k = i then some v else lk l k := by
  simp only [lk, lk_dl]
  split <;> simp_all

theorem fresh_lt {α : Type} (l : List (Nat × α)) : ∀ k, fresh l ≤ k → lk l k = none := by
  induction l with
  | nil => intro k _; rfl
  | cons p l ih =>
    obtain ⟨j, v⟩ := p
    intro k hk
    simp only [fresh] at hk
    simp only [lk]
    rw [if_neg (by omega)]
    exact ih k (by omega)

theorem get_put (st : St) (dst : Option Tmp) (d : D) : (st.put dst d).get = updO st.get dst d := by
  funext k
  cases dst with
  | none => rfl
  | some t =>
    simp only [St.put, St.get, updO, upd, lk_cons_dl]
    split <;> rfl

def St.lay (st : St) : List (Nat × Blk) → St
  | [] => st
  | (b, blk) :: ws => { st with σ := (b, blk) :: dl (St.lay st ws).σ b }

theorem lay_get (st : St) (ws : List (Nat × Blk)) : (st.lay ws).get = st.get := by cases ws <;> rfl
theorem lay_σ (st : St) : ∀ ws : List (Nat × Blk), lk (st.lay ws).σ = laid (lk st.σ) ws
  | [] => rfl
  | (b, blk) :: ws => by
    funext k
    simp only [St.lay, lk_cons_dl, lay_σ st ws, laid, lk]
    split <;> rfl

theorem put_σ (st : St) (dst : Option Tmp) (d : D) : (st.put dst d).σ = st.σ := by cases dst <;> rfl

/-- Is the operation carried out? -/
def wantedF (ops : Array Oper) (F : Nat → D) (o : Oper) : Option Bool :=
  match o.guard with
  | none => some true
  | some (j, want) => match (ops[j]?).bind (·.dst) with
    | some t => match F t with
      | .bool b => some (b == want)
      | .tup _ => some false
      | _ => none
    | none => some false

structure RecX where
  ran : Bool
  d : D
  r : Rec

/-- The operations one after the other. -/
inductive Chain (P : Prg) (ops : Array Oper) : List Oper → St → List RecX → St → Prop
  | nil (st : St) : Chain P ops [] st [] st
  | ran {o : Oper} {os : List Oper} {st st' : St} {d : D} {r : Rec} {rs : List RecX} (hw : wantedF ops st.get o = some true) (ho : OpOut P o (evalD st.get) (lk st.σ) d r)
      (h : Chain P ops os ((st.put o.dst d).lay r.ws) rs st') : Chain P ops (o :: os) st (⟨true, d, r⟩ :: rs) st'
  | skip {o : Oper} {os : List Oper} {st st' : St} {rs : List RecX} (hw : wantedF ops st.get o = some false) (h : Chain P ops os (st.put o.dst (.tup [])) rs st') :
      Chain P ops (o :: os) st (⟨false, .tup [], ⟨[], []⟩⟩ :: rs) st'

section
variable {P : Prg} {E : Ent P} {ent : List Nat} {N : Nat} {F : Nat → D} {σ : Nat → Option Blk} {a : Act} {w : World}

theorem wanted_of (h : Rel E ent N F σ a w) {ops : Array Oper} {o : Oper} {b : Bool} (hw : wantedF ops F o = some b) : Region.wanted o (yielded ops a.tmps) = b := by
  obtain ⟨γ, h1, h2, h3, h4, h5, h6⟩ := h
  unfold wantedF at hw
  unfold Region.wanted
  split at hw
  · rename_i hg; simp only [Option.some.injEq] at hw; subst hw; simp [hg]
  · rename_i j want hg
    simp only [hg]
    split at hw
    · rename_i t ht
      split at hw
      · rename_i v hv
        simp only [Option.some.injEq] at hw
        subst hw
        have hr := h6 t
        rw [hv] at hr
        have e := bool_inj hr
        rw [Array.getD_eq_getD_getElem?] at e
        have : a.tmps[t]? = some (.bool v) := by
          cases hq : a.tmps[t]? with
          | none => rw [hq] at e; simp [undef] at e
          | some u => rw [hq] at e; simp at e; rw [e]
        simp only [yielded, ht, Option.bind_some, this]
        cases v <;> cases want <;> rfl
      · rename_i vs hv
        simp only [Option.some.injEq] at hw
        subst hw
        have hr := h6 t
        rw [hv] at hr
        have : ∀ b, a.tmps[t]? ≠ some (.bool b) := by
          intro b hq
          rw [Array.getD_eq_getD_getElem?, hq] at hr
          cases hr
        simp only [yielded, ht, Option.bind_some]
        cases hq : a.tmps[t]? with
        | none => rfl
        | some u => cases u <;> first | rfl | exact absurd hq (this _)
      · cases hw
    · rename_i ht
      simp only [Option.some.injEq] at hw
      subst hw
      simp [yielded, ht]

def dstsOk (N : Nat) (ops : Array Oper) : Bool := ops.all fun o => match o.dst with | some t => decide (t < N) | none => true

theorem dstsOk_spec {ops : Array Oper} (h : dstsOk N ops = true) {o : Oper} (ho : o ∈ ops) : ∀ t, o.dst = some t → t < N := by
  intro t ht
  have := (Array.all_eq_true'.1 h) o ho
  simpa [ht] using this

theorem Chain.wpOps {ops : Array Oper} (hd : dstsOk N ops = true) (Q : Exit → Act → World → Prop) : ∀ {os : List Oper} {st st' : St} {rs : List RecX}, Chain P ops os st rs st' → ∀ (k : Nat), ops.toList.drop k = os →
    ∀ (a : Act) (w : World), Rel E ent N st.get (lk st.σ) a w → (∀ a' w', Rel E ent N st'.get (lk st'.σ) a' w' → Q .normal a' w') → wpOps P.prog ops Q (List.range' k os.length) a w := by
  intro os st st' rs h
  induction h with
  | nil st => intro k hk a w hr hq; exact hq a w hr
  | @ran o os st st' d r rs hw ho hc ih =>
    intro k hk a w hr hq
    have hko : ops[k]? = some o := by
      have : (ops.toList.drop k)[0]? = some o := by rw [hk]; rfl
      simpa [List.getElem?_drop] using this
    have hmem : o ∈ ops := Array.mem_of_getElem? hko
    simp only [List.length_cons, List.range'_succ, Go.wpOps, hko, wanted_of hr hw, if_true]
    refine .inl (ho.wp hr (dstsOk_spec hd hmem) _ _ (fun a' w' hr' => ih (k + 1) ?_ a' w' ?_ hq))
    · have : ops.toList.drop (k + 1) = (ops.toList.drop k).drop 1 := by rw [List.drop_drop]
      rw [this, hk]; rfl
    · rw [lay_get, get_put, lay_σ, put_σ]; exact hr'
  | @skip o os st st' rs hw hc ih =>
    intro k hk a w hr hq
    have hko : ops[k]? = some o := by
      have : (ops.toList.drop k)[0]? = some o := by rw [hk]; rfl
      simpa [List.getElem?_drop] using this
    have hmem : o ∈ ops := Array.mem_of_getElem? hko
    simp only [List.length_cons, List.range'_succ, Go.wpOps, hko, wanted_of hr hw, Bool.false_eq_true, if_false]
    refine ih (k + 1) ?_ _ _ ?_ hq
    · have : ops.toList.drop (k + 1) = (ops.toList.drop k).drop 1 := by rw [List.drop_drop]
      rw [this, hk]; rfl
    · rw [get_put, put_σ]; exact hr.skip (dstsOk_spec hd hmem)

theorem wp_region_chain {id : Nat} {ops : Array Oper} (hd : dstsOk N ops = true) {Q : Exit → Act → World → Prop} {st st' : St} {rs : List RecX} (h : Chain P ops ops.toList st rs st') (hr : Rel E ent N st.get (lk st.σ) a w)
    (hq : ∀ a' w', Rel E ent N st'.get (lk st'.σ) a' w' → Q .normal a' w') : (Code.region id ops false).wp P.prog Q a w := by
  refine wp_region ?_
  have := h.wpOps hd Q 0 rfl a w hr hq
  simpa [List.range_eq_range'] using this

end

/-- The frame that the listed operations leave. -/
def foldF (L : Nat → Bool) : Nat → List (Oper × RecX) → (Nat → D) → Nat → D
  | _, [], F => F
  | i, (o, r) :: l, F => foldF L (i + 1) l (if L i = true then updO F o.dst r.d else F)

def foldσ (L : Nat → Bool) : Nat → List (Oper × RecX) → (Nat → Option Blk) → Nat → Option Blk
  | _, [], σ => σ
  | i, (o, r) :: l, σ => foldσ L (i + 1) l (if L i = true then laid σ r.r.ws else σ)

theorem foldF_agree {L L' : Nat → Bool} {t : Nat} : ∀ (l : List (Oper × RecX)) (k : Nat) (F F' : Nat → D), (∀ i o r, l[i]? = some (o, r) → o.dst = some t → L (k + i) = L' (k + i)) → F t = F' t → foldF L k l F t = foldF L' k l F' t
  | [], _, _, _, _, h => h
  | (o, r) :: l, k, F, F', hl, h => by
    simp only [foldF]
    refine foldF_agree l (k + 1) _ _ (fun i o' r' hi ho => ?_) ?_
    · have := hl (i + 1) o' r' (by simpa using hi) ho
      rw [show k + 1 + i = k + (i + 1) from by omega]; exact this
    · by_cases e : o.dst = some t
      · have := hl 0 o r rfl e
        simp only [Nat.add_zero] at this
        rw [this]
        split
        · simp [updO, e, upd]
        · exact h
      · have key : ∀ F : Nat → D, updO F o.dst r.d t = F t := by
          intro F
          cases hd : o.dst with
          | none => rfl
          | some t' => simp only [updO, upd]; rw [if_neg (fun q => e (by rw [hd, q]))]
        split <;> split <;> simp [key, h]

theorem foldσ_agree {L L' : Nat → Bool} {b : Nat} : ∀ (l : List (Oper × RecX)) (k : Nat) (σ σ' : Nat → Option Blk), (∀ i o r, l[i]? = some (o, r) → (lk r.r.ws b).isSome = true → L (k + i) = L' (k + i)) → σ b = σ' b → foldσ L k l σ b = foldσ L' k l σ' b
  | [], _, _, _, _, h => h
  | (o, r) :: l, k, σ, σ', hl, h => by
    simp only [foldσ]
    refine foldσ_agree l (k + 1) _ _ (fun i o' r' hi ho => ?_) ?_
    · have := hl (i + 1) o' r' (by simpa using hi) ho
      rw [show k + 1 + i = k + (i + 1) from by omega]; exact this
    · cases e : lk r.r.ws b with
      | some blk =>
        have := hl 0 o r rfl (by simp [e])
        simp only [Nat.add_zero] at this
        rw [this]
        split
        · simp [laid, e]
        · exact h
      | none =>
        have key : ∀ σ : Nat → Option Blk, laid σ r.r.ws b = σ b := by intro σ; simp [laid, e]
        split <;> split <;> simp [key, h]

theorem foldF_none {L : Nat → Bool} : ∀ (l : List (Oper × RecX)) (k : Nat) (F : Nat → D), (∀ i, k ≤ i → L i = false) → foldF L k l F = F
  | [], _, _, _ => rfl
  | (o, r) :: l, k, F, h => by simp only [foldF, h k (Nat.le_refl _)]; exact foldF_none l (k + 1) F (fun i hi => h i (by omega))
theorem foldσ_none {L : Nat → Bool} : ∀ (l : List (Oper × RecX)) (k : Nat) (σ : Nat → Option Blk), (∀ i, k ≤ i → L i = false) → foldσ L k l σ = σ
  | [], _, _, _ => rfl
  | (o, r) :: l, k, F, h => by simp only [foldσ, h k (Nat.le_refl _)]; exact foldσ_none l (k + 1) F (fun i hi => h i (by omega))

/-- One step of the chain. -/
def StepAt (P : Prg) (ops : Array Oper) (F : Nat → D) (σ : Nat → Option Blk) (o : Oper) (r : RecX) : Prop :=
  (wantedF ops F o = some true ∧ OpOut P o (evalD F) σ r.d r.r) ∨ (wantedF ops F o = some false ∧ r.d = .tup [] ∧ r.r = ⟨[], []⟩)

theorem laid_nil (σ : Nat → Option Blk) : laid σ [] = σ := rfl

theorem Chain.steps {P : Prg} {ops : Array Oper} {os : List Oper} {st st' : St} {rs : List RecX} (h : Chain P ops os st rs st') :
    rs.length = os.length ∧ (∀ k L, (∀ i, k ≤ i → L i = true) → foldF L k (os.zip rs) st.get = st'.get ∧ foldσ L k (os.zip rs) (lk st.σ) = lk st'.σ) ∧
    ∀ (k j : Nat) o r, (os.zip rs)[j]? = some (o, r) → StepAt P ops (foldF (fun i => decide (i < k + j)) k (os.zip rs) st.get) (foldσ (fun i => decide (i < k + j)) k (os.zip rs) (lk st.σ)) o r := by
  induction h with
  | nil st => exact ⟨rfl, fun k L _ => ⟨rfl, rfl⟩, by simp⟩
  | @ran o os st st' d r rs hw ho hc ih =>
    obtain ⟨h1, h2, h3⟩ := ih
    refine ⟨by simp [h1], fun k L hL => ?_, fun k j o' r' hj => ?_⟩
    · have := h2 (k + 1) L (fun i hi => hL i (by omega))
      rw [lay_get, get_put, lay_σ, put_σ] at this
      simpa [foldF, foldσ, hL k (Nat.le_refl _)] using this
    · cases j with
      | zero =>
        simp only [List.zip_cons_cons, List.getElem?_cons_zero, Option.some.injEq, Prod.mk.injEq] at hj
        obtain ⟨rfl, rfl⟩ := hj
        rw [foldF_none _ _ _ (fun i hi => by simp; omega), foldσ_none _ _ _ (fun i hi => by simp; omega)]
        exact .inl ⟨hw, ho⟩
      | succ j =>
        have := h3 (k + 1) j o' r' (by simpa using hj)
        rw [lay_get, get_put, lay_σ, put_σ] at this
        simp only [List.zip_cons_cons, foldF, foldσ]
        rw [if_pos (by simp), if_pos (by simp)]
        rw [show k + (j + 1) = k + 1 + j from by omega]
        exact this
  | @skip o os st st' rs hw hc ih =>
    obtain ⟨h1, h2, h3⟩ := ih
    refine ⟨by simp [h1], fun k L hL => ?_, fun k j o' r' hj => ?_⟩
    · have := h2 (k + 1) L (fun i hi => hL i (by omega))
      rw [get_put, put_σ] at this
      simpa [foldF, foldσ, hL k (Nat.le_refl _), laid_nil] using this
    · cases j with
      | zero =>
        simp only [List.zip_cons_cons, List.getElem?_cons_zero, Option.some.injEq, Prod.mk.injEq] at hj
        obtain ⟨rfl, rfl⟩ := hj
        rw [foldF_none _ _ _ (fun i hi => by simp; omega), foldσ_none _ _ _ (fun i hi => by simp; omega)]
        exact .inr ⟨hw, rfl, rfl⟩
      | succ j =>
        have := h3 (k + 1) j o' r' (by simpa using hj)
        rw [get_put, put_σ] at this
        simp only [List.zip_cons_cons, foldF, foldσ]
        rw [if_pos (by simp), if_pos (by simp)]
        rw [show k + (j + 1) = k + 1 + j from by omega]
        exact this

/-- The temporaries that an operation reads. -/
def readsT (ops : Array Oper) (o : Oper) : List Tmp :=
  (match o.guard with | some (j, _) => ((ops[j]?).bind (·.dst)).toList | none => []) ++ o.op.operands.toList.filterMap fun | .tmp t => some t | _ => none

def indepB (ops : Array Oper) (oi : Oper) (ri : RecX) (oj : Oper) (rj : RecX) : Bool :=
  (match oi.dst with | some t => !(readsT ops oj).contains t && !(match oj.dst with | some t' => t' == t | none => false) | none => true) &&
  (match oj.dst with | some t => !(readsT ops oi).contains t | none => true) &&
  ri.r.ws.all (fun p => !rj.r.rds.contains p.1 && !(rj.r.ws.any fun q => q.1 == p.1)) && rj.r.ws.all (fun p => !ri.r.rds.contains p.1)

def bernB (ops : Array Oper) (rs : List RecX) : Bool :=
  let A := Region.before ops
  (ops.toList.zipIdx.all fun (o, j) => o.after.all fun e => !Region.binds .any e || decide (e.on < j)) &&
  (ops.toList.zipIdx.all fun (o, j) => (List.range j).all fun i => !(A.getD j 0).testBit i || o.after.any fun e => Region.binds .any e && (e.on == i || (decide (i < e.on) && (A.getD e.on 0).testBit i))) &&
  ((ops.toList.zip rs).zipIdx.all fun (q, j) => ((ops.toList.zip rs).take j).zipIdx.all fun (p, i) => (A.getD j 0).testBit i || indepB ops p.1 p.2 q.1 q.2)

theorem lk_any {α : Type} (l : List (Nat × α)) (b : Nat) : (lk l b).isSome = l.any fun q => q.1 == b := by
  induction l with
  | nil => rfl
  | cons p l ih =>
    obtain ⟨k, v⟩ := p
    simp only [lk, List.any_cons]
    by_cases e : b = k
    · subst e; simp
    · have : (k == b) = false := by simp; exact fun h => e h.symm
      rw [if_neg e, ih, this, Bool.false_or]

end Go.Id

/-
  Plain: a region on data, in whatever order its edges allow. Conditions: two operations that no edge orders touch nothing in common.
-/
set_option linter.unusedSimpArgs false
set_option linter.unusedVariables false
set_option linter.unnecessarySimpa false
namespace Go.Id
open Go

theorem foldF_last {t : Nat} : ∀ (l : List (Oper × RecX)) (j k : Nat) (F : Nat → D) (o : Oper) (r : RecX), l[j]? = some (o, r) → o.dst = some t → foldF (fun i => decide (i < k + j + 1)) k l F t = r.d
  | [], _, _, _, _, _, h, _ => by simp at h
  | (o', r') :: l, 0, k, F, o, r, h, hd => by
    simp only [List.getElem?_cons_zero, Option.some.injEq, Prod.mk.injEq] at h
    obtain ⟨rfl, rfl⟩ := h
    simp only [foldF]
    rw [foldF_none _ _ _ (fun i hi => by simp; omega), if_pos (by simp)]
    simp [updO, hd, upd]
  | (o', r') :: l, j + 1, k, F, o, r, h, hd => by
    simp only [foldF]
    rw [if_pos (by simp; omega)]
    have := foldF_last l j (k + 1) (updO F o'.dst r'.d) o r (by simpa using h) hd
    rw [show k + (j + 1) + 1 = k + 1 + j + 1 from by omega]
    exact this

theorem foldσ_last {b : Nat} {blk : Blk} : ∀ (l : List (Oper × RecX)) (j k : Nat) (σ : Nat → Option Blk) (o : Oper) (r : RecX), l[j]? = some (o, r) → lk r.r.ws b = some blk → foldσ (fun i => decide (i < k + j + 1)) k l σ b = some blk
  | [], _, _, _, _, _, h, _ => by simp at h
  | (o', r') :: l, 0, k, σ, o, r, h, hd => by
    simp only [List.getElem?_cons_zero, Option.some.injEq, Prod.mk.injEq] at h
    obtain ⟨rfl, rfl⟩ := h
    simp only [foldσ]
    rw [foldσ_none _ _ _ (fun i hi => by simp; omega), if_pos (by simp)]
    simp [laid, hd]
  | (o', r') :: l, j + 1, k, σ, o, r, h, hd => by
    simp only [foldσ]
    rw [if_pos (by simp; omega)]
    have := foldσ_last l j (k + 1) (laid σ r'.r.ws) o r (by simpa using h) hd
    rw [show k + (j + 1) + 1 = k + 1 + j + 1 from by omega]
    exact this

structure Bern (ops : Array Oper) (z : List (Oper × RecX)) (A : Nat → Nat → Bool) : Prop where
  edges : ∀ j o, ops[j]? = some o → ∀ e ∈ o.after, Region.binds .any e = true → e.on < j
  anc : ∀ j o i, ops[j]? = some o → i < j → A i j = true → ∃ e ∈ o.after, Region.binds .any e = true ∧ (e.on = i ∨ (i < e.on ∧ A i e.on = true))
  indep : ∀ i j oi ri oj rj, i < j → z[i]? = some (oi, ri) → z[j]? = some (oj, rj) → A i j = false → indepB ops oi ri oj rj = true

theorem bern_of {ops : Array Oper} {rs : List RecX} (h : bernB ops rs = true) : Bern ops (ops.toList.zip rs) (fun i j => ((Region.before ops).getD j 0).testBit i) := by
  unfold bernB at h
  simp only [Bool.and_eq_true, List.all_eq_true] at h
  obtain ⟨⟨h1, h2⟩, h3⟩ := h
  refine ⟨fun j o hj e he hb => ?_, fun j o i hj hij hA => ?_, fun i j oi ri oj rj hij hi hj hA => ?_⟩
  · have := h1 (o, j) (by rw [List.mk_mem_zipIdx_iff_getElem?]; simpa using hj)
    have := (Array.all_eq_true'.1 this) e he
    simpa [hb] using this
  · have := h2 (o, j) (by rw [List.mk_mem_zipIdx_iff_getElem?]; simpa using hj) i (by simpa using hij)
    rw [hA] at this
    simp only [Bool.not_true, Bool.false_or, Array.any_eq_true'] at this
    obtain ⟨e, he, hq⟩ := this
    simp only [Bool.and_eq_true, Bool.or_eq_true, beq_iff_eq, decide_eq_true_eq] at hq
    exact ⟨e, he, hq.1, hq.2⟩
  · have h4 := h3 ((oj, rj), j) (by rw [List.mk_mem_zipIdx_iff_getElem?]; exact hj) ((oi, ri), i) (by rw [List.mk_mem_zipIdx_iff_getElem?, List.getElem?_take, if_pos hij]; exact hi)
    simp only [hA, Bool.false_or] at h4
    exact h4

theorem indepB_spec {ops : Array Oper} {oi oj : Oper} {ri rj : RecX} (h : indepB ops oi ri oj rj = true) :
    (∀ t, oi.dst = some t → t ∉ readsT ops oj ∧ oj.dst ≠ some t) ∧ (∀ t, oj.dst = some t → t ∉ readsT ops oi) ∧
    (∀ b, (lk ri.r.ws b).isSome = true → b ∉ rj.r.rds ∧ (lk rj.r.ws b).isSome = false) ∧ (∀ b, (lk rj.r.ws b).isSome = true → b ∉ ri.r.rds) := by
  unfold indepB at h
  simp only [Bool.and_eq_true] at h
  obtain ⟨⟨⟨h1, h2⟩, h3⟩, h4⟩ := h
  refine ⟨fun t ht => ?_, fun t ht => ?_, fun b hb => ?_, fun b hb => ?_⟩
  · simp only [ht, Bool.and_eq_true, Bool.not_eq_true'] at h1
    refine ⟨by simpa using h1.1, fun e => ?_⟩
    have := h1.2
    simp [e] at this
  · simp only [ht, Bool.not_eq_true'] at h2
    simpa using h2
  · rw [lk_any, List.any_eq_true] at hb
    obtain ⟨q, hq, e⟩ := hb
    have := (List.all_eq_true.1 h3) q hq
    simp only [beq_iff_eq] at e
    subst e
    simp only [Bool.and_eq_true, Bool.not_eq_true'] at this
    exact ⟨by simpa using this.1, by rw [lk_any]; exact this.2⟩
  · rw [lk_any, List.any_eq_true] at hb
    obtain ⟨q, hq, e⟩ := hb
    have := (List.all_eq_true.1 h4) q hq
    simp only [beq_iff_eq] at e
    subst e
    simpa using this

section
variable {P : Prg} {E : Ent P} {ent : List Nat} {N : Nat}

def isL (listed : Array Bool) (i : Nat) : Bool := listed.getD i false

theorem wantedF_congr {ops : Array Oper} {o : Oper} {F F' : Nat → D} (h : ∀ t ∈ readsT ops o, F' t = F t) : wantedF ops F' o = wantedF ops F o := by
  unfold wantedF
  cases hg : o.guard with
  | none => rfl
  | some p =>
    obtain ⟨j, want⟩ := p
    simp only
    cases hq : (ops[j]?).bind (·.dst) with
    | none => rfl
    | some t => simp only [h t (by simp [readsT, hg, hq])]

theorem evalD_congr {ops : Array Oper} {o : Oper} {F F' : Nat → D} (h : ∀ t ∈ readsT ops o, F' t = F t) : ∀ x ∈ o.op.operands, evalD F' x = evalD F x := by
  intro x hx
  cases x with
  | tmp t => exact h t (by
      simp only [readsT, List.mem_append, List.mem_filterMap]
      exact .inr ⟨.tmp t, by simpa using hx, rfl⟩)
  | _ => rfl

theorem wpAny_chain {ops : Array Oper} (hd : dstsOk N ops = true) {z : List (Oper × RecX)} {A : Nat → Nat → Bool} (hz : ∀ (i : Nat) (o : Oper), ops[i]? = some o → ∃ r : RecX, z[i]? = some (o, r)) (hz' : ∀ (i : Nat) (o : Oper) (r : RecX), z[i]? = some (o, r) → ops[i]? = some o) (hB : Bern ops z A)
    {F0 : Nat → D} {σ0 : Nat → Option Blk} (hst : ∀ (j : Nat) (o : Oper) (r : RecX), z[j]? = some (o, r) → StepAt P ops (foldF (fun i => decide (i < j)) 0 z F0) (foldσ (fun i => decide (i < j)) 0 z σ0) o r)
    (Q : Exit → Act → World → Prop) (hq : ∀ L, (∀ i, i < ops.size → L i = true) → ∀ a w, Rel E ent N (foldF L 0 z F0) (foldσ L 0 z σ0) a w → Q .normal a w) :
    ∀ (fuel : Nat) (listed : Array Bool), listed.size = ops.size → listed.toList.count false ≤ fuel →
      (∀ (i : Nat) (o : Oper), ops[i]? = some o → isL listed i = true → ∀ e ∈ o.after, Region.binds .any e = true → isL listed e.on = true) →
      ∀ a w, Rel E ent N (foldF (isL listed) 0 z F0) (foldσ (isL listed) 0 z σ0) a w → wpAny P.prog .any ops Q fuel listed a w := by
  have allL : ∀ (listed : Array Bool), listed.size = ops.size → listed.toList.count false = 0 → ∀ i, i < ops.size → isL listed i = true := by
    intro listed hs hc i hi
    have hlt : i < listed.size := by omega
    have hne : false ∉ listed.toList := List.count_eq_zero.1 hc
    cases hv : listed[i] with
    | true => simp [isL, Array.getD_eq_getD_getElem?, hlt, hv]
    | false => exact absurd (by rw [← hv]; simp) hne
  intro fuel
  induction fuel with
  | zero =>
    intro listed hs hc _ a w hr
    have hall := allL listed hs (by omega)
    refine ⟨?_, hq _ hall a w hr⟩
    simp only [Region.ready, List.filter_eq_nil_iff, List.mem_range]
    intro i hi
    have := hall i hi
    simp only [isL, Array.getD_eq_getD_getElem?] at this
    have hlt : i < listed.size := by omega
    simp [Array.getD_eq_getD_getElem?, hlt] at this ⊢
    simp [this]
  | succ fuel ih =>
    intro listed hs hc hcl a w hr
    refine ⟨fun hnone => ?_, fun j hj => ?_⟩
    · -- all listed
      refine hq _ ?_ a w hr
      intro i hi
      induction i using Nat.strongRecOn with
      | _ i ihi =>
        cases hL : isL listed i with
        | true => rfl
        | false =>
          exfalso
          obtain ⟨o, ho⟩ : ∃ o, ops[i]? = some o := ⟨ops[i], Array.getElem?_eq_getElem hi⟩
          have : i ∈ Region.ready .any ops listed := by
            simp only [Region.ready, List.mem_filter, List.mem_range]
            refine ⟨hi, ?_⟩
            have hlt : i < listed.size := by omega
            have hL' : listed.getD i true = false := by
              simp only [isL, Array.getD_eq_getD_getElem?, Array.getElem?_eq_getElem hlt, Option.getD_some] at hL ⊢
              exact hL
            simp only [hL', Bool.not_false, Bool.true_and, ho, Option.map_some, Option.getD_some, Array.all_eq_true']
            intro e he
            cases hb : Region.binds .any e with
            | false => rfl
            | true =>
              have hlt' := hB.edges i o ho e he hb
              have := ihi e.on hlt' (by omega)
              simpa [isL] using this
          rw [hnone] at this
          cases this
    · -- the next operation
      simp only [Region.ready, List.mem_filter, List.mem_range, Bool.and_eq_true, Bool.not_eq_true'] at hj
      obtain ⟨hjlt, hjn, hje⟩ := hj
      obtain ⟨o, ho⟩ : ∃ o, ops[j]? = some o := ⟨ops[j], Array.getElem?_eq_getElem hjlt⟩
      obtain ⟨r, hzr⟩ := hz j o ho
      have hjls : j < listed.size := by omega
      have hjL : isL listed j = false := by
        simp only [isL, Array.getD_eq_getD_getElem?, Array.getElem?_eq_getElem hjls, Option.getD_some] at hjn ⊢
        exact hjn
      simp only [ho, Option.map_some, Option.getD_some, Array.all_eq_true'] at hje
      have hjedge : ∀ e ∈ o.after, Region.binds .any e = true → isL listed e.on = true := by
        intro e he hb
        have := hje e he
        simpa [hb, isL] using this
      -- what is an ancestor is listed
      have hanc : ∀ (q : Nat) oq, ops[q]? = some oq → (∀ e ∈ oq.after, Region.binds .any e = true → isL listed e.on = true) → ∀ i, i < q → A i q = true → isL listed i = true := by
        intro q
        induction q using Nat.strongRecOn with
        | _ q ihq =>
          intro oq hoq hedge i hiq hA
          obtain ⟨e, he, hb, hor⟩ := hB.anc q oq i hoq hiq hA
          have hlis := hedge e he hb
          rcases hor with rfl | ⟨hlt, hA'⟩
          · exact hlis
          · have heq := hB.edges q oq hoq e he hb
            obtain ⟨oe, hoe⟩ : ∃ oe, ops[e.on]? = some oe := by
              have : e.on < ops.size := by have := (Array.getElem?_eq_some_iff.1 hoq).1; omega
              exact ⟨ops[e.on], Array.getElem?_eq_getElem this⟩
            exact ihq e.on heq oe hoe (hcl e.on oe hoe hlis) i hlt hA'
      -- the two cases
      have before : ∀ i oi ri, z[i]? = some (oi, ri) → i < j → isL listed i = false → indepB ops oi ri o r = true := by
        intro i oi ri hzi hij hni
        refine hB.indep i j oi ri o r hij hzi hzr ?_
        cases hA : A i j with
        | false => rfl
        | true => rw [hanc j o ho hjedge i hij hA] at hni; cases hni
      have behind : ∀ i oi ri, z[i]? = some (oi, ri) → j < i → isL listed i = true → indepB ops o r oi ri = true := by
        intro i oi ri hzi hij hli
        refine hB.indep j i o r oi ri hij hzr hzi ?_
        cases hA : A j i with
        | false => rfl
        | true =>
          have := hanc i oi (hz' i oi ri hzi) (hcl i oi (hz' i oi ri hzi) hli) j hij hA
          rw [hjL] at this; cases this
      have hFr : ∀ t ∈ readsT ops o, foldF (isL listed) 0 z F0 t = foldF (fun i => decide (i < j)) 0 z F0 t := by
        intro t ht
        refine foldF_agree z 0 _ _ (fun i oi ri hzi hdi => ?_) rfl
        simp only [Nat.zero_add]
        rcases Nat.lt_trichotomy i j with h | h | h
        · rw [decide_eq_true h]
          cases hL : isL listed i with
          | true => rfl
          | false => exact absurd ht ((indepB_spec (before i oi ri hzi h hL)).1 t hdi).1
        · subst h; rw [hjL]; simp
        · rw [decide_eq_false (by omega)]
          cases hL : isL listed i with
          | false => rfl
          | true => exact absurd ht ((indepB_spec (behind i oi ri hzi h hL)).2.1 t hdi)
      have hσr : ∀ b ∈ r.r.rds, foldσ (isL listed) 0 z σ0 b = foldσ (fun i => decide (i < j)) 0 z σ0 b := by
        intro b hb
        refine foldσ_agree z 0 _ _ (fun i oi ri hzi hdi => ?_) rfl
        simp only [Nat.zero_add]
        rcases Nat.lt_trichotomy i j with h | h | h
        · rw [decide_eq_true h]
          cases hL : isL listed i with
          | true => rfl
          | false => exact absurd hb ((indepB_spec (before i oi ri hzi h hL)).2.2.1 b hdi).1
        · subst h; rw [hjL]; simp
        · rw [decide_eq_false (by omega)]
          cases hL : isL listed i with
          | false => rfl
          | true => exact absurd hb ((indepB_spec (behind i oi ri hzi h hL)).2.2.2 b hdi)
      -- the new list
      have hset : ∀ i, isL (listed.setIfInBounds j true) i = if i = j then true else isL listed i := by
        intro i
        simp only [isL, Array.getD_eq_getD_getElem?, Array.getElem?_setIfInBounds]
        by_cases e : j = i
        · subst e; simp [hjls]
        · rw [if_neg e, if_neg (fun q => e q.symm)]
      have hcount : (listed.setIfInBounds j true).toList.count false ≤ fuel := by
        have hlt : j < listed.toList.length := by simpa using hjls
        have hv : listed.toList[j] = false := by
          simp only [isL, Array.getD_eq_getD_getElem?, Array.getElem?_eq_getElem hjls, Option.getD_some] at hjL
          simpa using hjL
        rw [Array.toList_setIfInBounds, List.count_set hlt, hv]
        have hpos : 0 < listed.toList.count false := List.count_pos_iff.2 (by rw [← hv]; exact List.getElem_mem hlt)
        rw [if_pos (by rfl), if_neg (by decide)]
        omega
      have hnewF : updO (foldF (isL listed) 0 z F0) o.dst r.d = foldF (isL (listed.setIfInBounds j true)) 0 z F0 := by
        funext t
        by_cases hdt : o.dst = some t
        · have h1 : updO (foldF (isL listed) 0 z F0) o.dst r.d t = r.d := by simp [updO, hdt, upd]
          rw [h1, ← foldF_last z j 0 F0 o r hzr hdt]
          refine (foldF_agree z 0 _ _ (fun i oi ri hzi hdi => ?_) rfl).symm
          simp only [Nat.zero_add, hset]
          rcases Nat.lt_trichotomy i j with h | h | h
          · rw [if_neg (by omega), decide_eq_true (by omega)]
            cases hL : isL listed i with
            | true => rfl
            | false => exact absurd hdt ((indepB_spec (before i oi ri hzi h hL)).1 t hdi).2
          · subst h; simp
          · rw [if_neg (by omega), decide_eq_false (by omega)]
            cases hL : isL listed i with
            | false => rfl
            | true => exact absurd hdi ((indepB_spec (behind i oi ri hzi h hL)).1 t hdt).2
        · have h1 : updO (foldF (isL listed) 0 z F0) o.dst r.d t = foldF (isL listed) 0 z F0 t := by
            cases hod : o.dst with
            | none => rfl
            | some t' => simp only [updO, upd]; rw [if_neg (fun q => hdt (by rw [hod, q]))]
          rw [h1]
          refine foldF_agree z 0 _ _ (fun i oi ri hzi hdi => ?_) rfl
          simp only [Nat.zero_add, hset]
          by_cases e : i = j
          · subst e; rw [hzr] at hzi; cases hzi; exact absurd hdi hdt
          · rw [if_neg e]
      have hnewσ : laid (foldσ (isL listed) 0 z σ0) r.r.ws = foldσ (isL (listed.setIfInBounds j true)) 0 z σ0 := by
        funext b
        cases hlk : lk r.r.ws b with
        | some blk =>
          have h1 : laid (foldσ (isL listed) 0 z σ0) r.r.ws b = some blk := by simp [laid, hlk]
          rw [h1, ← foldσ_last z j 0 σ0 o r hzr hlk]
          refine (foldσ_agree z 0 _ _ (fun i oi ri hzi hdi => ?_) rfl).symm
          simp only [Nat.zero_add, hset]
          rcases Nat.lt_trichotomy i j with h | h | h
          · rw [if_neg (by omega), decide_eq_true (by omega)]
            cases hL : isL listed i with
            | true => rfl
            | false =>
              have := ((indepB_spec (before i oi ri hzi h hL)).2.2.1 b hdi).2
              rw [hlk] at this; cases this
          · subst h; simp
          · rw [if_neg (by omega), decide_eq_false (by omega)]
            cases hL : isL listed i with
            | false => rfl
            | true =>
              have := ((indepB_spec (behind i oi ri hzi h hL)).2.2.1 b (by simp [hlk])).2
              rw [this] at hdi; cases hdi
        | none =>
          have h1 : laid (foldσ (isL listed) 0 z σ0) r.r.ws b = foldσ (isL listed) 0 z σ0 b := by simp [laid, hlk]
          rw [h1]
          refine foldσ_agree z 0 _ _ (fun i oi ri hzi hdi => ?_) rfl
          simp only [Nat.zero_add, hset]
          by_cases e : i = j
          · subst e; rw [hzr] at hzi; cases hzi; simp [hlk] at hdi
          · rw [if_neg e]
      have hcl' : ∀ i oi, ops[i]? = some oi → isL (listed.setIfInBounds j true) i = true → ∀ e ∈ oi.after, Region.binds .any e = true → isL (listed.setIfInBounds j true) e.on = true := by
        intro i oi hoi hL e he hb
        rw [hset] at hL ⊢
        split
        · rfl
        · split at hL
          · rename_i h; subst h; rw [ho] at hoi; cases hoi; exact hjedge e he hb
          · exact hcl i oi hoi hL e he hb
      have hs' : (listed.setIfInBounds j true).size = ops.size := by simp [hs]
      have hmem : o ∈ ops := Array.mem_of_getElem? ho
      unfold wpOp
      simp only [ho]
      rcases hst j o r hzr with ⟨hw, hout⟩ | ⟨hw, hdj, hrj⟩
      · rw [← wantedF_congr hFr] at hw
        rw [wanted_of hr hw, if_pos rfl]
        have hout' := hout.congr (ρ' := evalD (foldF (isL listed) 0 z F0)) (σ' := foldσ (isL listed) 0 z σ0) (evalD_congr hFr) hσr
        refine .inl (hout'.wp hr (dstsOk_spec hd hmem) _ _ (fun a' w' hr' => ih _ hs' hcount hcl' a' w' ?_))
        rw [← hnewF, ← hnewσ]; exact hr'
      · rw [← wantedF_congr hFr] at hw
        rw [wanted_of hr hw, if_neg (by simp)]
        refine ih _ hs' hcount hcl' _ _ ?_
        rw [← hnewF, ← hnewσ, hdj, hrj, laid_nil]
        exact hr.skip (dstsOk_spec hd hmem)

theorem Rel.drew {F : Nat → D} {σ : Nat → Option Blk} {a : Act} {w : World} (h : Rel E ent N F σ a w) : Rel E ent N F σ a w.drew := by
  obtain ⟨γ, h1, h2, h3, h4, h5, h6⟩ := h
  have hv : Evolve (Mall E.M γ) γ w (Mall E.M γ) γ w.drew := ⟨rfl, rfl, rfl, Nat.le_refl _, fun _ _ _ _ h => h, fun _ _ h _ => h, fun _ g h => ⟨g, h, G.le_refl g⟩, fun _ _ _ => rfl, fun b g _ h h' _ => ⟨b, g, h, h'⟩⟩
  refine ⟨γ, h1, ⟨fun b => ?_, h2.dist, h2.outer, h2.apart, E.M.stable _ _ h2.inv (fun _ _ => rfl), h2.low, h2.big⟩, h3.trans hv, h4, h5, fun t => (h6 t).evolve hv⟩
  rcases h2.names b with ⟨blk, g, q1, q2, q3⟩ | q
  · exact .inl ⟨blk, g, q1, q2, q3.keep hv (fun _ _ => rfl)⟩
  · exact .inr q

theorem wp_region_drawn {id : Nat} {ops : Array Oper} (hm : P.prog.follows .mixedOrders = true) (hd : dstsOk N ops = true) {Q : Exit → Act → World → Prop} {st st' : St} {rs : List RecX} (h : Chain P ops ops.toList st rs st') (hb : bernB ops rs = true)
    {a : Act} {w : World} (hr : Rel E ent N st.get (lk st.σ) a w) (hq : ∀ a' w', Rel E ent N st'.get (lk st'.σ) a' w' → Q .normal a' w') : (Code.region id ops true).wp P.prog Q a w := by
  obtain ⟨h1, h2, h3⟩ := h.steps
  refine wp_region_any hm ?_
  refine wpAny_chain (E := E) (ent := ent) hd (z := ops.toList.zip rs) (fun i o ho => ?_) (fun i o r hi => ?_) (bern_of hb) (F0 := st.get) (σ0 := lk st.σ) (fun j o r hj => ?_) Q (fun L hL a w hr' => hq a w ?_) ops.size _ (by simp) (by simp) (fun i o ho hL => ?_) a _ ?_
  · have hlt : i < rs.length := by have := (Array.getElem?_eq_some_iff.1 ho).1; simp at h1; omega
    exact ⟨rs[i], by rw [List.getElem?_zip_eq_some]; exact ⟨by simpa using ho, List.getElem?_eq_getElem hlt⟩⟩
  · rw [List.getElem?_zip_eq_some] at hi; simpa using hi.1
  · have := h3 0 j o r hj
    simpa using this
  · obtain ⟨q1, q2⟩ := h2 0 (fun _ => true) (fun _ _ => rfl)
    rw [← q1, ← q2]
    have hlen : ∀ i o r, (ops.toList.zip rs)[i]? = some (o, r) → i < ops.size := fun i o r hi => by
      rw [List.getElem?_zip_eq_some] at hi
      have := (List.getElem?_eq_some_iff.1 hi.1).1
      simpa using this
    have e1 : foldF L 0 (ops.toList.zip rs) st.get = foldF (fun _ => true) 0 (ops.toList.zip rs) st.get := by
      funext t; exact foldF_agree _ 0 _ _ (fun i o r hi _ => by simpa using hL i (hlen i o r hi)) rfl
    have e2 : foldσ L 0 (ops.toList.zip rs) (lk st.σ) = foldσ (fun _ => true) 0 (ops.toList.zip rs) (lk st.σ) := by
      funext t; exact foldσ_agree _ 0 _ _ (fun i o r hi _ => by simpa using hL i (hlen i o r hi)) rfl
    rw [← e1, ← e2]; exact hr'
  · exfalso
    simp only [isL, Array.getD_eq_getD_getElem?] at hL
    rw [Array.getElem?_replicate] at hL
    split at hL <;> simp at hL
  · have hno : ∀ i, 0 ≤ i → isL (Array.replicate ops.size false) i = false := by
      intro i _
      simp only [isL, Array.getD_eq_getD_getElem?, Array.getElem?_replicate]
      split <;> rfl
    rw [foldF_none _ _ _ hno, foldσ_none _ _ _ hno]
    exact hr.drew

end
end Go.Id

/-
  Plain: a function's code on data: what it returns. Conditions: as each law says.
-/
set_option linter.unusedSimpArgs false
set_option linter.unusedVariables false
set_option linter.unnecessarySimpa false
namespace Go.Id
open Go

/-- A call of a Go function, among the operations. -/
def CallK (P : Prg) (fo : D) (args : List D) (σ : List (Nat × Blk)) (K : D → Rec → Prop) : Prop :=
  ∃ k first cap ins d r, fo = .fn (.func k) first cap ∧ CallE P k ((first ++ args ++ cap).map fg) ins d r.ws ∧
    (∀ b blk, lk ins b = some blk → lk σ b = some blk ∧ BClo (fun i => (lk ins i).isSome = true) blk) ∧ (∀ b, (lk r.ws b).isSome = true → (lk ins b).isSome = true ∨ (lk σ b = none ∧ b ∈ r.rds)) ∧
    (∀ d ∈ (first ++ args ++ cap).map fg, Clo (fun i => (lk ins i).isSome = true) d) ∧ (∀ b, (lk ins b).isSome = true → b ∈ r.rds) ∧ K d r

def effK (u : Bool) (n : Nat) (K : D → Rec → Prop) : Option Eff → Prop
  | some f => f.side ∧ K f.val ⟨if u = true then n :: f.rds else f.rds, f.ws⟩
  | none => False

def OpK (P : Prg) (o : Op) (st : St) (K : D → Rec → Prop) : Prop :=
  match o with
  | .call { callee := .value f, args, .. } => CallK P (evalD st.get f) (args.toList.map (evalD st.get)) st.σ K
  | .buildSlice t n ps => effK (P.lit t n ps) (fresh st.σ) K (if P.lit t n ps = true then opA P.prog (evalD st.get) (fresh st.σ) t n ps else opD P.prog (evalD st.get) (lk st.σ) (fresh st.σ) (.buildSlice t n ps))
  | o => effK (usesId o) (fresh st.σ) K (opD P.prog (evalD st.get) (lk st.σ) (fresh st.σ) o)

theorem effK.mono {u : Bool} {n : Nat} {K K' : D → Rec → Prop} (hk : ∀ d r, K d r → K' d r) {x : Option Eff} (h : effK u n K x) : effK u n K' x := by
  cases x with
  | none => exact h
  | some f => exact ⟨h.1, hk _ _ h.2⟩

def runOps (P : Prg) (ops : Array Oper) : List Oper → St → List RecX → (St → List RecX → Prop) → Prop
  | [], st, acc, K => K st acc
  | o :: os, st, acc, K => match wantedF ops st.get o with
    | some true => OpK P o.op st fun d r => runOps P ops os ((st.put o.dst d).lay r.ws) (acc ++ [⟨true, d, r⟩]) K
    | some false => runOps P ops os (st.put o.dst (.tup [])) (acc ++ [⟨false, .tup [], ⟨[], []⟩⟩]) K
    | none => False

section
variable {P : Prg}

theorem OpK.out {o : Oper} {st : St} {K : D → Rec → Prop} (h : OpK P o.op st K) : ∃ d r, OpOut P o (evalD st.get) (lk st.σ) d r ∧ K d r := by
  have plain : effK (usesM P o.op) (fresh st.σ) K (opM P (evalD st.get) (lk st.σ) (fresh st.σ) o.op) → ∃ d r, OpOut P o (evalD st.get) (lk st.σ) d r ∧ K d r := by
    intro h
    cases hf : opM P (evalD st.get) (lk st.σ) (fresh st.σ) o.op with
    | none => rw [hf] at h; exact h.elim
    | some f =>
      rw [hf] at h
      exact ⟨_, _, .inl ⟨fresh st.σ, f, fun _ => fresh_lt _ _ (Nat.le_refl _), hf, h.1, rfl, rfl⟩, h.2⟩
  unfold OpK at h
  split at h
  · rename_i fo args ts heq
    obtain ⟨k, first, cap, ins, d, r, h1, h2, h3, h4, h5, h6, h7⟩ := h
    exact ⟨d, r, .inr ⟨fo, args, ts, k, first, cap, ins, heq, h1, h2, h3, h4, h5, h6⟩, h7⟩
  · rename_i t n ps heq
    refine plain ?_
    rw [heq]; exact h
  · rename_i hne
    have e := opM_other P (evalD st.get) (lk st.σ) (fresh st.σ) o.op (fun t n ps ho => (hne t n ps ho).elim)
    rw [← e.1, ← e.2] at h
    exact plain h

theorem runOps.chain {ops : Array Oper} : ∀ (os : List Oper) (st : St) (acc : List RecX) (K : St → List RecX → Prop), runOps P ops os st acc K → ∃ rs st', Chain P ops os st rs st' ∧ K st' (acc ++ rs)
  | [], st, acc, K, h => ⟨[], st, .nil st, by simpa [runOps] using h⟩
  | o :: os, st, acc, K, h => by
    simp only [runOps] at h
    split at h
    · rename_i hw
      obtain ⟨d, r, ho, h⟩ := OpK.out h
      obtain ⟨rs, st', hc, hk⟩ := runOps.chain os _ _ _ h
      exact ⟨_, st', .ran hw ho hc, by simpa using hk⟩
    · rename_i hw
      obtain ⟨rs, st', hc, hk⟩ := runOps.chain os _ _ _ h
      exact ⟨_, st', .skip hw hc, by simpa using hk⟩
    · exact h.elim

theorem OpK.mono {o : Op} {st : St} {K K' : D → Rec → Prop} (hk : ∀ d r, K d r → K' d r) (h : OpK P o st K) : OpK P o st K' := by
  unfold OpK at h ⊢
  split at h
  · obtain ⟨k, first, cap, ins, d, r, h1, h2, h3, h4, h5, h6, h7⟩ := h
    exact ⟨k, first, cap, ins, d, r, h1, h2, h3, h4, h5, h6, hk _ _ h7⟩
  · exact effK.mono hk h
  · exact effK.mono hk h

theorem runOps.mono {ops : Array Oper} : ∀ (os : List Oper) (st : St) (acc : List RecX) (K K' : St → List RecX → Prop), (∀ st rs, K st rs → K' st rs) → runOps P ops os st acc K → runOps P ops os st acc K'
  | [], st, acc, K, K', hk, h => hk _ _ h
  | o :: os, st, acc, K, K', hk, h => by
    unfold runOps at h ⊢
    cases hw : wantedF ops st.get o with
    | none => rw [hw] at h; exact h.elim
    | some b =>
      rw [hw] at h
      cases b with
      | true => exact OpK.mono (fun d r h => runOps.mono os _ _ _ _ hk h) h
      | false => exact runOps.mono os _ _ _ _ hk h

theorem runOps.append {ops : Array Oper} : ∀ (os os' : List Oper) (st : St) (acc : List RecX) (K : St → List RecX → Prop), runOps P ops os st acc (fun st' acc' => runOps P ops os' st' acc' K) → runOps P ops (os ++ os') st acc K
  | [], os', st, acc, K, h => h
  | o :: os, os', st, acc, K, h => by
    rw [List.cons_append]
    unfold runOps at h ⊢
    cases hw : wantedF ops st.get o with
    | none => rw [hw] at h; exact h.elim
    | some b =>
      rw [hw] at h
      cases b with
      | true => exact OpK.mono (fun d r h => runOps.append os os' _ _ _ h) h
      | false => exact runOps.append os os' _ _ _ h

/-- The first n operations, what follows behind a variable. -/
theorem runOps.take (n : Nat) {ops : Array Oper} {os : List Oper} {st : St} {acc : List RecX} {K : St → List RecX → Prop} (h : ∀ K' : St → List RecX → Prop, (∀ st' acc', runOps P ops (os.drop n) st' acc' K → K' st' acc') → runOps P ops (os.take n) st acc K') :
    runOps P ops os st acc K := by
  have := runOps.append (P := P) (ops := ops) (os.take n) (os.drop n) st acc K (h _ (fun _ _ h => h))
  rwa [List.take_append_drop] at this
end

/-- The code, on data. -/
def WP (P : Prg) (ent : List Nat) (N : Nat) (c : Code) (Q : Exit → St → Prop) (st : St) : Prop :=
  ∀ (E : Ent P) (a : Act) (w : World), Rel E ent N st.get (lk st.σ) a w → c.wp P.prog (fun e a' w' => ∃ st', Q e st' ∧ Rel E ent N st'.get (lk st'.σ) a' w') a w

def thenQ (next : St → Prop) (Q : Exit → St → Prop) : Exit → St → Prop
  | .normal, st => next st
  | e, st => Q e st

def blockQ (id : Nat) (Q : Exit → St → Prop) : Exit → St → Prop
  | .exit i, st => if i = id then Q .normal st else Q (.exit i) st
  | e, st => Q e st

section
variable {P : Prg} {ent : List Nat} {N : Nat} {Q : Exit → St → Prop} {st : St}

theorem WP.seq {x y : Code} (h : WP P ent N x (thenQ (fun st' => WP P ent N y Q st') Q) st) : WP P ent N (.seq x y) Q st := by
  intro E a w hr
  refine wp_seq (wp_mono (h E a w hr) ?_)
  rintro e a' w' ⟨st', hq, hr'⟩
  cases e with
  | normal => exact hq E a' w' hr'
  | _ => exact ⟨st', hq, hr'⟩

theorem WP.skip (h : Q .normal st) : WP P ent N .skip Q st := fun E a w hr => wp_skip ⟨st, h, hr⟩
theorem WP.label {l : Nat} (h : Q .normal st) : WP P ent N (.label l) Q st := fun E a w hr => wp_label ⟨st, h, hr⟩
theorem WP.exit {id : Nat} (h : Q (.exit id) st) : WP P ent N (.exit id) Q st := fun E a w hr => wp_exit ⟨st, h, hr⟩
theorem WP.ret (h : Q .ret st) : WP P ent N .ret Q st := fun E a w hr => wp_ret ⟨st, h, hr⟩

theorem WP.cond {c : Operand} {x y : Code} {b : Bool} (hc : evalD st.get c = .bool b) (ht : b = true → WP P ent N x Q st) (hf : b = false → WP P ent N y Q st) : WP P ent N (.cond c x y) Q st := by
  intro E a w hr
  have hr0 := hr
  obtain ⟨γ, h1, h2, h3, h4, h5, h6⟩ := hr
  have he := eval_rep h6 c
  rw [hc] at he
  exact wp_cond_split (bool_inj he) (fun e => ht e E a w hr0) (fun e => hf e E a w hr0)

theorem WP.block {id : Nat} {c : Code} (h : WP P ent N c (blockQ id Q) st) : WP P ent N (.block id c) Q st := by
  intro E a w hr
  refine wp_block (wp_mono (h E a w hr) ?_)
  rintro e a' w' ⟨st', hq, hr'⟩
  cases e with
  | exit i =>
    simp only [Exit.inBlock, blockQ] at hq ⊢
    split <;> rename_i hi
    · rw [if_pos hi] at hq; exact ⟨st', hq, hr'⟩
    · rw [if_neg hi] at hq; exact ⟨st', hq, hr'⟩
  | _ => exact ⟨st', hq, hr'⟩

theorem WP.region {id : Nat} {ops : Array Oper} (hd : dstsOk N ops = true) (h : ∀ K : St → List RecX → Prop, (∀ st' rs, Q .normal st' → K st' rs) → runOps P ops ops.toList st [] K) : WP P ent N (.region id ops false) Q st := by
  intro E a w hr
  obtain ⟨rs, st', hc, hk⟩ := runOps.chain _ _ _ _ (h (fun st' _ => Q .normal st') (fun _ _ h => h))
  exact wp_region_chain hd hc hr (fun a' w' hr' => ⟨st', hk, hr'⟩)

theorem WP.drawn {id : Nat} {ops : Array Oper} (hm : P.prog.follows .mixedOrders = true) (hd : dstsOk N ops = true) (h : ∀ K : St → List RecX → Prop, (∀ st' rs, bernB ops rs = true → Q .normal st' → K st' rs) → runOps P ops ops.toList st [] K) :
    WP P ent N (.region id ops true) Q st := by
  intro E a w hr
  obtain ⟨rs, st', hc, hk⟩ := runOps.chain _ _ _ _ (h (fun st' rs => bernB ops rs = true ∧ Q .normal st') (fun _ _ h h' => ⟨h, h'⟩))
  exact wp_region_drawn hm hd hc (by simpa using hk.1) hr (fun a' w' hr' => ⟨st', hk.2, hr'⟩)

theorem WP.mono {c : Code} {Q' : Exit → St → Prop} (h : WP P ent N c Q st) (hq : ∀ e st, Q e st → Q' e st) : WP P ent N c Q' st :=
  fun E a w hr => wp_mono (h E a w hr) (fun e a w ⟨st', q, r⟩ => ⟨st', hq _ _ q, r⟩)

/-- A state that says less. -/
def Weak (ent : List Nat) (st st' : St) : Prop := ∀ (P : Prg) (E : Ent P) (N : Nat) (a : Act) (w : World), Rel E ent N st.get (lk st.σ) a w → Rel E ent N st'.get (lk st'.σ) a w

theorem Weak.refl (st : St) : Weak ent st st := fun _ _ _ _ _ h => h
theorem Weak.trans {a b c : St} (h : Weak ent a b) (k : Weak ent b c) : Weak ent a c := fun P E N x w hr => k P E N x w (h P E N x w hr)
theorem WP.weak {c : Code} {st' : St} (hw : Weak ent st st') (h : WP P ent N c Q st') : WP P ent N c Q st := fun E a w hr => h E a w (hw P E N a w hr)

/-- A datum that says less. -/
def Le (d d' : D) : Prop := ∀ (M : Nat → Nat → Prop) (γ : Nat → Option G) (w : World) (v : Value), Rep M γ w d v → Rep M γ w d' v
theorem Le.refl (d : D) : Le d d := fun _ _ _ _ h => h
theorem Le.junk (d : D) : Le d .junk := fun _ _ _ v _ => .junk v
theorem Le.fg (d : D) : Le d (fg d) := fun _ _ _ _ h => rep_fg h
theorem Le.trans {a b c : D} (h : Le a b) (k : Le b c) : Le a c := fun M γ w v hr => k M γ w v (h M γ w v hr)
/-- A nil slice, whatever its elements' size. -/
theorem Le.nil (sz sz' : Nat) (tip : Option Nat) : Le (.slice sz true [] tip) (.slice sz' true [] tip) := fun M γ w v h => by
  cases h with
  | nilslice ht => exact .nilslice ht

theorem weak_get {st st' : St} (h : ∀ p ∈ st'.F, Le (st.get p.1) p.2) (t : Nat) : Le (st.get t) (st'.get t) := by
  unfold St.get
  have : ∀ l : List (Nat × D), (∀ p ∈ l, Le (st.get p.1) p.2) → Le ((lk st.F t).getD .junk) ((lk l t).getD .junk) := by
    intro l
    induction l with
    | nil => intro _; exact Le.junk _
    | cons p l ih =>
      obtain ⟨k, d⟩ := p
      intro hl
      simp only [lk]
      split
      · rename_i e; subst e; exact hl (t, d) (by simp)
      · exact ih (fun p hp => hl p (by simp [hp]))
  exact this st'.F h

/-- Forget in the frame. -/
theorem Weak.frame {F' : List (Nat × D)} (h : ∀ p ∈ F', Le (st.get p.1) p.2) : Weak ent st ⟨F', st.σ⟩ := by
  rintro P E N a w ⟨γ, h1, h2, h3, h4, h5, h6⟩
  exact ⟨γ, h1, h2, h3, h4, h5, fun t => weak_get (st' := ⟨F', st.σ⟩) h t _ _ _ _ (h6 t)⟩

theorem lk_mem {α : Type} : ∀ (l : List (Nat × α)) (b : Nat) (x : α), lk l b = some x → (b, x) ∈ l
  | [], _, _, h => by cases h
  | (k, v) :: l, b, x, h => by
    simp only [lk] at h
    split at h
    · rename_i e; subst e; cases h; simp
    · exact List.mem_cons_of_mem _ (lk_mem l b x h)

/-- Forget names too. -/
theorem Weak.store {st' : St} (h : ∀ p ∈ st'.F, Le (st.get p.1) p.2) (hs : ∀ p ∈ st'.σ, lk st.σ p.1 = some p.2) (hcF : ∀ p ∈ st'.F, Clo (fun i => (lk st'.σ i).isSome = true) p.2) (hcσ : ∀ p ∈ st'.σ, BClo (fun i => (lk st'.σ i).isSome = true) p.2)
    (hent : ∀ b ∈ ent, (lk st'.σ b).isSome = true ∨ lk st.σ b = none) : Weak ent st st' := by
  rintro P E N a w ⟨γ, h1, h2, h3, h4, h5, h6⟩
  let γ' : Nat → Option G := fun b => if (lk st'.σ b).isSome = true then γ b else none
  have hγ : ∀ b g, γ' b = some g → (lk st'.σ b).isSome = true ∧ γ b = some g := by
    intro b g hg
    simp only [γ'] at hg
    split at hg
    · exact ⟨by assumption, hg⟩
    · cases hg
  have hS : ∀ b, (lk st'.σ b).isSome = true → γ' b = γ b := fun b hb => by simp only [γ', if_pos hb]
  have hM : ∀ B off, Mall E.M γ' B off → Mall E.M γ B off := by
    rintro B off (hm | ⟨b, g, hg, hw⟩)
    · exact .inl hm
    · exact .inr ⟨b, g, (hγ b g hg).2, hw⟩
  refine ⟨γ', h1, ⟨fun b => ?_, fun b b' g g' B q1 q2 q3 q4 => h2.dist b b' g g' B (hγ _ _ q1).2 (hγ _ _ q2).2 q3 q4, h2.outer, fun b g B off q1 q2 => h2.apart b g B off (hγ _ _ q1).2 q2, h2.inv, fun b g B q1 q2 => h2.low b g B (hγ _ _ q1).2 q2, h2.big⟩, ?_, h4, h5, fun t => ?_⟩
  · cases hb : lk st'.σ b with
    | none => exact .inr ⟨rfl, by simp [γ', hb]⟩
    | some blk =>
      have hm := lk_mem _ _ _ hb
      obtain ⟨g, q1, q2⟩ := h2.hit (hs _ hm)
      refine .inl ⟨blk, g, rfl, (hS b (by simp [hb])).trans q1, ?_⟩
      have := q2.restrict hS (hcσ _ hm)
      exact this.evo ⟨fun _ _ _ _ h => h, fun B off h _ => hM B off h, fun _ g h => ⟨g, h, G.le_refl g⟩⟩ (fun _ _ => rfl)
  · refine ⟨h3.os, h3.tape, h3.output, h3.size, h3.cell, fun B off q1 q2 => h3.wr B off (hM B off q1) q2, fun b g hg => ?_, h3.block, fun b g B q1 q2 q3 => h3.old b g B (hγ _ _ q1).2 q2 q3⟩
    obtain ⟨g', q1, q2⟩ := h3.names b g hg
    refine ⟨g', ?_, q2⟩
    rcases hent b (h1 b g hg) with q | q
    · exact (hS b q).trans q1
    · rw [h2.miss q] at q1; cases q1
  · have hle := weak_get (st' := st') h t _ _ _ _ (h6 t)
    have hcl : Clo (fun i => (lk st'.σ i).isSome = true) (st'.get t) := by
      unfold St.get
      cases hq : lk st'.F t with
      | none => exact .junk
      | some d => exact hcF _ (lk_mem _ _ _ hq)
    exact (hle.restrict hS hcl).sub hM

/-- A loop: a family of states, one for each round's head. -/
theorem WP.loop {X : Type} (S : X → St) (μ : X → Nat) {c : Code} (h : ∀ x, WP P ent N c (thenQ (fun st' => ∃ y, μ y < μ x ∧ Weak ent st' (S y)) Q) (S x)) (x : X) (h0 : Weak ent st (S x)) : WP P ent N (.loop c) Q st := by
  intro E a w hr b k cs
  have key : ∀ (n : Nat) (x : X) (a : Act) (w : World), μ x = n → Rel E ent N (S x).get (lk (S x).σ) a w →
      ∃ e a' w', (∃ st', Q e st' ∧ Rel E ent N st'.get (lk st'.σ) a' w') ∧ Arrives P.prog (lone (b.at a (.code c :: .inLoop c :: k)) cs w) b k cs e a' w' := by
    intro n
    induction n using Nat.strongRecOn with
    | _ n ih =>
      intro x a w hn hrx
      obtain ⟨e, a₁, w₁, ⟨st₁, hq, hr₁⟩, harr⟩ := h x E a w hrx b (.inLoop c :: k) cs
      cases e with
      | normal =>
        obtain ⟨y, hlt, hwk⟩ := hq
        obtain ⟨e₂, a₂, w₂, hq₂, harr₂⟩ := ih (μ y) (hn ▸ hlt) y a₁ w₁ rfl (hwk P E N a₁ w₁ hr₁)
        exact ⟨e₂, a₂, w₂, hq₂, .of_steps (Steps.trans harr (.one step_inLoop)) harr₂⟩
      | exit id => exact ⟨_, a₁, w₁, ⟨st₁, hq, hr₁⟩, .pass (x := .inLoop c) rfl (fun _ _ => .inl (by simp)) harr⟩
      | goto l => exact ⟨_, a₁, w₁, ⟨st₁, hq, hr₁⟩, .pass (x := .inLoop c) rfl (fun _ _ => .inl (by simp)) harr⟩
      | ret => exact ⟨_, a₁, w₁, ⟨st₁, hq, hr₁⟩, .pass (x := .inLoop c) rfl (fun _ _ => .inl (by simp)) harr⟩
      | panic ch => exact ⟨_, a₁, w₁, ⟨st₁, hq, hr₁⟩, .pass (x := .inLoop c) rfl (fun _ _ => .inl (by simp)) harr⟩
      | outgrown => exact ⟨_, a₁, w₁, ⟨st₁, hq, hr₁⟩, .pass (x := .inLoop c) rfl (fun _ _ => .inl (by simp)) harr⟩
  obtain ⟨e, a', w', hq, harr⟩ := key _ x a w rfl (h0 P E N a w hr)
  exact ⟨e, a', w', hq, .of_steps (.one step_loop) harr⟩

/-- What a function's result variables hold. -/
def resOne (P : Program) (st : St) : ResultVar → Option D
  | .tmp t => some (st.get t)
  | .cell t ty => (opD P (evalD st.get) (lk st.σ) 0 (.load ty (.tmp t))).map (·.val)

def resAll (P : Program) (st : St) : List ResultVar → Option (List D)
  | [] => some []
  | r :: rs => (resOne P st r).bind fun d => (resAll P st rs).map (d :: ·)

def resD (P : Program) (fn : Func) (st : St) : Option D :=
  (resAll P st fn.results.toList).map fun ds => match ds with | [d] => d | ds => .tup ds

def resSem (a : Act) : ResultVar → Sem Value
  | .tmp t => pure (a.tmps.getD t undef)
  | .cell t ty => do loadVar ty (← asAddr (a.tmps.getD t undef))

theorem resOne_spec {P : Prg} {E : Ent P} {st : St} {γ : Nat → Option G} {a : Act} {w : World} (h2 : Store E.M γ (lk st.σ) w) (h6 : ∀ t, Rep (Mall E.M γ) γ w (st.get t) (a.tmps.getD t undef)) {r : ResultVar} {d : D} (h : resOne P.prog st r = some d) :
    ∃ v, (resSem a r).run P.prog w = .ok v w ∧ Rep (Mall E.M γ) γ w d v := by
  cases r with
  | tmp t => simp only [resOne, Option.some.injEq] at h; subst h; exact ⟨_, rfl, h6 t⟩
  | cell t ty =>
    simp only [resOne, opD, Option.map_eq_some_iff, Option.bind_eq_some_iff] at h
    obtain ⟨f, ⟨g, hg, sz, hsz, hf⟩, rfl⟩ := h
    have ha := h6 t
    have e0 : evalD st.get (.tmp t) = st.get t := rfl
    rw [e0] at hf
    have glue : ∀ {d : D}, (∃ v, (Instr.loadAt ty (a.tmps.getD t undef)).run P.prog w = .ok v w ∧ Rep (Mall E.M γ) γ w d v) → ∃ v, (do loadVar ty (← asAddr (a.tmps.getD t undef)) : Sem Value).run P.prog w = .ok v w ∧ Rep (Mall E.M γ) γ w d v := by
      rintro d ⟨v, q1, q2⟩
      refine ⟨v, ?_, q2⟩
      generalize a.tmps.getD t undef = av at *
      unfold Instr.loadAt Instr.sureAddr at q1
      cases av with
      | pointer p => cases p with
        | some p => simpa [asAddr] using q1
        | none => simp at q1
      | _ => simp at q1
    split at hf
    · rename_i b off e
      rw [e] at ha
      split at hf
      · rename_i cs hb
        obtain ⟨d, hd, rfl⟩ := Option.map_eq_some_iff.1 hf
        exact glue (out_load_box h2 hg hsz (.inl ⟨_, hb⟩) hd ha)
      · rename_i z cs hb
        obtain ⟨d, hd, rfl⟩ := Option.map_eq_some_iff.1 hf
        exact glue (out_load_box h2 hg hsz (.inr ⟨z, hb⟩) hd ha)
      · cases hf
    · rename_i cs e
      rw [e] at ha
      obtain ⟨d, hd, rfl⟩ := Option.map_eq_some_iff.1 hf
      exact glue (out_load_iptr hg hsz hd ha)
    · cases hf

theorem resAll_spec {P : Prg} {E : Ent P} {st : St} {γ : Nat → Option G} {a : Act} {w : World} (h2 : Store E.M γ (lk st.σ) w) (h6 : ∀ t, Rep (Mall E.M γ) γ w (st.get t) (a.tmps.getD t undef)) : ∀ (rs : List ResultVar) (ds : List D), resAll P.prog st rs = some ds →
    ∃ vs : List Value, (rs.mapM (resSem a)).run P.prog w = .ok vs w ∧ vs.length = ds.length ∧ ∀ (i : Nat) d v, ds[i]? = some d → vs[i]? = some v → Rep (Mall E.M γ) γ w d v := by
  intro rs
  induction rs with
  | nil => intro ds h; simp only [resAll, Option.some.injEq] at h; subst h; exact ⟨[], rfl, rfl, by simp⟩
  | cons r rs ih =>
    intro ds h
    simp only [resAll, Option.bind_eq_some_iff, Option.map_eq_some_iff] at h
    obtain ⟨d, hd, ds', hds, rfl⟩ := h
    obtain ⟨v, q1, q2⟩ := resOne_spec h2 h6 hd
    obtain ⟨vs, q3, q4, q5⟩ := ih ds' hds
    refine ⟨v :: vs, ?_, by simp [q4], fun i d v h1 h2 => ?_⟩
    · simp only [List.mapM_cons, Sem.run_bind, q1, Result.andThen_ok, q3, Sem.run_pure]
    · cases i with
      | zero => simp at h1 h2; subst h1; subst h2; exact q2
      | succ i => exact q5 i d v (by simpa using h1) (by simpa using h2)

theorem resD_spec {P : Prg} {E : Ent P} {st : St} {γ : Nat → Option G} {a : Act} {w : World} (h2 : Store E.M γ (lk st.σ) w) (h6 : ∀ t, Rep (Mall E.M γ) γ w (st.get t) (a.tmps.getD t undef)) {fn : Func} {d : D} (h : resD P.prog fn st = some d) :
    ∃ v, (results fn a.tmps).run P.prog w = .ok v w ∧ Rep (Mall E.M γ) γ w d v := by
  unfold resD at h
  obtain ⟨ds, hds, rfl⟩ := Option.map_eq_some_iff.1 h
  obtain ⟨vs, q1, q2, q3⟩ := resAll_spec h2 h6 _ _ hds
  have hrun : ∀ f : ResultVar → Sem Value, (∀ r, f r = resSem a r) → (fn.results.mapM f).run P.prog w = .ok vs.toArray w := by
    intro f hf
    obtain rfl : f = resSem a := funext hf
    cases hq : fn.results with
    | mk l =>
      rw [hq] at q1
      simp only [List.mapM_toArray, Sem.run_map, q1, Result.andThen_ok]
  refine ⟨if h : vs.toArray.size = 1 then vs.toArray[0] else .tuple vs.toArray, ?_, ?_⟩
  · unfold results
    rw [Sem.run_bind]
    rw [hrun _ (fun r => by cases r <;> rfl)]
    rfl
  · match ds, vs, q2, q3 with
    | [d], [v], _, q3 => simpa using q3 0 d v rfl rfl
    | [], [], _, q3 => simpa using (Rep.tup (M := Mall E.M γ) (γ := γ) (w := w) (cs := []) (vs := #[]) rfl (by simp))
    | d :: d' :: ds, v :: v' :: vs, q2, q3 => simpa using (Rep.tup (M := Mall E.M γ) (γ := γ) (w := w) (cs := d :: d' :: ds) (vs := (v :: v' :: vs).toArray) (by simpa using q2) (fun i d v h1 h2 => q3 i d v h1 (by simpa using h2)))

end
end Go.Id

/-
  Plain: from a function's code on data to the contract of its call. Conditions: as each law says.
-/
set_option linter.unusedSimpArgs false
set_option linter.unusedVariables false
set_option linter.unnecessarySimpa false
namespace Go.Id
open Go

theorem Store.forget {M₀ : Base} {Mb : Nat → Nat → Prop} {γ γb : Nat → Option G} {σ : Nat → Option Blk} {w wb : World} (h2 : Store M₀ γ σ w) (h3 : Evolve Mb γb wb (Mall M₀ γ) γ w) {l : List (Nat × Blk)}
    (hs : ∀ p ∈ l, σ p.1 = some p.2) (hcσ : ∀ p ∈ l, BClo (fun i => (lk l i).isSome = true) p.2) (hent : ∀ b g, γb b = some g → (lk l b).isSome = true) :
    ∃ γ', Store M₀ γ' (lk l) w ∧ Evolve Mb γb wb (Mall M₀ γ') γ' w ∧ ∀ d v, Rep (Mall M₀ γ) γ w d v → Clo (fun i => (lk l i).isSome = true) d → Rep (Mall M₀ γ') γ' w d v := by
  let γ' : Nat → Option G := fun b => if (lk l b).isSome = true then γ b else none
  have hγ : ∀ b g, γ' b = some g → (lk l b).isSome = true ∧ γ b = some g := by
    intro b g hg
    simp only [γ'] at hg
    split at hg
    · exact ⟨by assumption, hg⟩
    · cases hg
  have hS : ∀ b, (lk l b).isSome = true → γ' b = γ b := fun b hb => by simp only [γ', if_pos hb]
  have hM : ∀ B off, Mall M₀ γ' B off → Mall M₀ γ B off := by
    rintro B off (hm | ⟨b, g, hg, hw⟩)
    · exact .inl hm
    · exact .inr ⟨b, g, (hγ b g hg).2, hw⟩
  refine ⟨γ', ⟨fun b => ?_, fun b b' g g' B q1 q2 q3 q4 => h2.dist b b' g g' B (hγ _ _ q1).2 (hγ _ _ q2).2 q3 q4, h2.outer, fun b g B off q1 q2 => h2.apart b g B off (hγ _ _ q1).2 q2, h2.inv, fun b g B q1 q2 => h2.low b g B (hγ _ _ q1).2 q2, h2.big⟩, ?_, fun d v hr hcl => (hr.restrict hS hcl).sub hM⟩
  · cases hb : lk l b with
    | none => exact .inr ⟨rfl, by simp [γ', hb]⟩
    | some blk =>
      have hm := lk_mem _ _ _ hb
      obtain ⟨g, q1, q2⟩ := h2.hit (hs _ hm)
      refine .inl ⟨blk, g, rfl, (hS b (by simp [hb])).trans q1, ?_⟩
      have := q2.restrict hS (hcσ _ hm)
      exact this.evo ⟨fun _ _ _ _ h => h, fun B off h _ => hM B off h, fun _ g h => ⟨g, h, G.le_refl g⟩⟩ (fun _ _ => rfl)
  · refine ⟨h3.os, h3.tape, h3.output, h3.size, h3.cell, fun B off q1 q2 => h3.wr B off (hM B off q1) q2, fun b g hg => ?_, h3.block, fun b g B q1 q2 q3 => h3.old b g B (hγ _ _ q1).2 q2 q3⟩
    obtain ⟨g', q1, q2⟩ := h3.names b g hg
    exact ⟨g', (hS b (hent b g hg)).trans q1, q2⟩

def frameOf : Nat → List D → List (Nat × D)
  | _, [] => []
  | i, d :: ds => (i, d) :: frameOf (i + 1) ds

theorem lk_frameOf : ∀ (ds : List D) (i t : Nat), lk (frameOf i ds) t = if i ≤ t then ds[t - i]? else none
  | [], i, t => by simp [frameOf, lk]
  | d :: ds, i, t => by
    simp only [frameOf, lk, lk_frameOf ds (i + 1) t]
    by_cases h : t = i
    · subst h; simp
    · rw [if_neg h]
      by_cases h2 : i ≤ t
      · rw [if_pos h2, if_pos (by omega)]
        have : t - i = (t - (i + 1)) + 1 := by omega
        rw [this, List.getElem?_cons_succ]
      · rw [if_neg h2, if_neg (by omega)]

/-- How a body ends. -/
def Ends (P : Prg) (fn : Func) (ins : List (Nat × Blk)) (val : D) (outs : List (Nat × Blk)) (e : Exit) (st : St) : Prop :=
  (e = .normal ∨ e = .ret) ∧ ∃ d, resD P.prog fn st = some d ∧ Le d val ∧ Clo (fun i => (lk outs i).isSome = true) val ∧ (∀ p ∈ outs, lk st.σ p.1 = some p.2 ∧ BClo (fun i => (lk outs i).isSome = true) p.2) ∧ (∀ p ∈ ins, (lk outs p.1).isSome = true)

theorem CallE.of_wp {P : Prg} {k : FuncId} {fn : Func} {c : Code} {args : List D} {ins outs : List (Nat × Blk)} {val : D} {N : Nat} (hf : P.prog.funcs[k]? = some fn) (hb : fn.body = some c) (hn : (fn.name == "runtime.NumGoroutine") = false)
    (hN : fn.ntmps = N) (hle : args.length ≤ N) (h : WP P (ins.map (·.1)) N c (Ends P fn ins val outs) ⟨frameOf 0 args, ins⟩) : CallE P k args ins val outs := by
  refine ⟨⟨fn, hf, hn, by simp [hb]⟩, fun M₀ γ w vs hst hl hr => ?_⟩
  refine calls_of_wp hf hb ?_
  let E : Ent P := ⟨M₀, γ, w⟩
  have hsz : vs.toArray.size = args.length := by simpa using hl
  have hrel : Rel E (ins.map (·.1)) N (St.get ⟨frameOf 0 args, ins⟩) (lk ins) { tmps := vs.toArray ++ Array.replicate (fn.ntmps - vs.toArray.size) undef, defers := [] } w := by
    refine ⟨γ, fun b g hg => ?_, hst, Evolve.refl _ _ _, ?_, rfl, fun t => ?_⟩
    · rcases hst.names b with ⟨blk, g', q1, _⟩ | ⟨_, q1⟩
      · exact List.mem_map.2 ⟨(b, blk), lk_mem _ _ _ q1, rfl⟩
      · have hg' : γ b = some g := hg
        rw [hg'] at q1; cases q1
    · simp [hl]; omega
    · simp only [St.get, lk_frameOf, Nat.zero_le, if_true, Nat.sub_zero]
      rw [Array.getD_eq_getD_getElem?]
      by_cases ht : t < vs.length
      · have h1 : (vs.toArray ++ Array.replicate (fn.ntmps - vs.toArray.size) undef)[t]? = vs[t]? := by
          rw [Array.getElem?_append_left (by simpa using ht)]; simp
        have h2 : t < args.length := by omega
        rw [h1, List.getElem?_eq_getElem ht, List.getElem?_eq_getElem h2]
        exact hr t _ _ (List.getElem?_eq_getElem h2) (List.getElem?_eq_getElem ht)
      · rw [List.getElem?_eq_none (by omega : args.length ≤ t)]
        exact .junk _
  refine wp_mono (h E _ w hrel) ?_
  rintro e a' w' ⟨st', ⟨he, d, hd, hle, hcl, hout, hin⟩, γ', h1, h2, h3, h4, h5, h6⟩
  have key : a'.defers = [] ∧ ∃ v, (results fn a'.tmps).run P.prog w' = .ok v w' ∧ ∃ v' γ'', Ending.returned v = .returned v' ∧ Store E.M γ'' (lk outs) w' ∧ Evolve (Mall E.M γ) γ w (Mall E.M γ'') γ'' w' ∧ Rep (Mall E.M γ'') γ'' w' val v' := by
    obtain ⟨v, q1, q2⟩ := resD_spec h2 h6 hd
    obtain ⟨γ'', q3, q4, q5⟩ := h2.forget h3 (l := outs) (fun p hp => (hout p hp).1) (fun p hp => (hout p hp).2) (fun b g hg => by
      have := h1 b g hg
      obtain ⟨p, hp, rfl⟩ := List.mem_map.1 this
      exact hin p hp)
    exact ⟨h5, v, q1, v, γ'', rfl, q3, q4, q5 _ _ (hle _ _ _ _ q2) hcl⟩
  rcases he with rfl | rfl <;> exact key

/-- A pure call, from the code. -/
theorem CallP.of_wp {P : Prg} {k : FuncId} {fn : Func} {c : Code} {args : List D} {val : D} {N : Nat} (hf : P.prog.funcs[k]? = some fn) (hb : fn.body = some c) (hn : (fn.name == "runtime.NumGoroutine") = false)
    (hN : fn.ntmps = N) (hle : args.length ≤ N) (h : WP P [] N c (Ends P fn [] val []) ⟨frameOf 0 args, []⟩) : CallP P k args val := CallE.of_wp hf hb hn hN hle h

theorem Ends.pure {P : Prg} {fn : Func} {val d : D} {e : Exit} {st : St} (he : e = .normal ∨ e = .ret) (hd : resD P.prog fn st = some d) (hle : Le d val) (hcl : Clo (fun _ => False) val) : Ends P fn [] val [] e st :=
  ⟨he, d, hd, hle, hcl.mono (fun _ h => h.elim), by simp, by simp⟩

/-- A pure call, among the operations. -/
theorem CallK.pure {P : Prg} {fo : D} {args : List D} {σ : List (Nat × Blk)} {K : D → Rec → Prop} {k : FuncId} {first cap as : List D} {val : D} (h : CallP P k as val) (hfo : fo = .fn (.func k) first cap) (has : as = (first ++ args ++ cap).map fg)
    (hcl : ∀ d ∈ as, Clo (fun _ => False) d) (hk : K val ⟨[], []⟩) : CallK P fo args σ K := by
  refine ⟨k, first, cap, [], val, ⟨[], []⟩, hfo, by rw [← has]; exact h, ?_, ?_, ?_, ?_, hk⟩
  · intro b blk hb; cases hb
  · intro b hb; cases hb
  · rw [← has]; exact fun d hd => (hcl d hd).mono (fun _ h => h.elim)
  · intro b hb; cases hb

/-- What a pure call does in memory: nothing that was there has turned. -/
theorem CallP.run {P : Prg} {k : FuncId} {args : List D} {val : D} (h : CallP P k args val) (w : World) (hI : P.I w) (hn : P.n ≤ w.heap.size) (vs : List Value) (hl : vs.length = args.length) (hr : ∀ (i : Nat) d v, args[i]? = some d → vs[i]? = some v → Rep (fun _ _ => False) (fun _ => none) w d v) :
    Calls P.prog k vs.toArray w fun e w' => ∃ v, e = .returned v ∧ Rep (fun _ _ => False) (fun _ => none) w' val v ∧ RowKit.Below w.heap.size w w' := by
  have hM : ∀ B off, ¬ Mall (P.base fun _ _ => False) (fun _ => none) B off := by
    rintro B off (h | ⟨b, g, h, _⟩)
    · exact h
    · cases h
  have hst : Store (P.base fun _ _ => False) (fun _ => none) (lk []) w := ⟨fun b => .inr ⟨rfl, rfl⟩, (fun b b' g g' B h => by cases h), (fun B off h => h.elim), (fun b g B off h => by cases h), hI, (fun b g B h => by cases h), hn⟩
  refine (h.2 _ _ w vs hst hl (fun i d v h1 h2 => (hr i d v h1 h2).sub (fun B off hm => (hM B off hm).elim))).mono ?_
  rintro e w' ⟨v, γ', rfl, q1, q2, q3⟩
  have hno : γ' = fun _ => none := by
    funext b
    rcases q1.names b with ⟨blk, g, q4, _⟩ | ⟨_, q4⟩
    · cases q4
    · exact q4
  subst hno
  exact ⟨v, rfl, q3.sub (fun B off hm => hm.elim), ⟨q2.os, q2.tape, q2.output, q2.size, fun k hk => q2.block k hk (fun b g hg => by cases hg)⟩⟩

end Go.Id

/-
  Plain: small steps for walking a body on data. Conditions: as each law says.
-/
set_option linter.unusedSimpArgs false
set_option linter.unusedVariables false
namespace Go.Id
open Go

section
variable {P : Prg} {ent : List Nat} {N : Nat} {Q : Exit → St → Prop} {st : St}

theorem mem_of_contains {ks : List Nat} {k : Nat} (h : ins k ks = true) : k ∈ ks := by
  induction ks with
  | nil => cases h
  | cons a l ih =>
    simp only [ins] at h
    split at h
    · rename_i e; subst e; simp
    · exact List.mem_cons_of_mem _ (ih h)

theorem keep_get (ks : List Nat) (F : List (Nat × D)) : ∀ p ∈ keep ks F, p ∈ F := by
  induction F with
  | nil => intro p h; cases h
  | cons q F ih =>
    obtain ⟨k, v⟩ := q
    intro p hp
    simp only [keep] at hp
    split at hp
    · rcases List.mem_cons.1 hp with rfl | hp
      · simp
      · exact List.mem_cons_of_mem _ (ih p hp)
    · exact List.mem_cons_of_mem _ (ih p hp)

theorem lk_keep (ks : List Nat) (F : List (Nat × D)) (t : Nat) : lk (keep ks F) t = if ins t ks = true then lk F t else none := by
  induction F with
  | nil => simp [keep, lk]
  | cons q F ih =>
    obtain ⟨k, v⟩ := q
    simp only [keep]
    split
    · rename_i h
      simp only [lk, ih]
      by_cases e : t = k
      · subst e; simp only [if_true, h]
      · simp only [if_neg e]
    · rename_i h
      simp only [lk, ih]
      by_cases e : t = k
      · subst e; simp only [if_neg h]
      · simp only [if_neg e]

theorem Weak.keep (ks : List Nat) : Weak ent st ⟨Go.Id.keep ks st.F, st.σ⟩ := by
  rintro P E N a w ⟨γ, h1, h2, h3, h4, h5, h6⟩
  refine ⟨γ, h1, h2, h3, h4, h5, fun t => ?_⟩
  simp only [St.get, lk_keep]
  split
  · exact h6 t
  · exact .junk _

/-- Behind a region: go on with the slots that still count. -/
theorem region_end {y : Code} (ks : List Nat) {F' : List (Nat × D)} (hF : Go.Id.keep ks st.F = F') (h : WP P ent N y Q ⟨F', st.σ⟩) : thenQ (fun st' => WP P ent N y Q st') Q .normal st :=
  WP.weak (Weak.keep ks) (by rw [hF]; exact h)

/-- Part the walk on what a slot holds. -/
theorem runOps.part {ops : Array Oper} {os : List Oper} {acc : List RecX} {K : St → List RecX → Prop} (t : Nat) {b : Bool} (hb : st.get t = .bool b) (ht : b = true → runOps P ops os st acc K)
    (hf : b = false → runOps P ops os st acc K) : runOps P ops os st acc K := by
  cases b
  · exact hf rfl
  · exact ht rfl

theorem Weak.of_get {st' : St} (hσ : st'.σ = st.σ) (h : ∀ t, Le (st.get t) (st'.get t)) : Weak ent st st' := by
  rintro P E N a w ⟨γ, h1, h2, h3, h4, h5, h6⟩
  exact ⟨γ, h1, by rw [hσ]; exact h2, h3, h4, h5, fun t => h t _ _ _ _ (h6 t)⟩

theorem Weak.meet {st0 : St} (ks : List Nat) (t : Nat) (d : D) (h1 : ∀ k ∈ ks, st.get k = st0.get k) (h3 : Le (st.get t) d) : Weak ent st ⟨(t, d) :: Go.Id.keep ks st0.F, st.σ⟩ := by
  refine Weak.of_get rfl fun k => ?_
  simp only [St.get, lk]
  split
  · rename_i e; subst e; exact h3
  · rw [lk_keep]
    split
    · rename_i hk
      have := h1 k (mem_of_contains hk)
      simp only [St.get] at this
      rw [this]
      exact Le.refl _
    · exact Le.junk _

/-- A region that only reckons one slot: its ways meet again. -/
theorem WP.seqMeet {id : Nat} {ops : Array Oper} {y : Code} (ks : List Nat) (t : Nat) (d : D) {F' : List (Nat × D)} (hd : dstsOk N ops = true) (hF : Go.Id.keep ks st.F = F')
    (h : ∀ K : St → List RecX → Prop, (∀ st' rs, (∀ k ∈ ks, st'.get k = st.get k) → st'.σ = st.σ → Le (st'.get t) d → K st' rs) → runOps P ops ops.toList st [] K) (hy : WP P ent N y Q ⟨(t, d) :: F', st.σ⟩) :
    WP P ent N (.seq (.region id ops false) y) Q st := by
  refine WP.seq (WP.region hd fun K hK => h K fun st' rs h1 h2 h3 => hK st' rs ?_)
  refine WP.weak (st' := ⟨(t, d) :: F', st.σ⟩) ?_ hy
  rw [← h2, ← hF]
  exact Weak.meet ks t d h1 h3

/-- The same, the region's order drawn. -/
theorem WP.seqMeetDrawn {id : Nat} {ops : Array Oper} {y : Code} (ks : List Nat) (t : Nat) (d : D) {F' : List (Nat × D)} (hm : P.prog.follows .mixedOrders = true) (hd : dstsOk N ops = true) (hF : Go.Id.keep ks st.F = F')
    (h : ∀ K : St → List RecX → Prop, (∀ st' rs, bernB ops rs = true → (∀ k ∈ ks, st'.get k = st.get k) → st'.σ = st.σ → Le (st'.get t) d → K st' rs) → runOps P ops ops.toList st [] K) (hy : WP P ent N y Q ⟨(t, d) :: F', st.σ⟩) :
    WP P ent N (.seq (.region id ops true) y) Q st := by
  refine WP.seq (WP.drawn hm hd fun K hK => h K fun st' rs h0 h1 h2 h3 => hK st' rs h0 ?_)
  refine WP.weak (st' := ⟨(t, d) :: F', st.σ⟩) ?_ hy
  rw [← h2, ← hF]
  exact Weak.meet ks t d h1 h3

theorem WP.rets {fn : Func} {val d : D} (hd : resD P.prog fn st = some d) (hle : Le d val) (hcl : Clo (fun _ => False) val) : WP P ent N .ret (Ends P fn [] val []) st :=
  WP.ret (Ends.pure (.inr rfl) hd hle hcl)

theorem Le.of_eq {a b : D} (h : a = b) : Le a b := h ▸ Le.refl a

theorem wrap_i64 {n : Int} (h : -9223372036854775808 ≤ n) (h' : n ≤ 9223372036854775807) : IntKind.wrap .i64 n = n := by
  unfold IntKind.wrap
  simp only [IntKind.bits, IntKind.signed, Bool.true_and]
  split <;> rename_i hh <;> simp at hh <;> omega

theorem wrap_u8 {n : Int} (h : 0 ≤ n) (h' : n ≤ 255) : IntKind.wrap .u8 n = n := by
  unfold IntKind.wrap
  simp only [IntKind.bits, IntKind.signed, Bool.false_and, Bool.false_eq_true, if_false]
  omega

end

def contK (P : Prg) (ops : Array Oper) (os : List Oper) (st : St) (acc : List RecX) (K : St → List RecX → Prop) (dst : Option Tmp) (d : D) (r : Rec) : Prop := runOps P ops os ((st.put dst d).lay r.ws) (acc ++ [⟨true, d, r⟩]) K
def stepE (P : Prg) (ops : Array Oper) (os : List Oper) (st : St) (acc : List RecX) (K : St → List RecX → Prop) (dst : Option Tmp) (u : Bool) (e : Option Eff) : Prop := effK u (fresh st.σ) (contK P ops os st acc K dst) e
def stepK (P : Prg) (ops : Array Oper) (os : List Oper) (st : St) (acc : List RecX) (K : St → List RecX → Prop) (dst : Option Tmp) (o : Op) : Prop := OpK P o st (contK P ops os st acc K dst)
def stepW (P : Prg) (ops : Array Oper) (os : List Oper) (o : Oper) (st : St) (acc : List RecX) (K : St → List RecX → Prop) (w : Option Bool) : Prop :=
  match w with
  | some true => stepK P ops os st acc K o.dst o.op
  | some false => runOps P ops os (st.put o.dst (.tup [])) (acc ++ [⟨false, .tup [], ⟨[], []⟩⟩]) K
  | none => False

theorem runOps_stepW (P : Prg) (ops : Array Oper) (o : Oper) (os : List Oper) (st : St) (acc : List RecX) (K : St → List RecX → Prop) : runOps P ops (o :: os) st acc K = stepW P ops os o st acc K (wantedF ops st.get o) := rfl

theorem ts_same (a b : TypeId) : (#[a, b] ≠ #[(#[a, b] : Array TypeId).getD 0 0, (#[a, b] : Array TypeId).getD 0 0]) ↔ ¬ (b = a) := by
  have h : (#[a, b] : Array TypeId).getD 0 0 = a := rfl
  rw [h]
  simp
theorem app_eq1 : (∀ (P : Program) (σ : Nat → Option Blk) (id : Nat) (a b : TypeId) (z0 : Nat) (nil : Bool) (es : List (List D)) (sz' : Nat) (n' : Bool) (es' : List (List D)) (t' : Option Nat), appD P σ id #[a, b] (.slice z0 nil es none) (.slice sz' n' es' t') = (match elemD P a with
  | some (e, sz, by') => if sz = 0 ∨ okElem P e = false ∨ ¬ (b = a) ∨ (¬ es = [] ∧ ¬ (z0 = sz)) ∨ (¬ es' = [] ∧ ¬ (sz' = sz)) then none else
    if nil = true then (if es' = [] then some (pureE (.slice sz true [] none)) else some ⟨es'.length * by' ≤ 140737488355328 ∧ es'.length ≤ 9223372036854775807, .slice sz false es' (some id), [], [(id, .tip e sz es'.length)]⟩) else none
  | none => none)) := by
  intros P σ id a b z0 nil es sz' n' es' t'
  unfold appD
  have h0 : ((#[a, b] : Array TypeId)[0]?).bind (elemD P) = elemD P a := rfl
  rw [h0]
  cases elemD P a with
  | none => rfl
  | some p =>
    obtain ⟨e, sz, by'⟩ := p
    simp only [ts_same, ne_eq, List.length_append]
theorem app_eq2 : (∀ (P : Program) (σ : Nat → Option Blk) (id : Nat) (a b : TypeId) (z0 : Nat) (nil : Bool) (es : List (List D)) (t : Nat) (sz' : Nat) (n' : Bool) (es' : List (List D)) (t' : Option Nat), appD P σ id #[a, b] (.slice z0 nil es (some t)) (.slice sz' n' es' t') = (match elemD P a with
  | some (e, sz, by') => if sz = 0 ∨ okElem P e = false ∨ ¬ (b = a) ∨ (¬ es = [] ∧ ¬ (z0 = sz)) ∨ (¬ es' = [] ∧ ¬ (sz' = sz)) then none else
    (match σ t with
    | some (.tip e' z n) => if e' = e ∧ z = sz ∧ n = es.length then some ⟨(es ++ es').length * by' ≤ 140737488355328 ∧ (es ++ es').length ≤ 9223372036854775807, .slice sz (nil && es'.isEmpty) (es ++ es') (some t), [t], [(t, .tip e sz (es ++ es').length)]⟩ else none
    | _ => none)
  | none => none)) := by
  intros P σ id a b z0 nil es t sz' n' es' t'
  unfold appD
  have h0 : ((#[a, b] : Array TypeId)[0]?).bind (elemD P) = elemD P a := rfl
  rw [h0]
  cases elemD P a with
  | none => rfl
  | some p =>
    obtain ⟨e, sz, by'⟩ := p
    simp only [ts_same, ne_eq, List.length_append]
    try rfl
theorem app_eq3 : (∀ (P : Program) (σ : Nat → Option Blk) (id : Nat) (a b : TypeId) (z0 : Nat) (nil : Bool) (es : List (List D)) (s : List UInt8), appS P σ id #[a, b] (.slice z0 nil es none) s = (match elemD P a with
  | some (e, sz, by') => if byteElem P e = false ∨ ¬ (sz = 1) ∨ isStr P b = false ∨ (¬ es = [] ∧ ¬ (z0 = 1)) then none else
    if s = [] then some (pureE (.slice z0 nil es none)) else
    if nil = true then some ⟨s.length * by' ≤ 140737488355328 ∧ s.length ≤ 9223372036854775807, .slice 1 false (u8s s) (some id), [], [(id, .tip e 1 (u8s s).length)]⟩ else none
  | none => none)) := by
  intros P σ id a b z0 nil es s
  unfold appS
  have h0 : ((#[a, b] : Array TypeId)[0]?).bind (elemD P) = elemD P a := rfl
  rw [h0]
  cases elemD P a with
  | none => rfl
  | some p =>
    obtain ⟨e, sz, by'⟩ := p
    have h1 : (#[a, b] : Array TypeId).getD 1 0 = b := rfl
    have h2 : (#[a, b] : Array TypeId).getD 0 0 = a := rfl
    simp only [ne_eq, List.length_append, h1, h2, u8s, List.length_map, not_true_eq_false, false_or]
theorem app_eq4 : (∀ (P : Program) (σ : Nat → Option Blk) (id : Nat) (a b : TypeId) (z0 : Nat) (nil : Bool) (es : List (List D)) (t : Nat) (s : List UInt8), appS P σ id #[a, b] (.slice z0 nil es (some t)) s = (match elemD P a with
  | some (e, sz, by') => if byteElem P e = false ∨ ¬ (sz = 1) ∨ isStr P b = false ∨ (¬ es = [] ∧ ¬ (z0 = 1)) then none else
    if s = [] then some (pureE (.slice z0 nil es (some t))) else
    (match σ t with
    | some (.tip e' z n) => if e' = e ∧ z = 1 ∧ n = es.length then some ⟨(es ++ u8s s).length * by' ≤ 140737488355328 ∧ (es ++ u8s s).length ≤ 9223372036854775807, .slice 1 false (es ++ u8s s) (some t), [t], [(t, .tip e 1 (es ++ u8s s).length)]⟩ else none
    | _ => none)
  | none => none)) := by
  intros P σ id a b z0 nil es t s
  unfold appS
  have h0 : ((#[a, b] : Array TypeId)[0]?).bind (elemD P) = elemD P a := rfl
  rw [h0]
  cases elemD P a with
  | none => rfl
  | some p =>
    obtain ⟨e, sz, by'⟩ := p
    have h1 : (#[a, b] : Array TypeId).getD 1 0 = b := rfl
    have h2 : (#[a, b] : Array TypeId).getD 0 0 = a := rfl
    simp only [ne_eq, List.length_append, h1, h2, u8s, List.length_map, not_true_eq_false, false_or]
    try rfl

theorem bytesOf_u8s : ∀ (s : List UInt8), bytesOf? (u8s s) = some s
  | [] => rfl
  | c :: s => by
    have ih := bytesOf_u8s s
    unfold u8s at ih ⊢
    simp only [List.map_cons, bytesOf?, byteOf?, Option.bind_some, ih, Option.map_some]
    simp

end Go.Id

/-
  Plain: the equations of the data level, gathered in one place, for walking. Conditions: none.
-/
set_option linter.unusedVariables false
set_option maxRecDepth 20000
set_option linter.unusedSimpArgs false
namespace Go.Id
open Go
theorem Wp0 :
    (∀ (P : Prg) (ops : Array Oper) (st : St) (acc : List RecX) (K : St → List RecX → Prop), runOps P ops [] st acc K = K st acc) ∧
    (∀ (P : Prg) (ops : Array Oper) (os : List Oper) (o : Oper) (st : St) (acc : List RecX) (K : St → List RecX → Prop), runOps P ops (o :: os) st acc K = stepW P ops os o st acc K (wantedF ops st.get o)) ∧
    (∀ (ops : Array Oper) (F : Nat → D) (o : Oper), wantedF ops F o = (match o.guard with
  | none => some true
  | some (j, want) => match (ops[j]?).bind (·.dst) with
    | some t => match F t with
      | .bool b => some (b == want)
      | .tup _ => some false
      | _ => none
    | none => some false)) ∧
    (∀ (P : Prg) (ops : Array Oper) (os : List Oper) (f : Operand) (args : Array Operand) (ts : Array TypeId) (dst : Option Tmp) (st : St) (acc : List RecX) (K : St → List RecX → Prop), stepK P ops os st acc K dst (.call { callee := .value f, args := args, argTypes := ts }) = CallK P (evalD st.get f) (args.toList.map (evalD st.get)) st.σ (contK P ops os st acc K dst)) ∧
    (∀ (P : Prg) (ops : Array Oper) (os : List Oper) (x : Operand) (dst : Option Tmp) (st : St) (acc : List RecX) (K : St → List RecX → Prop), stepK P ops os st acc K dst (.move x) = stepE P ops os st acc K dst false (opD P.prog (evalD st.get) (lk st.σ) (fresh st.σ) (.move x))) ∧
    (∀ (P : Prg) (ops : Array Oper) (os : List Oper) (x : Operand) (dst : Option Tmp) (st : St) (acc : List RecX) (K : St → List RecX → Prop), stepK P ops os st acc K dst (.assign x) = stepE P ops os st acc K dst false (opD P.prog (evalD st.get) (lk st.σ) (fresh st.σ) (.assign x))) ∧
    (∀ (P : Prg) (ops : Array Oper) (os : List Oper) (c a b : Operand) (dst : Option Tmp) (st : St) (acc : List RecX) (K : St → List RecX → Prop), stepK P ops os st acc K dst (.pick c a b) = stepE P ops os st acc K dst false (opD P.prog (evalD st.get) (lk st.σ) (fresh st.σ) (.pick c a b))) ∧
    (∀ (P : Prg) (ops : Array Oper) (os : List Oper) (e : TypeId) (dst : Option Tmp) (st : St) (acc : List RecX) (K : St → List RecX → Prop), stepK P ops os st acc K dst (.alloc e) = stepE P ops os st acc K dst true (opD P.prog (evalD st.get) (lk st.σ) (fresh st.σ) (.alloc e))) ∧
    (∀ (P : Prg) (ops : Array Oper) (os : List Oper) (e : TypeId) (x : Operand) (dst : Option Tmp) (st : St) (acc : List RecX) (K : St → List RecX → Prop), stepK P ops os st acc K dst (.box e x) = stepE P ops os st acc K dst true (opD P.prog (evalD st.get) (lk st.σ) (fresh st.σ) (.box e x))) ∧
    (∀ (P : Prg) (ops : Array Oper) (os : List Oper) (t : TypeId) (ps : Array (Nat × Operand)) (dst : Option Tmp) (st : St) (acc : List RecX) (K : St → List RecX → Prop), stepK P ops os st acc K dst (.build t ps) = stepE P ops os st acc K dst false (opD P.prog (evalD st.get) (lk st.σ) (fresh st.σ) (.build t ps))) ∧
    (∀ (P : Prg) (ops : Array Oper) (os : List Oper) (t : TypeId) (n : Nat) (ps : Array (Nat × Operand)) (dst : Option Tmp) (st : St) (acc : List RecX) (K : St → List RecX → Prop), stepK P ops os st acc K dst (.buildSlice t n ps) = stepE P ops os st acc K dst (P.lit t n ps) (if P.lit t n ps = true then opA P.prog (evalD st.get) (fresh st.σ) t n ps else opD P.prog (evalD st.get) (lk st.σ) (fresh st.σ) (.buildSlice t n ps))) ∧
    (∀ (P : Prg) (ops : Array Oper) (os : List Oper) (t : TypeId) (a : Operand) (dst : Option Tmp) (st : St) (acc : List RecX) (K : St → List RecX → Prop), stepK P ops os st acc K dst (.load t a) = stepE P ops os st acc K dst false (opD P.prog (evalD st.get) (lk st.σ) (fresh st.σ) (.load t a))) ∧
    (∀ (P : Prg) (ops : Array Oper) (os : List Oper) (t : TypeId) (a x : Operand) (dst : Option Tmp) (st : St) (acc : List RecX) (K : St → List RecX → Prop), stepK P ops os st acc K dst (.store t a x) = stepE P ops os st acc K dst false (opD P.prog (evalD st.get) (lk st.σ) (fresh st.σ) (.store t a x))) ∧
    (∀ (P : Prg) (ops : Array Oper) (os : List Oper) (x : Operand) (dst : Option Tmp) (st : St) (acc : List RecX) (K : St → List RecX → Prop), stepK P ops os st acc K dst (.nilCheck x) = stepE P ops os st acc K dst false (opD P.prog (evalD st.get) (lk st.σ) (fresh st.σ) (.nilCheck x))) ∧
    (∀ (P : Prg) (ops : Array Oper) (os : List Oper) (op : BinOp) (t u : TypeId) (x y : Operand) (dst : Option Tmp) (st : St) (acc : List RecX) (K : St → List RecX → Prop), stepK P ops os st acc K dst (.binOp op t x y u) = stepE P ops os st acc K dst false (opD P.prog (evalD st.get) (lk st.σ) (fresh st.σ) (.binOp op t x y u))) ∧
    (∀ (P : Prg) (ops : Array Oper) (os : List Oper) (op : UnOp) (t : TypeId) (x : Operand) (dst : Option Tmp) (st : St) (acc : List RecX) (K : St → List RecX → Prop), stepK P ops os st acc K dst (.unOp op t x) = stepE P ops os st acc K dst false (opD P.prog (evalD st.get) (lk st.σ) (fresh st.σ) (.unOp op t x))) ∧
    (∀ (P : Prg) (ops : Array Oper) (os : List Oper) (s d : TypeId) (x : Operand) (dst : Option Tmp) (st : St) (acc : List RecX) (K : St → List RecX → Prop), stepK P ops os st acc K dst (.convert s d x) = stepE P ops os st acc K dst false (opD P.prog (evalD st.get) (lk st.σ) (fresh st.σ) (.convert s d x))) ∧
    (∀ (P : Prg) (ops : Array Oper) (os : List Oper) (t : TypeId) (x : Operand) (dst : Option Tmp) (st : St) (acc : List RecX) (K : St → List RecX → Prop), stepK P ops os st acc K dst (.makeInterface t x) = stepE P ops os st acc K dst false (opD P.prog (evalD st.get) (lk st.σ) (fresh st.σ) (.makeInterface t x))) ∧
    (∀ (P : Prg) (ops : Array Oper) (os : List Oper) (f : Fn) (a b : Array Operand) (dst : Option Tmp) (st : St) (acc : List RecX) (K : St → List RecX → Prop), stepK P ops os st acc K dst (.makeFunc f a b) = stepE P ops os st acc K dst false (opD P.prog (evalD st.get) (lk st.σ) (fresh st.σ) (.makeFunc f a b))) ∧
    (∀ (P : Prg) (ops : Array Oper) (os : List Oper) (t : TypeId) (x : Operand) (lo hi mx : Option Operand) (dst : Option Tmp) (st : St) (acc : List RecX) (K : St → List RecX → Prop), stepK P ops os st acc K dst (.slice t x lo hi mx) = stepE P ops os st acc K dst false (opD P.prog (evalD st.get) (lk st.σ) (fresh st.σ) (.slice t x lo hi mx))) ∧
    (∀ (P : Prg) (ops : Array Oper) (os : List Oper) (t : TypeId) (x : Operand) (f : Nat) (dst : Option Tmp) (st : St) (acc : List RecX) (K : St → List RecX → Prop), stepK P ops os st acc K dst (.fieldAddr t x f) = stepE P ops os st acc K dst false (opD P.prog (evalD st.get) (lk st.σ) (fresh st.σ) (.fieldAddr t x f))) ∧
    (∀ (P : Prg) (ops : Array Oper) (os : List Oper) (t : TypeId) (x : Operand) (f : Nat) (dst : Option Tmp) (st : St) (acc : List RecX) (K : St → List RecX → Prop), stepK P ops os st acc K dst (.field t x f) = stepE P ops os st acc K dst false (opD P.prog (evalD st.get) (lk st.σ) (fresh st.σ) (.field t x f))) ∧
    (∀ (P : Prg) (ops : Array Oper) (os : List Oper) (t : TypeId) (x i : Operand) (dst : Option Tmp) (st : St) (acc : List RecX) (K : St → List RecX → Prop), stepK P ops os st acc K dst (.indexAddr t x i) = stepE P ops os st acc K dst false (opD P.prog (evalD st.get) (lk st.σ) (fresh st.σ) (.indexAddr t x i))) ∧
    (∀ (P : Prg) (ops : Array Oper) (os : List Oper) (t : TypeId) (x i : Operand) (dst : Option Tmp) (st : St) (acc : List RecX) (K : St → List RecX → Prop), stepK P ops os st acc K dst (.index t x i) = stepE P ops os st acc K dst false (opD P.prog (evalD st.get) (lk st.σ) (fresh st.σ) (.index t x i))) ∧
    (∀ (P : Prg) (ops : Array Oper) (os : List Oper) (x : Operand) (i : Nat) (dst : Option Tmp) (st : St) (acc : List RecX) (K : St → List RecX → Prop), stepK P ops os st acc K dst (.extract x i) = stepE P ops os st acc K dst false (opD P.prog (evalD st.get) (lk st.σ) (fresh st.σ) (.extract x i))) ∧
    (∀ (P : Prg) (ops : Array Oper) (os : List Oper) (args : Array Operand) (ts : Array TypeId) (dst : Option Tmp) (st : St) (acc : List RecX) (K : St → List RecX → Prop), stepK P ops os st acc K dst (.call { callee := .builtin .len, args := args, argTypes := ts }) = stepE P ops os st acc K dst false (opD P.prog (evalD st.get) (lk st.σ) (fresh st.σ) (.call { callee := .builtin .len, args := args, argTypes := ts }))) ∧
    (∀ (P : Prg) (ops : Array Oper) (os : List Oper) (args : Array Operand) (ts : Array TypeId) (dst : Option Tmp) (st : St) (acc : List RecX) (K : St → List RecX → Prop), stepK P ops os st acc K dst (.call { callee := .builtin .append, args := args, argTypes := ts }) = stepE P ops os st acc K dst true (opD P.prog (evalD st.get) (lk st.σ) (fresh st.σ) (.call { callee := .builtin .append, args := args, argTypes := ts }))) ∧
    (∀ (P : Prg) (ops : Array Oper) (os : List Oper) (dst : Option Tmp) (u : Bool) (f : Eff) (st : St) (acc : List RecX) (K : St → List RecX → Prop), stepE P ops os st acc K dst u (some f) = (f.side ∧ runOps P ops os ((st.put dst f.val).lay f.ws) (acc ++ [⟨true, f.val, ⟨if u = true then fresh st.σ :: f.rds else f.rds, f.ws⟩⟩]) K)) ∧
    (∀ (P : Prg) (ops : Array Oper) (os : List Oper) (o : Oper) (st : St) (acc : List RecX) (K : St → List RecX → Prop), stepW P ops os o st acc K (some true) = stepK P ops os st acc K o.dst o.op) ∧
    (∀ (P : Prg) (ops : Array Oper) (os : List Oper) (o : Oper) (st : St) (acc : List RecX) (K : St → List RecX → Prop), stepW P ops os o st acc K (some false) = runOps P ops os (st.put o.dst (.tup [])) (acc ++ [⟨false, .tup [], ⟨[], []⟩⟩]) K) ∧
    (∀ (P : Prg) (ops : Array Oper) (os : List Oper) (dst : Option Tmp) (d : D) (r : Rec) (st : St) (acc : List RecX) (K : St → List RecX → Prop), contK P ops os st acc K dst d r = runOps P ops os ((st.put dst d).lay r.ws) (acc ++ [⟨true, d, r⟩]) K) ∧
    (∀ (P : Program) (ρ : Operand → D) (σ : Nat → Option Blk) (id : Nat) (x : Operand), opD P ρ σ id (.move x) = (some (pureE (ρ x)))) ∧
    (∀ (P : Program) (ρ : Operand → D) (σ : Nat → Option Blk) (id : Nat) (x : Operand), opD P ρ σ id (.assign x) = (some (pureE (ρ x)))) ∧
    (∀ (P : Program) (ρ : Operand → D) (σ : Nat → Option Blk) (id : Nat) (c a b : Operand), opD P ρ σ id (.pick c a b) = (match ρ c with
    | .bool true => some (pureE (ρ a))
    | .bool false => some (pureE (ρ b))
    | _ => none)) ∧
    (∀ (P : Program) (ρ : Operand → D) (σ : Nat → Option Blk) (id : Nat) (e : TypeId), opD P ρ σ id (.alloc e) = ((zeroD P e).map fun cs => ⟨True, .ref id 0, [], [(id, .box e cs)]⟩)) ∧
    (∀ (P : Program) (ρ : Operand → D) (σ : Nat → Option Blk) (id : Nat) (e : TypeId) (x : Operand), opD P ρ σ id (.box e x) = ((cells? (ρ x)).map fun cs => ⟨True, .ref id 0, [], [(id, .box e cs)]⟩)) ∧
    (∀ (P : Program) (ρ : Operand → D) (σ : Nat → Option Blk) (id : Nat) (t : TypeId) (parts : Array (Nat × Operand)), opD P ρ σ id (.build t parts) = (if structOk P t = true then (zeroD P t).bind fun z => (fillD P t ρ parts.toList z).map fun cs => pureE (.agg cs) else none)) ∧
    (∀ (P : Program) (ρ : Operand → D) (σ : Nat → Option Blk) (id : Nat) (t : TypeId) (len : Nat) (parts : Array (Nat × Operand)), opD P ρ σ id (.buildSlice t len parts) = ((elemD P t).bind fun (e, sz, _) => if len * sz ≤ 16777216 ∧ parts.size = len ∧ sz ≠ 0 ∧ okElem P e = true then (partsD ρ sz 0 parts.toList).map fun es => pureE (.slice sz false es none) else none)) ∧
    (∀ (P : Program) (ρ : Operand → D) (σ : Nat → Option Blk) (id : Nat) (t : TypeId) (a : Operand), opD P ρ σ id (.load t a) = ((aggD P t).bind fun g => (szD P t).bind fun sz => match ρ a with
    | .ref b off => match σ b with
      | some (.box _ cs) | some (.arr _ cs) => (loadD g sz (cs.drop off)).map fun d => ⟨True, d, [b], []⟩
      | _ => none
    | .iptr cs => (loadD g sz cs).map pureE
    | _ => none)) ∧
    (∀ (P : Program) (ρ : Operand → D) (σ : Nat → Option Blk) (id : Nat) (t : TypeId) (a x : Operand), opD P ρ σ id (.store t a x) = ((szD P t).bind fun sz => (cells? (ρ x)).bind fun vs => match ρ a with
    | .ref b off => match σ b with
      | some (.box t' cs) => if vs.length = sz ∧ off + sz ≤ cs.length then some ⟨True, .junk, [b], [(b, .box t' (cs.take off ++ vs ++ cs.drop (off + sz)))]⟩ else none
      | some (.arr z cs) => if vs.length = sz ∧ off + sz ≤ cs.length then some ⟨True, .junk, [b], [(b, .arr z (cs.take off ++ vs ++ cs.drop (off + sz)))]⟩ else none
      | _ => none
    | _ => none)) := by
  refine ⟨?_, ?_, ?_, ?_, ?_, ?_, ?_, ?_, ?_, ?_, ?_, ?_, ?_, ?_, ?_, ?_, ?_, ?_, ?_, ?_, ?_, ?_, ?_, ?_, ?_, ?_, ?_, ?_, ?_, ?_, ?_, ?_, ?_, ?_, ?_, ?_, ?_, ?_, ?_, ?_⟩ <;> first | exact rfl | exact app_eq1 | exact app_eq2 | exact app_eq3 | exact app_eq4 | exact bytesOf_u8s | (intros; rfl) | (intros; simp; done) | (intros; unfold binD strD; rfl) | (intros; simp [appD, appS, u8s]; done) | (intros; simp [appD, appS, u8s]; (repeat' split) <;> simp_all)
theorem Wp1 :
    (∀ (P : Program) (ρ : Operand → D) (σ : Nat → Option Blk) (id : Nat) (x : Operand), opD P ρ σ id (.nilCheck x) = (match ρ x with
    | .ref b off => some (pureE (.ref b off))
    | .iptr cs => some (pureE (.iptr cs))
    | .fn (.func f) a b => some (pureE (.fn (.func f) a b))
    | _ => none)) ∧
    (∀ (P : Program) (ρ : Operand → D) (σ : Nat → Option Blk) (id : Nat) (op : BinOp) (xt yt : TypeId) (x y : Operand), opD P ρ σ id (.binOp op xt x y yt) = (binD P op xt (isConstD x || isConstD y) (ρ x) (ρ y))) ∧
    (∀ (P : Program) (ρ : Operand → D) (σ : Nat → Option Blk) (id : Nat) (op : UnOp) (xt : TypeId) (x : Operand), opD P ρ σ id (.unOp op xt x) = ((unD op (ρ x)).map pureE)) ∧
    (∀ (P : Program) (ρ : Operand → D) (σ : Nat → Option Blk) (id : Nat) (src dst : TypeId) (x : Operand), opD P ρ σ id (.convert src dst x) = ((cvtD P src dst (ρ x)).map pureE)) ∧
    (∀ (P : Program) (ρ : Operand → D) (σ : Nat → Option Blk) (id : Nat) (t : TypeId) (x : Operand), opD P ρ σ id (.makeInterface t x) = (if concT P t = true then some (pureE (.iface t (ρ x))) else none)) ∧
    (∀ (P : Program) (ρ : Operand → D) (σ : Nat → Option Blk) (id : Nat) (f : Fn) (a b : Array Operand), opD P ρ σ id (.makeFunc f a b) = (some (pureE (.fn f (a.toList.map ρ) (b.toList.map ρ))))) ∧
    (∀ (P : Program) (ρ : Operand → D) (σ : Nat → Option Blk) (id : Nat) (t : TypeId) (x : Operand) (lo hi : Option Operand), opD P ρ σ id (.slice t x lo hi none) = (match ρ x with
    | .str s => if isStr P t then (sliceD 0 (.str s) (lo.map ρ) (hi.map ρ)).map pureE else none
    | .slice a b c d => (elemD P t).bind fun (_, sz, _) => (sliceD sz (.slice a b c d) (lo.map ρ) (hi.map ρ)).map pureE
    | _ => none)) ∧
    (∀ (P : Program) (ρ : Operand → D) (σ : Nat → Option Blk) (id : Nat) (s : TypeId) (x : Operand) (f : Nat), opD P ρ σ id (.fieldAddr s x f) = ((fldD P s f).bind fun (off, sz) => if sz = 0 then none else match ρ x with
    | .ref b o => some (pureE (.ref b (o + off)))
    | .iptr cs => some (pureE (.iptr (cs.drop off)))
    | _ => none)) ∧
    (∀ (P : Program) (ρ : Operand → D) (σ : Nat → Option Blk) (id : Nat) (t : TypeId) (x : Operand) (f : Nat), opD P ρ σ id (.field t x f) = ((fldD P t f).bind fun (off, sz) => match (P.underlying t), ρ x with
    | some (.struct fs), .agg cs => ((fs[f]?).bind fun fl => aggD P fl.type).bind fun g => (loadD g sz (cs.drop off)).map pureE
    | _, _ => none)) ∧
    (∀ (P : Program) (ρ : Operand → D) (σ : Nat → Option Blk) (id : Nat) (t : TypeId) (x i : Operand), opD P ρ σ id (.indexAddr t x i) = ((elemD P t).bind fun (_, sz, _) => (natD (ρ i)).bind fun n => match ρ x with
    | .slice z false es _ => if z = sz then (es[n]?).map fun e => pureE (.iptr e) else none
    | .arr b z m => if z = sz ∧ n < m then some (pureE (.ref b (n * sz))) else none
    | _ => none)) ∧
    (∀ (P : Program) (ρ : Operand → D) (σ : Nat → Option Blk) (id : Nat) (t : TypeId) (x i : Operand), opD P ρ σ id (.index t x i) = (match ρ x with
    | .str s => if isStr P t then (natD (ρ i)).bind fun n => (s[n]?).map fun c => pureE (.int .u8 c.toNat) else none
    | _ => none)) ∧
    (∀ (P : Program) (ρ : Operand → D) (σ : Nat → Option Blk) (id : Nat) (x : Operand) (i : Nat), opD P ρ σ id (.extract x i) = (match ρ x with
    | .tup vs => (vs[i]?).map pureE
    | _ => none)) ∧
    (∀ (P : Program) (ρ : Operand → D) (σ : Nat → Option Blk) (id : Nat) (args : Array Operand) (argTypes : Array TypeId), opD P ρ σ id (.call { callee := .builtin .len, args := args, argTypes := argTypes }) = (if args.size = 1 ∧ argTypes.size = 1 then (args[0]?).bind fun x => (argTypes[0]?).bind fun t => (lenD P t (ρ x)).map pureE else none)) ∧
    (∀ (P : Program) (ρ : Operand → D) (σ : Nat → Option Blk) (id : Nat) (args : Array Operand) (argTypes : Array TypeId), opD P ρ σ id (.call { callee := .builtin .append, args := args, argTypes := argTypes }) = (if args.size = 2 then (args[0]?).bind fun x => (args[1]?).bind fun y => appX P σ id argTypes (ρ x) (ρ y) else none)) ∧
    (∀ (F : Nat → D) (t : Tmp), evalD F (.tmp t) = F t) ∧
    (∀ (F : Nat → D) (v : Value), evalD F (.const v) = constD v) ∧
    (∀ (F : Nat → D) (f : FuncId), evalD F (.func f) = .fn (.func f) [] []) ∧
    (∀ (F : List (Nat × D)) (σ : List (Nat × Blk)) (t : Nat), St.get ⟨F, σ⟩ t = (lk F t).getD .junk) ∧
    (∀ (F : List (Nat × D)) (σ : List (Nat × Blk)) (t : Nat) (d : D), St.put ⟨F, σ⟩ (some t) d = ⟨(t, d) :: dl F t, σ⟩) ∧
    (∀ (st : St) (d : D), St.put st none d = st) ∧
    (∀ (st : St), St.lay st [] = st) ∧
    (∀ (F : List (Nat × D)) (σ : List (Nat × Blk)) (b : Nat) (blk : Blk), St.lay ⟨F, σ⟩ [(b, blk)] = ⟨F, (b, blk) :: dl σ b⟩) ∧
    (∀ (α : Type) (i : Nat), (lk ([] : List (Nat × α)) i) = none) ∧
    (∀ (α : Type) (k : Nat) (v : α) (l : List (Nat × α)) (i : Nat), lk ((k, v) :: l) i = (if i = k then some v else lk l i)) ∧
    (∀ (α : Type) (i : Nat), (dl ([] : List (Nat × α)) i) = []) ∧
    (∀ (α : Type) (k : Nat) (v : α) (l : List (Nat × α)) (i : Nat), dl ((k, v) :: l) i = (if i = k then dl l i else (k, v) :: dl l i)) ∧
    (∀ (α : Type), (fresh ([] : List (Nat × α))) = 0) ∧
    (∀ (α : Type) (k : Nat) (v : α) (l : List (Nat × α)), fresh ((k, v) :: l) = max (k + 1) (fresh l)) ∧
    (∀ (b : Bool), constD (.bool b) = .bool b) ∧
    (∀ (k : IntKind) (n : Int), constD (.int k n) = .int k n) ∧
    (∀ (s : Array UInt8), constD (.string ⟨s⟩) = .str s.toList) ∧
    (constD (.pointer none) = .nilptr) ∧
    (constD (.slice none 0 0) = .slice 0 true [] none) ∧
    (constD (.map none) = .nilmap) ∧
    (constD (.nilFunc) = .nilfn) ∧
    (constD (.nilIface) = .niliface) ∧
    (∀ (cs : List D), cells? (.agg cs) = some cs) ∧
    (∀ (b : Bool), cells? (.bool b) = some [.bool b]) ∧
    (∀ (k : IntKind) (n : Int), cells? (.int k n) = some [.int k n]) ∧
    (∀ (s : List UInt8), cells? (.str s) = some [.str s]) := by
  refine ⟨?_, ?_, ?_, ?_, ?_, ?_, ?_, ?_, ?_, ?_, ?_, ?_, ?_, ?_, ?_, ?_, ?_, ?_, ?_, ?_, ?_, ?_, ?_, ?_, ?_, ?_, ?_, ?_, ?_, ?_, ?_, ?_, ?_, ?_, ?_, ?_, ?_, ?_, ?_, ?_⟩ <;> first | exact rfl | exact app_eq1 | exact app_eq2 | exact app_eq3 | exact app_eq4 | exact bytesOf_u8s | (intros; rfl) | (intros; simp; done) | (intros; unfold binD strD; rfl) | (intros; simp [appD, appS, u8s]; done) | (intros; simp [appD, appS, u8s]; (repeat' split) <;> simp_all)
theorem Wp2 :
    (∀ (a : Nat) (b : Bool) (c : List (List D)) (e : Option Nat), cells? (.slice a b c e) = some [.slice a b c e]) ∧
    (∀ (a b c : Nat), cells? (.arr a b c) = some [.arr a b c]) ∧
    (∀ (a b : Nat), cells? (.ref a b) = some [.ref a b]) ∧
    (∀ (cs : List D), cells? (.iptr cs) = some [.iptr cs]) ∧
    (cells? (.nilptr) = some [.nilptr]) ∧
    (∀ (f : Fn) (a b : List D), cells? (.fn f a b) = some [.fn f a b]) ∧
    (cells? (.nilfn) = some [.nilfn]) ∧
    (∀ (t : TypeId) (d : D), cells? (.iface t d) = some [.iface t d]) ∧
    (cells? (.niliface) = some [.niliface]) ∧
    (cells? (.nilmap) = some [.nilmap]) ∧
    (∀ (sz : Nat) (cs : List D), loadD true sz cs = (if sz ≤ cs.length then some (.agg (cs.take sz)) else none)) ∧
    (∀ (sz : Nat) (cs : List D), loadD false sz cs = cs.head?) ∧
    (∀ (k : IntKind) (n : Int), natD (.int k n) = (if 0 ≤ n then some n.toNat else none)) ∧
    (∀ (n : Nat), boundD n none = some n) ∧
    (∀ (n : Nat) (d : D), boundD n (some d) = natD d) ∧
    (∀ (sz : Nat) (s : List UInt8) (lo hi : Option D), sliceD sz (.str s) lo hi = ((boundD 0 lo).bind fun l => (boundD s.length hi).bind fun h =>
    if l ≤ h ∧ h ≤ s.length then some (.str ((s.take h).drop l)) else none)) ∧
    (∀ (sz z : Nat) (nil : Bool) (es : List (List D)) (tip : Option Nat) (lo hi : Option D), sliceD sz (.slice z nil es tip) lo hi = ((boundD 0 lo).bind fun l => (boundD es.length hi).bind fun h =>
    if l ≤ h ∧ h ≤ es.length ∧ (nil = true ∨ z = sz) then some (.slice z nil ((es.take h).drop l) (if l = 0 ∧ h = es.length then tip else none)) else none)) ∧
    (∀ (k : IntKind) (a b : Int), intD .add k a b = some (.int k (k.wrap (a + b)))) ∧
    (∀ (k : IntKind) (a b : Int), intD .sub k a b = some (.int k (k.wrap (a - b)))) ∧
    (∀ (k : IntKind) (a b : Int), intD .mul k a b = some (.int k (k.wrap (a * b)))) ∧
    (∀ (k : IntKind) (a b : Int), intD .quo k a b = (if b = 0 then none else some (.int k (k.wrap (a.tdiv b))))) ∧
    (∀ (k : IntKind) (a b : Int), intD .rem k a b = (if b = 0 then none else some (.int k (a.tmod b)))) ∧
    (∀ (k : IntKind) (a b : Int), intD .and k a b = some (.int k (k.wrap (BitVec.ofInt k.bits a &&& BitVec.ofInt k.bits b).toNat))) ∧
    (∀ (k : IntKind) (a b : Int), intD .or k a b = some (.int k (k.wrap (BitVec.ofInt k.bits a ||| BitVec.ofInt k.bits b).toNat))) ∧
    (∀ (k : IntKind) (a b : Int), intD .xor k a b = some (.int k (k.wrap (BitVec.ofInt k.bits a ^^^ BitVec.ofInt k.bits b).toNat))) ∧
    (∀ (k : IntKind) (a b : Int), intD .andNot k a b = some (.int k (k.wrap (BitVec.ofInt k.bits a &&& ~~~BitVec.ofInt k.bits b).toNat))) ∧
    (∀ (k : IntKind) (a b : Int), intD .eql k a b = some (.bool (a == b))) ∧
    (∀ (k : IntKind) (a b : Int), intD .neq k a b = some (.bool (a != b))) ∧
    (∀ (k : IntKind) (a b : Int), intD .lss k a b = some (.bool (decide (a < b)))) ∧
    (∀ (k : IntKind) (a b : Int), intD .leq k a b = some (.bool (decide (a ≤ b)))) ∧
    (∀ (k : IntKind) (a b : Int), intD .gtr k a b = some (.bool (decide (a > b)))) ∧
    (∀ (k : IntKind) (a b : Int), intD .geq k a b = some (.bool (decide (a ≥ b)))) ∧
    (∀ (a b : List UInt8), strD .add a b = some ⟨a.length + b.length ≤ 9223372036854775807, .str (a ++ b), [], []⟩) ∧
    (∀ (a b : List UInt8), strD .eql a b = some (pureE (.bool (a == b)))) ∧
    (∀ (a b : List UInt8), strD .neq a b = some (pureE (.bool (!(a == b))))) ∧
    (∀ (a b : List UInt8), strD .lss a b = some (pureE (.bool (Op.bytesLess a b)))) ∧
    (∀ (a b : List UInt8), strD .leq a b = some (pureE (.bool (Op.bytesLess a b || a == b)))) ∧
    (∀ (a b : List UInt8), strD .gtr a b = some (pureE (.bool (!(Op.bytesLess a b || a == b))))) ∧
    (∀ (a b : List UInt8), strD .geq a b = some (pureE (.bool (!(Op.bytesLess a b))))) ∧
    (∀ (P : Program) (xt : TypeId) (c : Bool) (k k' : IntKind) (a b : Int), binD P .add xt c (.int k a) (.int k' b) = (if k = k' then (intD .add k a b).map pureE else none)) := by
  refine ⟨?_, ?_, ?_, ?_, ?_, ?_, ?_, ?_, ?_, ?_, ?_, ?_, ?_, ?_, ?_, ?_, ?_, ?_, ?_, ?_, ?_, ?_, ?_, ?_, ?_, ?_, ?_, ?_, ?_, ?_, ?_, ?_, ?_, ?_, ?_, ?_, ?_, ?_, ?_, ?_⟩ <;> first | exact rfl | exact app_eq1 | exact app_eq2 | exact app_eq3 | exact app_eq4 | exact bytesOf_u8s | (intros; rfl) | (intros; simp; done) | (intros; unfold binD strD; rfl) | (intros; simp [appD, appS, u8s]; done) | (intros; simp [appD, appS, u8s]; (repeat' split) <;> simp_all)
theorem Wp3 :
    (∀ (P : Program) (xt : TypeId) (c : Bool) (k k' : IntKind) (a b : Int), binD P .sub xt c (.int k a) (.int k' b) = (if k = k' then (intD .sub k a b).map pureE else none)) ∧
    (∀ (P : Program) (xt : TypeId) (c : Bool) (k k' : IntKind) (a b : Int), binD P .mul xt c (.int k a) (.int k' b) = (if k = k' then (intD .mul k a b).map pureE else none)) ∧
    (∀ (P : Program) (xt : TypeId) (c : Bool) (k k' : IntKind) (a b : Int), binD P .quo xt c (.int k a) (.int k' b) = (if k = k' then (intD .quo k a b).map pureE else none)) ∧
    (∀ (P : Program) (xt : TypeId) (c : Bool) (k k' : IntKind) (a b : Int), binD P .rem xt c (.int k a) (.int k' b) = (if k = k' then (intD .rem k a b).map pureE else none)) ∧
    (∀ (P : Program) (xt : TypeId) (c : Bool) (k k' : IntKind) (a b : Int), binD P .and xt c (.int k a) (.int k' b) = (if k = k' then (intD .and k a b).map pureE else none)) ∧
    (∀ (P : Program) (xt : TypeId) (c : Bool) (k k' : IntKind) (a b : Int), binD P .or xt c (.int k a) (.int k' b) = (if k = k' then (intD .or k a b).map pureE else none)) ∧
    (∀ (P : Program) (xt : TypeId) (c : Bool) (k k' : IntKind) (a b : Int), binD P .xor xt c (.int k a) (.int k' b) = (if k = k' then (intD .xor k a b).map pureE else none)) ∧
    (∀ (P : Program) (xt : TypeId) (c : Bool) (k k' : IntKind) (a b : Int), binD P .andNot xt c (.int k a) (.int k' b) = (if k = k' then (intD .andNot k a b).map pureE else none)) ∧
    (∀ (P : Program) (xt : TypeId) (c : Bool) (k k' : IntKind) (a b : Int), binD P .eql xt c (.int k a) (.int k' b) = (if k = k' then (intD .eql k a b).map pureE else none)) ∧
    (∀ (P : Program) (xt : TypeId) (c : Bool) (k k' : IntKind) (a b : Int), binD P .neq xt c (.int k a) (.int k' b) = (if k = k' then (intD .neq k a b).map pureE else none)) ∧
    (∀ (P : Program) (xt : TypeId) (c : Bool) (k k' : IntKind) (a b : Int), binD P .lss xt c (.int k a) (.int k' b) = (if k = k' then (intD .lss k a b).map pureE else none)) ∧
    (∀ (P : Program) (xt : TypeId) (c : Bool) (k k' : IntKind) (a b : Int), binD P .leq xt c (.int k a) (.int k' b) = (if k = k' then (intD .leq k a b).map pureE else none)) ∧
    (∀ (P : Program) (xt : TypeId) (c : Bool) (k k' : IntKind) (a b : Int), binD P .gtr xt c (.int k a) (.int k' b) = (if k = k' then (intD .gtr k a b).map pureE else none)) ∧
    (∀ (P : Program) (xt : TypeId) (c : Bool) (k k' : IntKind) (a b : Int), binD P .geq xt c (.int k a) (.int k' b) = (if k = k' then (intD .geq k a b).map pureE else none)) ∧
    (∀ (P : Program) (xt : TypeId) (c : Bool) (a b : List UInt8), binD P .add xt c (.str a) (.str b) = strD .add a b) ∧
    (∀ (P : Program) (xt : TypeId) (c : Bool) (a b : List UInt8), binD P .eql xt c (.str a) (.str b) = strD .eql a b) ∧
    (∀ (P : Program) (xt : TypeId) (c : Bool) (a b : List UInt8), binD P .neq xt c (.str a) (.str b) = strD .neq a b) ∧
    (∀ (P : Program) (xt : TypeId) (c : Bool) (a b : List UInt8), binD P .lss xt c (.str a) (.str b) = strD .lss a b) ∧
    (∀ (P : Program) (xt : TypeId) (c : Bool) (a b : List UInt8), binD P .leq xt c (.str a) (.str b) = strD .leq a b) ∧
    (∀ (P : Program) (xt : TypeId) (c : Bool) (a b : List UInt8), binD P .gtr xt c (.str a) (.str b) = strD .gtr a b) ∧
    (∀ (P : Program) (xt : TypeId) (c : Bool) (a b : List UInt8), binD P .geq xt c (.str a) (.str b) = strD .geq a b) ∧
    (∀ (P : Program) (xt : TypeId) (c : Bool) (k k' : IntKind) (a b : Int), binD P .shl xt c (.int k a) (.int k' b) = (if 0 ≤ b then some (pureE (.int k (k.wrap (a * 2 ^ (min b.toNat k.bits))))) else none)) ∧
    (∀ (P : Program) (xt : TypeId) (c : Bool) (k k' : IntKind) (a b : Int), binD P .shr xt c (.int k a) (.int k' b) = (if 0 ≤ b then some (pureE (.int k (a.fdiv (2 ^ (min b.toNat k.bits))))) else none)) ∧
    (∀ (P : Program) (xt : TypeId) (c : Bool) (xs ys : List D), binD P .eql xt c (.agg xs) (.agg ys) = ((kindsD P xt).bind fun ks => (eqCells ks xs ys).map fun r => pureE (.bool (r)))) ∧
    (∀ (P : Program) (xt : TypeId) (c : Bool) (a a2 : Nat) (b b2 : Bool) (e e2 : List (List D)) (f f2 : Option Nat), binD P .eql xt c (.slice a b e f) (.slice a2 b2 e2 f2) = ((if tkD P xt = 1 ∧ (b = true ∨ b2 = true) then some (b && b2) else none).map fun r => pureE (.bool (r)))) ∧
    (∀ (P : Program) (xt : TypeId) (c : Bool) , binD P .eql xt c (.nilptr) (.nilptr) = ((if tkD P xt = 2 then some true else none).map fun r => pureE (.bool (r)))) ∧
    (∀ (P : Program) (xt : TypeId) (c : Bool) (a b : Nat), binD P .eql xt c (.nilptr) (.ref a b) = ((if tkD P xt = 2 then some false else none).map fun r => pureE (.bool (r)))) ∧
    (∀ (P : Program) (xt : TypeId) (c : Bool) (l : List D), binD P .eql xt c (.nilptr) (.iptr l) = ((if tkD P xt = 2 then some false else none).map fun r => pureE (.bool (r)))) ∧
    (∀ (P : Program) (xt : TypeId) (c : Bool) (a b : Nat), binD P .eql xt c (.ref a b) (.nilptr) = ((if tkD P xt = 2 then some false else none).map fun r => pureE (.bool (r)))) ∧
    (∀ (P : Program) (xt : TypeId) (c : Bool) (l : List D), binD P .eql xt c (.iptr l) (.nilptr) = ((if tkD P xt = 2 then some false else none).map fun r => pureE (.bool (r)))) ∧
    (∀ (P : Program) (xt : TypeId) (c : Bool) , binD P .eql xt c (.nilfn) (.nilfn) = ((if tkD P xt = 3 then some true else none).map fun r => pureE (.bool (r)))) ∧
    (∀ (P : Program) (xt : TypeId) (c : Bool) (f : Fn) (a b : List D), binD P .eql xt c (.nilfn) (.fn f a b) = ((if tkD P xt = 3 then some false else none).map fun r => pureE (.bool (r)))) ∧
    (∀ (P : Program) (xt : TypeId) (c : Bool) (f : Fn) (a b : List D), binD P .eql xt c (.fn f a b) (.nilfn) = ((if tkD P xt = 3 then some false else none).map fun r => pureE (.bool (r)))) ∧
    (∀ (P : Program) (xt : TypeId) (c : Bool) , binD P .eql xt c (.niliface) (.niliface) = ((if tkD P xt = 4 ∧ c = true then some true else none).map fun r => pureE (.bool (r)))) ∧
    (∀ (P : Program) (xt : TypeId) (c : Bool) (t : TypeId) (d : D), binD P .eql xt c (.niliface) (.iface t d) = ((if tkD P xt = 4 then some false else none).map fun r => pureE (.bool (r)))) ∧
    (∀ (P : Program) (xt : TypeId) (c : Bool) (t : TypeId) (d : D), binD P .eql xt c (.iface t d) (.niliface) = ((if tkD P xt = 4 then some false else none).map fun r => pureE (.bool (r)))) ∧
    (∀ (P : Program) (xt : TypeId) (c : Bool) (a b : Bool), binD P .eql xt c (.bool a) (.bool b) = ((if tkD P xt = 5 then some (a == b) else none).map fun r => pureE (.bool (r)))) ∧
    (∀ (P : Program) (xt : TypeId) (c : Bool) (xs ys : List D), binD P .neq xt c (.agg xs) (.agg ys) = ((kindsD P xt).bind fun ks => (eqCells ks xs ys).map fun r => pureE (.bool (!r)))) ∧
    (∀ (P : Program) (xt : TypeId) (c : Bool) (a a2 : Nat) (b b2 : Bool) (e e2 : List (List D)) (f f2 : Option Nat), binD P .neq xt c (.slice a b e f) (.slice a2 b2 e2 f2) = ((if tkD P xt = 1 ∧ (b = true ∨ b2 = true) then some (b && b2) else none).map fun r => pureE (.bool (!r)))) ∧
    (∀ (P : Program) (xt : TypeId) (c : Bool) , binD P .neq xt c (.nilptr) (.nilptr) = ((if tkD P xt = 2 then some true else none).map fun r => pureE (.bool (!r)))) := by
  refine ⟨?_, ?_, ?_, ?_, ?_, ?_, ?_, ?_, ?_, ?_, ?_, ?_, ?_, ?_, ?_, ?_, ?_, ?_, ?_, ?_, ?_, ?_, ?_, ?_, ?_, ?_, ?_, ?_, ?_, ?_, ?_, ?_, ?_, ?_, ?_, ?_, ?_, ?_, ?_, ?_⟩ <;> first | exact rfl | exact app_eq1 | exact app_eq2 | exact app_eq3 | exact app_eq4 | exact bytesOf_u8s | (intros; rfl) | (intros; simp; done) | (intros; unfold binD strD; rfl) | (intros; simp [appD, appS, u8s]; done) | (intros; simp [appD, appS, u8s]; (repeat' split) <;> simp_all)
theorem Wp4 :
    (∀ (P : Program) (xt : TypeId) (c : Bool) (a b : Nat), binD P .neq xt c (.nilptr) (.ref a b) = ((if tkD P xt = 2 then some false else none).map fun r => pureE (.bool (!r)))) ∧
    (∀ (P : Program) (xt : TypeId) (c : Bool) (l : List D), binD P .neq xt c (.nilptr) (.iptr l) = ((if tkD P xt = 2 then some false else none).map fun r => pureE (.bool (!r)))) ∧
    (∀ (P : Program) (xt : TypeId) (c : Bool) (a b : Nat), binD P .neq xt c (.ref a b) (.nilptr) = ((if tkD P xt = 2 then some false else none).map fun r => pureE (.bool (!r)))) ∧
    (∀ (P : Program) (xt : TypeId) (c : Bool) (l : List D), binD P .neq xt c (.iptr l) (.nilptr) = ((if tkD P xt = 2 then some false else none).map fun r => pureE (.bool (!r)))) ∧
    (∀ (P : Program) (xt : TypeId) (c : Bool) , binD P .neq xt c (.nilfn) (.nilfn) = ((if tkD P xt = 3 then some true else none).map fun r => pureE (.bool (!r)))) ∧
    (∀ (P : Program) (xt : TypeId) (c : Bool) (f : Fn) (a b : List D), binD P .neq xt c (.nilfn) (.fn f a b) = ((if tkD P xt = 3 then some false else none).map fun r => pureE (.bool (!r)))) ∧
    (∀ (P : Program) (xt : TypeId) (c : Bool) (f : Fn) (a b : List D), binD P .neq xt c (.fn f a b) (.nilfn) = ((if tkD P xt = 3 then some false else none).map fun r => pureE (.bool (!r)))) ∧
    (∀ (P : Program) (xt : TypeId) (c : Bool) , binD P .neq xt c (.niliface) (.niliface) = ((if tkD P xt = 4 ∧ c = true then some true else none).map fun r => pureE (.bool (!r)))) ∧
    (∀ (P : Program) (xt : TypeId) (c : Bool) (t : TypeId) (d : D), binD P .neq xt c (.niliface) (.iface t d) = ((if tkD P xt = 4 then some false else none).map fun r => pureE (.bool (!r)))) ∧
    (∀ (P : Program) (xt : TypeId) (c : Bool) (t : TypeId) (d : D), binD P .neq xt c (.iface t d) (.niliface) = ((if tkD P xt = 4 then some false else none).map fun r => pureE (.bool (!r)))) ∧
    (∀ (P : Program) (xt : TypeId) (c : Bool) (a b : Bool), binD P .neq xt c (.bool a) (.bool b) = ((if tkD P xt = 5 then some (a == b) else none).map fun r => pureE (.bool (!r)))) ∧
    (eqCells [] [] [] = some true) ∧
    (∀ (ks : List CK) (a b : Bool) (x y : List D), eqCells (.b :: ks) (.bool a :: x) (.bool b :: y) = ((eqCells ks x y).map fun r => (a == b) && r)) ∧
    (∀ (ks : List CK) (k k' : IntKind) (a b : Int) (x y : List D), eqCells (.i :: ks) (.int k a :: x) (.int k' b :: y) = (if k = k' then (eqCells ks x y).map fun r => (a == b) && r else none)) ∧
    (∀ (ks : List CK) (a b : List UInt8) (x y : List D), eqCells (.s :: ks) (.str a :: x) (.str b :: y) = ((eqCells ks x y).map fun r => (a == b) && r)) ∧
    (∀ (k : IntKind) (n : Int), unD .neg (.int k n) = some (.int k (k.wrap (0 - n)))) ∧
    (∀ (b : Bool), unD .not (.bool b) = some (.bool (!b))) ∧
    (∀ (k : IntKind) (n : Int), unD .xor (.int k n) = some (.int k (k.wrap (BitVec.ofInt k.bits (if k.signed then -1 else k.max) ^^^ BitVec.ofInt k.bits n).toNat))) ∧
    (∀ (P : Program) (src dst : TypeId) (k : IntKind) (n : Int), cvtD P src dst (.int k n) = (if (kindD P src).isSome = true then (kindD P dst).map fun k => .int k (k.wrap n) else none)) ∧
    (∀ (P : Program) (src dst : TypeId) (s : List UInt8), cvtD P src dst (.str s) = (if isStr P dst ∧ isStr P src then some (.str s) else none)) ∧
    (∀ (P : Program) (src dst : TypeId) (b : Bool) (es : List (List D)) (t : Option Nat), cvtD P src dst (.slice 1 b es t) = (if isStr P dst ∧ (elemD P src).bind (fun e => kindD P e.1) = some .u8 then (bytesOf? es).map .str else none)) ∧
    (∀ (P : Program) (t : TypeId) (s : List UInt8), lenD P t (.str s) = (if isStr P t = true then some (.int .i64 s.length) else none)) ∧
    (∀ (P : Program) (t : TypeId) (a : Nat) (b : Bool) (es : List (List D)) (f : Option Nat), lenD P t (.slice a b es f) = (if isSliceT P t = true then some (.int .i64 es.length) else none)) ∧
    (∀ (P : Program) (t : TypeId) (a b n : Nat), lenD P t (.arr a b n) = (if isSliceT P t = true then some (.int .i64 n) else none)) ∧
    (∀ (ρ : Operand → D) (sz i : Nat), partsD ρ sz i [] = some []) ∧
    (∀ (ρ : Operand → D) (sz i j : Nat) (x : Operand) (ps : List (Nat × Operand)), partsD ρ sz i ((j, x) :: ps) = (if i = j then (cells? (ρ x)).bind fun cs => if cs.length = sz then (partsD ρ sz (i + 1) ps).map (cs :: ·) else none else none)) ∧
    (∀ (P : Program) (t : TypeId) (ρ : Operand → D) (cs : List D), fillD P t ρ [] cs = some cs) ∧
    (∀ (P : Program) (t : TypeId) (ρ : Operand → D) (i : Nat) (x : Operand) (ps : List (Nat × Operand)) (cs : List D), fillD P t ρ ((i, x) :: ps) cs = ((fldD P t i).bind fun q => (cells? (ρ x)).bind fun vs =>
      if vs.length = q.2 ∧ q.1 + q.2 ≤ cs.length then fillD P t ρ ps (cs.take q.1 ++ vs ++ cs.drop (q.1 + q.2)) else none)) ∧
    (∀ (d : D), pureE d = ⟨True, d, [], []⟩) ∧
    (∀ (v : Value), isConstD (.const v) = true) ∧
    (∀ (t : Tmp), isConstD (.tmp t) = false) ∧
    (∀ (f : FuncId), isConstD (.func f) = false) ∧
    (∀ (α β : Type) (x : α) (f : α → Option β), (some x).bind f = f x) ∧
    (∀ (α β : Type) (x : α) (f : α → β), (some x).map f = some (f x)) ∧
    (∀ (α : Type) (x y : α), (some x).getD y = x) ∧
    (∀ (α : Type) (y : α), (none : Option α).getD y = y) ∧
    (∀ (α : Type) (x : α) (l : List α), (x :: l)[0]? = some x) ∧
    (∀ (α : Type) (x : α) (l : List α) (n : Nat), (x :: l)[n + 1]? = l[n]?) ∧
    (∀ (α : Type) (l : List α), l.toArray.toList = l) ∧
    (∀ (α : Type) (x : α) (l : List α) (n : Nat), (x :: l).take (n + 1) = x :: l.take n) := by
  refine ⟨?_, ?_, ?_, ?_, ?_, ?_, ?_, ?_, ?_, ?_, ?_, ?_, ?_, ?_, ?_, ?_, ?_, ?_, ?_, ?_, ?_, ?_, ?_, ?_, ?_, ?_, ?_, ?_, ?_, ?_, ?_, ?_, ?_, ?_, ?_, ?_, ?_, ?_, ?_, ?_⟩ <;> first | exact rfl | exact app_eq1 | exact app_eq2 | exact app_eq3 | exact app_eq4 | exact bytesOf_u8s | (intros; rfl) | (intros; simp; done) | (intros; unfold binD strD; rfl) | (intros; simp [appD, appS, u8s]; done) | (intros; simp [appD, appS, u8s]; (repeat' split) <;> simp_all)
theorem Wp5 :
    (∀ (α : Type) (l : List α), l.take 0 = []) ∧
    (∀ (α : Type) (n : Nat), ([] : List α).take n = []) ∧
    (∀ (α : Type) (x : α) (l : List α) (n : Nat), (x :: l).drop (n + 1) = l.drop n) ∧
    (∀ (α : Type) (l : List α), l.drop 0 = l) ∧
    (∀ (α : Type) (l : List α), [] ++ l = l) ∧
    (∀ (α : Type) (l : List α), l ++ [] = l) ∧
    (∀ (α : Type) (x : α) (l m : List α), (x :: l) ++ m = x :: (l ++ m)) ∧
    (∀ (α β : Type) (f : α → β), List.map f [] = []) ∧
    (∀ (α β : Type) (f : α → β) (x : α) (l : List α), List.map f (x :: l) = f x :: List.map f l) ∧
    (∀ (α : Type) (x : α) (l : List α), (x :: l).length = l.length + 1) ∧
    (∀ (α : Type), ([] : List α).length = 0) ∧
    (∀ (α : Type) (x : α) (l : List α), (x :: l).head? = some x) ∧
    (∀ (b : Bool), (b && true) = b) ∧
    (∀ (b : Bool), (true && b) = b) ∧
    (∀ (b : Bool), (b && false) = false) ∧
    (∀ (b : Bool), (false && b) = false) ∧
    (∀ (b : Bool), (b || true) = true) ∧
    (∀ (b : Bool), (true || b) = true) ∧
    (∀ (b : Bool), (b || false) = b) ∧
    (∀ (b : Bool), (false || b) = b) ∧
    ((!true) = false) ∧
    ((!false) = true) ∧
    (∀ (b : Bool), (b == b) = true) ∧
    ((true == false) = false) ∧
    ((false == true) = false) ∧
    (∀ (p : Prop), (True ∧ p) = p) ∧
    (∀ (p : Prop), (p ∧ True) = p) ∧
    (∀ (p : Prop), (True ∨ p) = True) ∧
    (∀ (p : Prop), (p ∨ True) = True) ∧
    (∀ (p : Prop), (False ∨ p) = p) ∧
    (∀ (p : Prop), (p ∨ False) = p) ∧
    ((false = true) = False) ∧
    ((true = false) = False) ∧
    (∀ (n : Nat), ((n : Int)).toNat = n) ∧
    (∀ (n : Nat), ((0 : Int) ≤ (n : Int)) = True) ∧
    (∀ (n : Nat), max n 0 = n) ∧
    (∀ (n : Nat), 0 + n = n) ∧
    (∀ (n : Nat), n + 0 = n) ∧
    (∀ (α : Type) (l : List α), (l.toArray.size = l.length)) ∧
    (∀ (α : Type) (l : List α) (i : Nat), (l.toArray[i]? = l[i]?)) := by
  refine ⟨?_, ?_, ?_, ?_, ?_, ?_, ?_, ?_, ?_, ?_, ?_, ?_, ?_, ?_, ?_, ?_, ?_, ?_, ?_, ?_, ?_, ?_, ?_, ?_, ?_, ?_, ?_, ?_, ?_, ?_, ?_, ?_, ?_, ?_, ?_, ?_, ?_, ?_, ?_, ?_⟩ <;> first | exact rfl | exact app_eq1 | exact app_eq2 | exact app_eq3 | exact app_eq4 | exact bytesOf_u8s | (intros; rfl) | (intros; simp; done) | (intros; unfold binD strD; rfl) | (intros; simp [appD, appS, u8s]; done) | (intros; simp [appD, appS, u8s]; (repeat' split) <;> simp_all)
theorem Wp6 :
    (∀ (P : Prg) (ops : Array Oper) (os : List Oper) (t : TypeId) (x : Operand) (dst : Option Tmp) (st : St) (acc : List RecX) (K : St → List RecX → Prop), stepK P ops os st acc K dst (.range t x) = stepE P ops os st acc K dst true (opD P.prog (evalD st.get) (lk st.σ) (fresh st.σ) (.range t x))) ∧
    (∀ (P : Prg) (ops : Array Oper) (os : List Oper) (b : Bool) (x : Operand) (dst : Option Tmp) (st : St) (acc : List RecX) (K : St → List RecX → Prop), stepK P ops os st acc K dst (.next x b) = stepE P ops os st acc K dst false (opD P.prog (evalD st.get) (lk st.σ) (fresh st.σ) (.next x b))) ∧
    (∀ (P : Prg) (ops : Array Oper) (os : List Oper) (args : Array Operand) (ts : Array TypeId) (dst : Option Tmp) (st : St) (acc : List RecX) (K : St → List RecX → Prop), stepK P ops os st acc K dst (.call { callee := .builtin .min, args := args, argTypes := ts }) = stepE P ops os st acc K dst false (opD P.prog (evalD st.get) (lk st.σ) (fresh st.σ) (.call { callee := .builtin .min, args := args, argTypes := ts }))) ∧
    (∀ (P : Program) (ρ : Operand → D) (σ : Nat → Option Blk) (id : Nat) (args : Array Operand) (argTypes : Array TypeId), opD P ρ σ id (.call { callee := .builtin .min, args := args, argTypes := argTypes }) = (if args.size = 2 then (args[0]?).bind fun x => (args[1]?).bind fun y => (minD (ρ x) (ρ y)).map pureE else none)) ∧
    (∀ (P : Prg) (ops : Array Oper) (os : List Oper) (args : Array Operand) (ts : Array TypeId) (dst : Option Tmp) (st : St) (acc : List RecX) (K : St → List RecX → Prop), stepK P ops os st acc K dst (.call { callee := .builtin .max, args := args, argTypes := ts }) = stepE P ops os st acc K dst false (opD P.prog (evalD st.get) (lk st.σ) (fresh st.σ) (.call { callee := .builtin .max, args := args, argTypes := ts }))) ∧
    (∀ (P : Program) (ρ : Operand → D) (σ : Nat → Option Blk) (id : Nat) (args : Array Operand) (argTypes : Array TypeId), opD P ρ σ id (.call { callee := .builtin .max, args := args, argTypes := argTypes }) = (if args.size = 2 then (args[0]?).bind fun x => (args[1]?).bind fun y => (maxD (ρ x) (ρ y)).map pureE else none)) ∧
    (∀ (k k' : IntKind) (x y : Int), minD (.int k x) (.int k' y) = some (.int k (if y < x then y else x))) ∧
    (∀ (k k' : IntKind) (x y : Int), maxD (.int k x) (.int k' y) = some (.int k (if y > x then y else x))) ∧
    (∀ (P : Program) (ρ : Operand → D) (σ : Nat → Option Blk) (id : Nat) (t : TypeId) (x : Operand), opD P ρ σ id (.range t x) = (match ρ x with
  | .str s => if isStr P t = true then some ⟨True, .ref id 0, [], [(id, .iter s 0)]⟩ else none
  | _ => none)) ∧
    (∀ (P : Program) (ρ : Operand → D) (σ : Nat → Option Blk) (id : Nat) (x : Operand), opD P ρ σ id (.next x true) = (match ρ x with
  | .ref b 0 => match σ b with
    | some (.iter s pos) => some ⟨True, if pos < s.length then .tup [.bool true, .int .i64 pos, .int .i32 (decD s pos).1] else .tup [.bool false], [b], if pos < s.length then [(b, .iter s (pos + (decD s pos).2))] else []⟩
    | _ => none
  | _ => none)) ∧
    (∀ (P : Program) (σ : Nat → Option Blk) (id : Nat) (ts : Array TypeId) (x : D) (s : List UInt8), appX P σ id ts x (.str s) = appS P σ id ts x s) ∧
    (∀ (P : Program) (σ : Nat → Option Blk) (id : Nat) (ts : Array TypeId) (x : D) (a : Nat) (b : Bool) (c : List (List D)) (d : Option Nat), appX P σ id ts x (.slice a b c d) = appD P σ id ts x (.slice a b c d)) ∧
    (∀ (P : Program) (σ : Nat → Option Blk) (id : Nat) (a b : TypeId) (z0 : Nat) (nil : Bool) (es : List (List D)) (sz' : Nat) (n' : Bool) (es' : List (List D)) (t' : Option Nat), appD P σ id #[a, b] (.slice z0 nil es none) (.slice sz' n' es' t') = (match elemD P a with
  | some (e, sz, by') => if sz = 0 ∨ okElem P e = false ∨ ¬ (b = a) ∨ (¬ es = [] ∧ ¬ (z0 = sz)) ∨ (¬ es' = [] ∧ ¬ (sz' = sz)) then none else
    if nil = true then (if es' = [] then some (pureE (.slice sz true [] none)) else some ⟨es'.length * by' ≤ 140737488355328 ∧ es'.length ≤ 9223372036854775807, .slice sz false es' (some id), [], [(id, .tip e sz es'.length)]⟩) else none
  | none => none)) ∧
    (∀ (P : Program) (σ : Nat → Option Blk) (id : Nat) (a b : TypeId) (z0 : Nat) (nil : Bool) (es : List (List D)) (t : Nat) (sz' : Nat) (n' : Bool) (es' : List (List D)) (t' : Option Nat), appD P σ id #[a, b] (.slice z0 nil es (some t)) (.slice sz' n' es' t') = (match elemD P a with
  | some (e, sz, by') => if sz = 0 ∨ okElem P e = false ∨ ¬ (b = a) ∨ (¬ es = [] ∧ ¬ (z0 = sz)) ∨ (¬ es' = [] ∧ ¬ (sz' = sz)) then none else
    (match σ t with
    | some (.tip e' z n) => if e' = e ∧ z = sz ∧ n = es.length then some ⟨(es ++ es').length * by' ≤ 140737488355328 ∧ (es ++ es').length ≤ 9223372036854775807, .slice sz (nil && es'.isEmpty) (es ++ es') (some t), [t], [(t, .tip e sz (es ++ es').length)]⟩ else none
    | _ => none)
  | none => none)) ∧
    (∀ (P : Program) (σ : Nat → Option Blk) (id : Nat) (a b : TypeId) (z0 : Nat) (nil : Bool) (es : List (List D)) (s : List UInt8), appS P σ id #[a, b] (.slice z0 nil es none) s = (match elemD P a with
  | some (e, sz, by') => if byteElem P e = false ∨ ¬ (sz = 1) ∨ isStr P b = false ∨ (¬ es = [] ∧ ¬ (z0 = 1)) then none else
    if s = [] then some (pureE (.slice z0 nil es none)) else
    if nil = true then some ⟨s.length * by' ≤ 140737488355328 ∧ s.length ≤ 9223372036854775807, .slice 1 false (u8s s) (some id), [], [(id, .tip e 1 (u8s s).length)]⟩ else none
  | none => none)) ∧
    (∀ (P : Program) (σ : Nat → Option Blk) (id : Nat) (a b : TypeId) (z0 : Nat) (nil : Bool) (es : List (List D)) (t : Nat) (s : List UInt8), appS P σ id #[a, b] (.slice z0 nil es (some t)) s = (match elemD P a with
  | some (e, sz, by') => if byteElem P e = false ∨ ¬ (sz = 1) ∨ isStr P b = false ∨ (¬ es = [] ∧ ¬ (z0 = 1)) then none else
    if s = [] then some (pureE (.slice z0 nil es (some t))) else
    (match σ t with
    | some (.tip e' z n) => if e' = e ∧ z = 1 ∧ n = es.length then some ⟨(es ++ u8s s).length * by' ≤ 140737488355328 ∧ (es ++ u8s s).length ≤ 9223372036854775807, .slice 1 false (es ++ u8s s) (some t), [t], [(t, .tip e 1 (es ++ u8s s).length)]⟩ else none
    | _ => none)
  | none => none)) ∧
    (∀ (α : Type) (ks : List Nat), keep ks ([] : List (Nat × α)) = []) ∧
    (∀ (α : Type) (ks : List Nat) (k : Nat) (v : α) (l : List (Nat × α)), keep ks ((k, v) :: l) = (if ins k ks = true then (k, v) :: keep ks l else keep ks l)) ∧
    (∀ (k : Nat), ins k [] = false) ∧
    (∀ (k a : Nat) (l : List Nat), ins k (a :: l) = (if k = a then true else ins k l)) ∧
    (∀ (s : List UInt8), bytesOf? (u8s s) = some s) ∧
    (∀ (α β : Type) (f : α → β), (none : Option α).map f = none) ∧
    (∀ (α β : Type) (f : α → Option β), (none : Option α).bind f = none) ∧
    (∀ (F : List (Nat × D)) (σ : List (Nat × Blk)) (b c : Nat) (x y : Blk), St.lay ⟨F, σ⟩ [(b, x), (c, y)] = ⟨F, (b, x) :: dl ((c, y) :: dl σ c) b⟩) ∧
    (∀ (F : List (Nat × D)) (σ : List (Nat × Blk)) (b c d : Nat) (x y z : Blk), St.lay ⟨F, σ⟩ [(b, x), (c, y), (d, z)] = ⟨F, (b, x) :: dl ((c, y) :: dl ((d, z) :: dl σ d) c) b⟩) ∧
    (∀ (F : List (Nat × D)) (σ : List (Nat × Blk)) (b c d i : Nat) (x y z u : Blk), St.lay ⟨F, σ⟩ [(b, x), (c, y), (d, z), (i, u)] = ⟨F, (b, x) :: dl ((c, y) :: dl ((d, z) :: dl ((i, u) :: dl σ i) d) c) b⟩) ∧
    (∀ (α β : Type) (f : α → β) (l : List α), (l.map f).length = l.length) ∧
    (∀ (α : Type) (c : Prop) (d : Decidable c) (a : α), @ite α c d a a = a) ∧
    (∀ (n : Nat), (0 ≤ n) = True) ∧
    (∀ (n : Nat), (n ≤ n) = True) ∧
    (∀ (α : Type) (a b : α), (a ≠ b) = ¬ (a = b)) ∧
    ((¬ False) = True) ∧
    ((¬ True) = False) ∧
    (∀ (p : Prop), (False ∧ p) = False) ∧
    (∀ (p : Prop), (p ∧ False) = False) ∧
    (∀ (p : Prop), (p ∧ p) = p) ∧
    (∀ (p : Prop), (p ∨ p) = p) ∧
    (∀ (α : Type) (a : α), (some a).isSome = true) ∧
    (∀ (d : Decidable True), @decide True d = true) ∧
    (∀ (d : Decidable False), @decide False d = false) := by
  refine ⟨?_, ?_, ?_, ?_, ?_, ?_, ?_, ?_, ?_, ?_, ?_, ?_, ?_, ?_, ?_, ?_, ?_, ?_, ?_, ?_, ?_, ?_, ?_, ?_, ?_, ?_, ?_, ?_, ?_, ?_, ?_, ?_, ?_, ?_, ?_, ?_, ?_, ?_, ?_, ?_⟩ <;> first | exact rfl | exact app_eq1 | exact app_eq2 | exact app_eq3 | exact app_eq4 | exact bytesOf_u8s | (intros; rfl) | (intros; simp; done) | (intros; unfold binD strD; rfl) | (intros; simp [appD, appS, u8s]; done) | (intros; simp [appD, appS, u8s]; (repeat' split) <;> simp_all)
theorem Wp7 :
    (∀ (P : Program) (ρ : Operand → D) (id : Nat) (t : TypeId) (len : Nat) (parts : Array (Nat × Operand)), opA P ρ id t len parts = ((elemD P t).bind fun (e, sz, _) => if len * sz ≤ 16777216 ∧ parts.size = len ∧ sz ≠ 0 ∧ okElem P e = true then (partsD ρ sz 0 parts.toList).map fun es => ⟨True, .arr id sz len, [], [(id, .arr e es.flatten)]⟩ else none)) ∧
    (∀ (α : Type), ([] : List (List α)).flatten = []) ∧
    (∀ (α : Type) (l : List α) (m : List (List α)), (l :: m).flatten = l ++ m.flatten) := by
  refine ⟨?_, ?_, ?_⟩ <;> first | exact rfl | exact app_eq1 | exact app_eq2 | exact app_eq3 | exact app_eq4 | exact bytesOf_u8s | (intros; rfl) | (intros; simp; done) | (intros; unfold binD strD; rfl) | (intros; simp [appD, appS, u8s]; done) | (intros; simp [appD, appS, u8s]; (repeat' split) <;> simp_all)
theorem W : type_of% (And.intro Wp0 (And.intro Wp1 (And.intro Wp2 (And.intro Wp3 (And.intro Wp4 (And.intro Wp5 (And.intro Wp6 Wp7))))))) := And.intro Wp0 (And.intro Wp1 (And.intro Wp2 (And.intro Wp3 (And.intro Wp4 (And.intro Wp5 (And.intro Wp6 Wp7))))))
end Go.Id

/-
  Plain: a library's contract, read on data. Conditions: the call leaves what was there.
-/
set_option linter.unusedSimpArgs false
set_option linter.unusedVariables false
namespace Go.Id
open Go

/-- A call that only lays new blocks. -/
theorem CallP.quiet {P : Prg} {k : FuncId} {args : List D} {val : D} (hb : Bodied P.prog k)
    (h : ∀ (M : Nat → Nat → Prop) (w : World) (vs : List Value), P.I w → P.n ≤ w.heap.size → vs.length = args.length → (∀ B off, M B off → B < w.heap.size) →
      (∀ (i : Nat) d v, args[i]? = some d → vs[i]? = some v → Rep M (fun _ => none) w d v) →
      Calls P.prog k vs.toArray w fun e w' => ∃ v, e = .returned v ∧ RowKit.Below w.heap.size w w' ∧ Rep M (fun _ => none) w' val v) : CallP P k args val := by
  refine ⟨hb, fun M γ w vs hst hl hr => ?_⟩
  have hno : γ = fun _ => none := by
    funext b
    rcases hst.names b with ⟨blk, g, q4, _⟩ | ⟨_, q4⟩
    · cases q4
    · exact q4
  subst hno
  have hM : ∀ B off, Mall (P.base M) (fun _ => none) B off ↔ M B off := by
    intro B off
    constructor
    · rintro (h | ⟨b, g, h, _⟩)
      · exact h
      · cases h
    · exact .inl
  refine (h M w vs hst.inv hst.big hl hst.outer (fun i d v h1 h2 => (hr i d v h1 h2).sub (fun B off hm => (hM B off).2 hm))).mono ?_
  rintro e w' ⟨v, rfl, hbl, hv⟩
  refine ⟨v, fun _ => none, rfl, ⟨fun b => .inr ⟨rfl, rfl⟩, (fun b b' g g' B h => by cases h), fun B off hm => Nat.lt_of_lt_of_le (hst.outer B off hm) hbl.size, (fun b g B off h => by cases h), ?_, (fun b g B h => by cases h), Nat.le_trans hst.big hbl.size⟩, ⟨hbl.os, hbl.tape, hbl.output, hbl.size, ?_, fun B off hm _ => hm, (fun b g h => by cases h), fun B hB _ => hbl.block B hB, (fun b g B h => by cases h)⟩, hv.sub (fun B off hm => (hM B off).1 hm)⟩
  · exact P.stable w w' hst.inv (fun k hk => hbl.block k (Nat.lt_of_lt_of_le hk hst.big))
  · intro B off v hm hc
    exact (hbl.cell (p := ⟨B, off, none⟩) (cell_lt hc)).trans hc

section
variable {M : Nat → Nat → Prop} {γ : Nat → Option G} {w : World}
theorem inv_str {s : List UInt8} {v : Value} (h : Rep M γ w (.str s) v) : ∃ b : ByteArray, v = .string b ∧ b.data.toList = s := by
  cases h with
  | str b => exact ⟨b, rfl, rfl⟩
theorem inv_int {k : IntKind} {n : Int} {v : Value} (h : Rep M γ w (.int k n) v) : v = .int k n := by
  cases h; rfl
theorem inv_bool {b : Bool} {v : Value} (h : Rep M γ w (.bool b) v) : v = .bool b := by
  cases h; rfl
theorem rep_strOf (l : List UInt8) : Rep M γ w (.str l) (.string ⟨l.toArray⟩) := Rep.str (M := M) (γ := γ) (w := w) ⟨l.toArray⟩
theorem rep_strOf' {l : List UInt8} {b : ByteArray} (h : b.data.toList = l) : Rep M γ w (.str l) (.string b) := h ▸ Rep.str b
theorem size_list (b : ByteArray) : b.size = b.data.toList.length := rfl
end

/-- One string in. -/
theorem CallP.str1 {P : Prg} {k : FuncId} {s : List UInt8} {val : D} (hb : Bodied P.prog k)
    (h : ∀ (M : Nat → Nat → Prop) (w : World) (b : ByteArray), b.data.toList = s → P.I w → P.n ≤ w.heap.size → (∀ B off, M B off → B < w.heap.size) →
      Calls P.prog k #[.string b] w fun e w' => ∃ v, e = .returned v ∧ RowKit.Below w.heap.size w w' ∧ Rep M (fun _ => none) w' val v) : CallP P k [.str s] val := by
  refine .quiet hb fun M w vs hI hn hl hM hr => ?_
  match vs, hl with
  | [v], _ =>
    obtain ⟨b, rfl, hb⟩ := inv_str (hr 0 _ _ rfl rfl)
    exact h M w b hb hI hn hM

/-- Two strings in. -/
theorem CallP.str2 {P : Prg} {k : FuncId} {s t : List UInt8} {val : D} (hb : Bodied P.prog k)
    (h : ∀ (M : Nat → Nat → Prop) (w : World) (b c : ByteArray), b.data.toList = s → c.data.toList = t → P.I w → P.n ≤ w.heap.size → (∀ B off, M B off → B < w.heap.size) →
      Calls P.prog k #[.string b, .string c] w fun e w' => ∃ v, e = .returned v ∧ RowKit.Below w.heap.size w w' ∧ Rep M (fun _ => none) w' val v) : CallP P k [.str s, .str t] val := by
  refine .quiet hb fun M w vs hI hn hl hM hr => ?_
  match vs, hl with
  | [v, v'], _ =>
    obtain ⟨b, rfl, hb⟩ := inv_str (hr 0 _ _ rfl rfl)
    obtain ⟨c, rfl, hc⟩ := inv_str (hr 1 _ _ rfl rfl)
    exact h M w b c hb hc hI hn hM

/-- A string and an integer in. -/
theorem CallP.strInt {P : Prg} {k : FuncId} {s : List UInt8} {kk : IntKind} {n : Int} {val : D} (hb : Bodied P.prog k)
    (h : ∀ (M : Nat → Nat → Prop) (w : World) (b : ByteArray), b.data.toList = s → P.I w → P.n ≤ w.heap.size → (∀ B off, M B off → B < w.heap.size) →
      Calls P.prog k #[.string b, .int kk n] w fun e w' => ∃ v, e = .returned v ∧ RowKit.Below w.heap.size w w' ∧ Rep M (fun _ => none) w' val v) : CallP P k [.str s, .int kk n] val := by
  refine .quiet hb fun M w vs hI hn hl hM hr => ?_
  match vs, hl with
  | [v, v'], _ =>
    obtain ⟨b, rfl, hb⟩ := inv_str (hr 0 _ _ rfl rfl)
    obtain rfl := inv_int (hr 1 _ _ rfl rfl)
    exact h M w b hb hI hn hM

/-- An integer in. -/
theorem CallP.int1 {P : Prg} {k : FuncId} {kk : IntKind} {n : Int} {val : D} (hb : Bodied P.prog k)
    (h : ∀ (M : Nat → Nat → Prop) (w : World), P.I w → P.n ≤ w.heap.size → (∀ B off, M B off → B < w.heap.size) →
      Calls P.prog k #[.int kk n] w fun e w' => ∃ v, e = .returned v ∧ RowKit.Below w.heap.size w w' ∧ Rep M (fun _ => none) w' val v) : CallP P k [.int kk n] val := by
  refine .quiet hb fun M w vs hI hn hl hM hr => ?_
  match vs, hl with
  | [v], _ =>
    obtain rfl := inv_int (hr 0 _ _ rfl rfl)
    exact h M w hI hn hM

/-- A run of strings in memory, laid anew behind the heap. -/
theorem rep_rows {M : Nat → Nat → Prop} {γ : Nat → Option G} {w : World} {B n : Nat} {l : List (List UInt8)} {e : TypeId} {fz : Nat × Nat} {vs : List Value} (hB : w.heap[B]? = some (.cells vs.toArray e fz)) (hM : ∀ off, ¬ M B off)
    (hv : vs = l.map fun s => Value.string ⟨s.toArray⟩) (hn : n = l.length) : Rep M γ w (.slice 1 false (l.map fun s => [.str s]) none) (.slice (some ⟨B, 0, none⟩) n n) := by
  have key := @Rep.slice M γ w 1 (l.map fun s => [D.str s]) none ⟨B, 0, none⟩ (l.map fun s => [D.str s]).length vs (by simp) (by simp [hv]) (fun _ => rfl) (fun j v hj => ⟨by
      have hj' := hj
      simp [World.cell?, hB, hj'], hM _, by
      rw [hv] at hj
      simp only [List.getElem?_map, Option.map_eq_some_iff] at hj
      obtain ⟨s, _, rfl⟩ := hj
      rfl⟩) (fun i j e d v h1 h2 h3 => by
      simp only [List.getElem?_map, Option.map_eq_some_iff] at h1
      obtain ⟨s, hs, rfl⟩ := h1
      cases j with
      | succ j => simp at h2
      | zero =>
        simp at h2
        subst h2
        rw [hv] at h3
        simp only [Nat.mul_one, Nat.add_zero, List.getElem?_map, hs, Option.map_some, Option.some.injEq] at h3
        subst h3
        exact rep_strOf s) (by simp) (TipOk.none _ _ _)
  simp only [List.length_map] at key
  rw [hn]
  exact key

end Go.Id

/-
  Plain: contracts that read or turn one variable. Conditions: as each law says.
-/
set_option linter.unusedSimpArgs false
set_option linter.unusedVariables false
namespace Go.Id
open Go

/-- A call that leaves the world as it is. -/
theorem CallE.same {P : Prg} {k : FuncId} {args : List D} {ins : List (Nat × Blk)} {val : D} (hb : Bodied P.prog k)
    (h : ∀ (M : Nat → Nat → Prop) (γ : Nat → Option G) (w : World) (vs : List Value), Store (P.base M) γ (lk ins) w → vs.length = args.length →
      (∀ (i : Nat) d v, args[i]? = some d → vs[i]? = some v → Rep (Mall (P.base M) γ) γ w d v) →
      Calls P.prog k vs.toArray w fun e w' => ∃ v, e = .returned v ∧ w' = w ∧ Rep (Mall (P.base M) γ) γ w val v) : CallE P k args ins val ins :=
  ⟨hb, fun M γ w vs hst hl hr => (h M γ w vs hst hl hr).mono fun e w' ⟨v, he, hw, hv⟩ => by subst hw; exact ⟨v, γ, he, hst, Evolve.refl _ _ _, hv⟩⟩

/-- A call that only draws. -/
theorem CallE.drew {P : Prg} {k : FuncId} {args : List D} {ins : List (Nat × Blk)} {val : D} (hb : Bodied P.prog k)
    (h : ∀ (M : Nat → Nat → Prop) (γ : Nat → Option G) (w : World) (vs : List Value), Store (P.base M) γ (lk ins) w → vs.length = args.length →
      (∀ (i : Nat) d v, args[i]? = some d → vs[i]? = some v → Rep (Mall (P.base M) γ) γ w d v) →
      Calls P.prog k vs.toArray w fun e w' => ∃ v, e = .returned v ∧ w' = w.drew ∧ Rep (Mall (P.base M) γ) γ w val v) : CallE P k args ins val ins := by
  refine ⟨hb, fun M γ w vs hst hl hr => (h M γ w vs hst hl hr).mono ?_⟩
  rintro e w' ⟨v, rfl, rfl, hv⟩
  have hev : Evolve (Mall (P.base M) γ) γ w (Mall (P.base M) γ) γ w.drew := ⟨rfl, rfl, rfl, Nat.le_refl _, fun _ _ _ _ h => h, fun _ _ h _ => h, fun _ g h => ⟨g, h, G.le_refl g⟩, fun _ _ _ => rfl, fun b g _ h h' _ => ⟨b, g, h, h'⟩⟩
  refine ⟨v, γ, rfl, ⟨fun b => ?_, hst.dist, hst.outer, hst.apart, (P.base M).stable _ _ hst.inv (fun _ _ => rfl), hst.low, hst.big⟩, hev, hv.evolve hev⟩
  rcases hst.names b with ⟨blk, g, q1, q2, q3⟩ | q
  · exact .inl ⟨blk, g, q1, q2, q3.keep hev (fun _ _ => rfl)⟩
  · exact .inr q

theorem heap_setCell (w : World) {B : Nat} {vs : Array Value} {e : TypeId} {fz : Nat × Nat} (hB : w.heap[B]? = some (.cells vs e fz)) (off : Nat) (v : Value) : (w.setCell ⟨B, off, none⟩ v).heap[B]? = some (.cells (vs.setIfInBounds off v) e fz) := by
  simp [World.setCell, Array.getElem?_modify, hB]
theorem heap_setCell_other (w : World) {B k : Nat} (h : k ≠ B) (off : Nat) (v : Value) : (w.setCell ⟨B, off, none⟩ v).heap[k]? = w.heap[k]? := by
  simp [World.setCell, Array.getElem?_modify, Ne.symm h]

/-- A call that writes one cell of one variable. -/
theorem CallE.wrote {P : Prg} {k : FuncId} {args : List D} {b : Nat} {T : TypeId} {cs : List D} {rest : List (Nat × Blk)} {val : D} (off : Nat) (hoff : off < cs.length) (d' : D) (hb : Bodied P.prog k)
    (h : ∀ (M : Nat → Nat → Prop) (γ : Nat → Option G) (w : World) (vs : List Value) (B : Nat) (us : Array Value) (fz : Nat × Nat), Store (P.base M) γ (lk ((b, .box T cs) :: rest)) w → vs.length = args.length →
      (∀ (i : Nat) d v, args[i]? = some d → vs[i]? = some v → Rep (Mall (P.base M) γ) γ w d v) → γ b = some (.box B) → w.heap[B]? = some (.cells us T fz) → us.size = cs.length →
      (∀ (i : Nat) v, us[i]? = some v → v.oneCell' = true ∧ w.frozen? ⟨B, i, none⟩ = false) → (∀ (i : Nat) d v, cs[i]? = some d → us[i]? = some v → Rep (Mall (P.base M) γ) γ w d v) →
      Calls P.prog k vs.toArray w fun e w' => ∃ v u, e = .returned v ∧ w' = w.setCell ⟨B, off, none⟩ u ∧ u.oneCell' = true ∧ Rep (Mall (P.base M) γ) γ w d' u ∧ Rep (Mall (P.base M) γ) γ w val v) :
    CallE P k args ((b, .box T cs) :: rest) val ((b, .box T (cs.set off d')) :: rest) := by
  refine ⟨hb, fun M γ w vs hst hl hr => ?_⟩
  have hlk : lk ((b, Blk.box T cs) :: rest) b = some (.box T cs) := by simp [lk]
  obtain ⟨g, h2, h3⟩ := hst.hit hlk
  cases h3 with
  | @box _ B us _ fz hB hlen h1 hrr =>
    refine (h M γ w vs B us fz hst hl hr h2 hB hlen h1 hrr).mono ?_
    rintro e w' ⟨v, u, rfl, rfl, hu1, hu2, hv⟩
    have hB' := heap_setCell w hB off u
    have hother : ∀ k, k ≠ B → (w.setCell ⟨B, off, none⟩ u).heap[k]? = w.heap[k]? := fun k hk => heap_setCell_other w hk off u
    have hsize : (w.setCell ⟨B, off, none⟩ u).heap.size = w.heap.size := by simp [World.setCell]
    have hM : ∀ o, Mall (P.base M) γ B o := fun o => .inr ⟨b, _, h2, rfl⟩
    have hev : Evolve (Mall (P.base M) γ) γ w (Mall (P.base M) γ) γ (w.setCell ⟨B, off, none⟩ u) := by
      refine ⟨rfl, rfl, rfl, by omega, fun B' o x hn hu => ?_, fun _ _ h _ => h, fun _ g h => ⟨g, h, G.le_refl g⟩, fun B' _ hn => hother B' (fun e => hn b _ h2 (by rw [e]; rfl)), fun i gi _ h h' _ => ⟨i, gi, h, h'⟩⟩
      have : B' ≠ B := fun e => by subst e; exact hn (hM o)
      rw [World.cell?_of_block (w := w) (w' := w.setCell ⟨B, off, none⟩ u) (by simpa using hother B' this)]; exact hu
    have hupd : upd γ b (some (.box B)) = γ := by funext i; by_cases hi : i = b <;> simp [upd, hi, h2]
    have hσ : upd (lk ((b, Blk.box T cs) :: rest)) b (some (.box T (cs.set off d'))) = lk ((b, Blk.box T (cs.set off d')) :: rest) := by
      funext i
      by_cases hi : i = b <;> simp [upd, lk, hi]
    have hst' := hst.change b (.box T (cs.set off d')) (.box B) (w.setCell ⟨B, off, none⟩ u) (by rw [hupd]; exact hev) (fun i gi B2 hi hgi hgiB => hother B2 (fun e => hi (hst.dist i b gi _ B2 hgi h2 hgiB (by rw [e]; rfl)))) (fun B' hB' => .inr ⟨_, h2, hB'⟩) (by
      rw [hupd]
      refine .box (us.setIfInBounds off u) T fz hB' (by simp [hlen]) (fun i x hx => ?_) (fun i d x hd hx => ?_)
      · have hx0 := hx
        rw [Array.getElem?_setIfInBounds] at hx
        have hi : i < us.size := by
          have := (Array.getElem?_eq_some_iff.1 hx0).1
          simpa using this
        have hfro : (w.setCell ⟨B, off, none⟩ u).frozen? ⟨B, i, none⟩ = false := by
          have := (h1 i _ (Array.getElem?_eq_getElem hi)).2
          simp only [World.frozen?, hB] at this
          simp only [World.frozen?, hB']
          exact this
        refine ⟨?_, hfro⟩
        split at hx
        · split at hx
          · cases hx; exact hu1
          · cases hx
        · exact (h1 i x hx).1
      · rw [Array.getElem?_setIfInBounds] at hx
        rw [List.getElem?_set] at hd
        split at hx
        · rename_i e
          subst e
          rw [if_pos rfl, if_pos hoff] at hd
          rw [if_pos (by omega)] at hx
          cases hd; cases hx
          exact hu2.evolve hev
        · rename_i e
          rw [if_neg e] at hd
          exact (hrr i d x hd hx).evolve hev)
    rw [hupd, hσ] at hst'
    exact ⟨v, γ, rfl, hst', hev, hv.evolve hev⟩

end Go.Id

/-
  Plain: names turned. Conditions: none.
-/
set_option linter.unusedSimpArgs false
set_option linter.unusedVariables false
namespace Go.Id
open Go

mutual
def renD (f : Nat → Nat) : D → D
  | .slice sz nil es tip => .slice sz nil (renLL f es) (tip.map f)
  | .arr b sz n => .arr (f b) sz n
  | .ref b off => .ref (f b) off
  | .iptr cs => .iptr (renL f cs)
  | .fn g a b => .fn g (renL f a) (renL f b)
  | .agg cs => .agg (renL f cs)
  | .tup cs => .tup (renL f cs)
  | .iface t d => .iface t (renD f d)
  | .junk => .junk
  | .bool b => .bool b
  | .int k n => .int k n
  | .str s => .str s
  | .nilptr => .nilptr
  | .nilfn => .nilfn
  | .niliface => .niliface
  | .nilmap => .nilmap
def renL (f : Nat → Nat) : List D → List D
  | [] => []
  | d :: ds => renD f d :: renL f ds
def renLL (f : Nat → Nat) : List (List D) → List (List D)
  | [] => []
  | e :: es => renL f e :: renLL f es
end

theorem renL_map (f : Nat → Nat) : ∀ l, renL f l = l.map (renD f)
  | [] => rfl
  | d :: ds => by rw [renL, renL_map f ds]; rfl
theorem renLL_map (f : Nat → Nat) : ∀ l, renLL f l = l.map (List.map (renD f))
  | [] => rfl
  | e :: es => by rw [renLL, renLL_map f es, renL_map]; rfl

theorem Rep.ren {M : Nat → Nat → Prop} {γ γ' : Nat → Option G} {w : World} {f : Nat → Nat} (hf : ∀ b g, γ b = some g → γ' (f b) = some g) {d : D} {v : Value} (h : Rep M γ w d v) : Rep M γ' w (renD f d) v := by
  have tipk : ∀ {tip : Option Nat} {n : Nat} {v : Value}, TipOk γ tip n v → TipOk γ' (tip.map f) n v := by
    intro tip n v ht t e
    cases tip with
    | none => cases e
    | some t0 =>
      simp only [Option.map_some, Option.some.injEq] at e
      subst e
      obtain ⟨sz, el, v', n', h1, h2, h3⟩ := ht t0 rfl
      exact ⟨sz, el, v', n', hf _ _ h1, h2, h3⟩
  induction h with
  | junk v => exact .junk v
  | bool b => exact .bool b
  | int k n => exact .int k n
  | str s => exact .str s
  | nilslice ht => exact .nilslice (tipk ht)
  | @slice sz es tip a cap vs hsz hvs hspot hc _ hcap ht ih =>
    rw [renD, renLL_map]
    have := @Rep.slice M γ' w sz (es.map (List.map (renD f))) (tip.map f) a cap vs (fun e he => by
      obtain ⟨e0, h0, rfl⟩ := List.mem_map.1 he
      simpa using hsz e0 h0) (by simpa using hvs) (fun h0 => hspot fun e0 => h0 (by rw [e0]; rfl)) hc (fun i j e d v he hd hv => by
      rw [List.getElem?_map, Option.map_eq_some_iff] at he
      obtain ⟨e0, h0, rfl⟩ := he
      rw [List.getElem?_map, Option.map_eq_some_iff] at hd
      obtain ⟨d0, h1, rfl⟩ := hd
      exact ih i j e0 d0 v h0 h1 hv) (by simpa using hcap) (by simpa using tipk ht)
    simpa using this
  | arr hb hn hk => exact .arr (hf _ _ hb) hn hk
  | ref hb =>
    refine .ref ?_
    rcases hb with hb | ⟨c, k, hb⟩ | hb
    · exact .inl (hf _ _ hb)
    · exact .inr (.inl ⟨c, k, hf _ _ hb⟩)
    · exact .inr (.inr (hf _ _ hb))
  | iptr vs hvs hspot hc _ ih =>
    rw [renD, renL_map]
    refine .iptr vs (by simpa using hvs) hspot hc (fun j d v hd hv => ?_)
    rw [List.getElem?_map, Option.map_eq_some_iff] at hd
    obtain ⟨d0, h1, rfl⟩ := hd
    exact ih j d0 v h1 hv
  | nilptr => exact .nilptr
  | fn hl hk _ _ ih1 ih2 =>
    rw [renD, renL_map, renL_map]
    refine .fn (by simpa using hl) (by simpa using hk) (fun i d v hd hv => ?_) (fun i d v hd hv => ?_)
    · rw [List.getElem?_map, Option.map_eq_some_iff] at hd
      obtain ⟨d0, h1, rfl⟩ := hd
      exact ih1 i d0 v h1 hv
    · rw [List.getElem?_map, Option.map_eq_some_iff] at hd
      obtain ⟨d0, h1, rfl⟩ := hd
      exact ih2 i d0 v h1 hv
  | nilfn => exact .nilfn
  | agg hl h1 _ ih =>
    rw [renD, renL_map]
    refine .agg (by simpa using hl) h1 (fun i d v hd hv => ?_)
    rw [List.getElem?_map, Option.map_eq_some_iff] at hd
    obtain ⟨d0, h1, rfl⟩ := hd
    exact ih i d0 v h1 hv
  | tup hl _ ih =>
    rw [renD, renL_map]
    refine .tup (by simpa using hl) (fun i d v hd hv => ?_)
    rw [List.getElem?_map, Option.map_eq_some_iff] at hd
    obtain ⟨d0, h1, rfl⟩ := hd
    exact ih i d0 v h1 hv
  | iface _ ih => exact .iface ih
  | niliface => exact .niliface
  | nilmap => exact .nilmap

def renB (f : Nat → Nat) : Blk → Blk
  | .box t cs => .box t (renL f cs)
  | .arr z cs => .arr z (renL f cs)
  | .tip e sz n => .tip e sz n
  | .dead => .dead
  | .iter s pos => .iter s pos

theorem BlkRel.ren {M : Nat → Nat → Prop} {γ γ' : Nat → Option G} {w : World} {f : Nat → Nat} (hf : ∀ b g, γ b = some g → γ' (f b) = some g) {blk : Blk} {g : G} (h : BlkRel M γ w blk g) : BlkRel M γ' w (renB f blk) g := by
  cases h with
  | box vs e fz hB hl h1 hr =>
    rw [renB, renL_map]
    refine .box vs _ fz hB (by simpa using hl) h1 (fun i d v hd hv => ?_)
    rw [List.getElem?_map, Option.map_eq_some_iff] at hd
    obtain ⟨d0, h2, rfl⟩ := hd
    exact (hr i d0 v h2 hv).ren hf
  | arr vs e fz hB hl h1 hr hff =>
    rw [renB, renL_map]
    refine .arr vs e fz hB (by simpa using hl) h1 (fun i d v hd hv => ?_) (by simpa using hff)
    rw [List.getElem?_map, Option.map_eq_some_iff] at hd
    obtain ⟨d0, h2, rfl⟩ := hd
    exact (hr i d0 v h2 hv).ren hf
  | tip xs ho => exact .tip xs ho
  | iter hB => exact .iter hB
  | dead hB => exact .dead hB

mutual
theorem renD_back {f g : Nat → Nat} (h : ∀ n, g (f n) = n) : ∀ d, renD g (renD f d) = d
  | .slice sz nil es tip => by
    rw [renD, renD, renLL_back h es]
    cases tip <;> simp [h]
  | .arr b sz n => by rw [renD, renD, h]
  | .ref b off => by rw [renD, renD, h]
  | .iptr cs => by rw [renD, renD, renL_back h cs]
  | .fn k a b => by rw [renD, renD, renL_back h a, renL_back h b]
  | .agg cs => by rw [renD, renD, renL_back h cs]
  | .tup cs => by rw [renD, renD, renL_back h cs]
  | .iface t d => by rw [renD, renD, renD_back h d]
  | .junk => rfl
  | .bool b => rfl
  | .int k n => rfl
  | .str s => rfl
  | .nilptr => rfl
  | .nilfn => rfl
  | .niliface => rfl
  | .nilmap => rfl
theorem renL_back {f g : Nat → Nat} (h : ∀ n, g (f n) = n) : ∀ l, renL g (renL f l) = l
  | [] => rfl
  | d :: ds => by rw [renL, renL, renD_back h d, renL_back h ds]
theorem renLL_back {f g : Nat → Nat} (h : ∀ n, g (f n) = n) : ∀ l, renLL g (renLL f l) = l
  | [] => rfl
  | e :: es => by rw [renLL, renLL, renL_back h e, renLL_back h es]
end

theorem renB_back {f g : Nat → Nat} (h : ∀ n, g (f n) = n) (blk : Blk) : renB g (renB f blk) = blk := by
  cases blk <;> simp [renB, renL_back h]

def renS (f : Nat → Nat) (l : List (Nat × Blk)) : List (Nat × Blk) := l.map fun p => (f p.1, renB f p.2)

theorem lk_renS {f g : Nat → Nat} (h : ∀ n, g (f n) = n) : ∀ (l : List (Nat × Blk)) (b : Nat), lk (renS f l) (f b) = (lk l b).map (renB f)
  | [], b => rfl
  | (k, v) :: l, b => by
    have := lk_renS h l b
    simp only [renS, List.map_cons, lk] at this ⊢
    by_cases e : b = k
    · subst e; simp
    · have : ¬ f b = f k := fun q => e (by rw [← h b, q, h k])
      simp only [if_neg e, if_neg this]
      exact lk_renS h l b

theorem lk_renS_range {f : Nat → Nat} : ∀ (l : List (Nat × Blk)) (c : Nat) (x : Blk), lk (renS f l) c = some x → ∃ b, c = f b
  | [], c, x, h => by cases h
  | (k, v) :: l, c, x, h => by
    simp only [renS, List.map_cons, lk] at h
    split at h
    · rename_i e; exact ⟨k, e⟩
    · exact lk_renS_range l c x h

section
variable {P : Prg} {M : Nat → Nat → Prop} {f g : Nat → Nat}

def fwd (f g : Nat → Nat) (γ : Nat → Option G) : Nat → Option G := fun c => if f (g c) = c then γ (g c) else none

theorem fwd_at (h : ∀ n, g (f n) = n) (γ : Nat → Option G) (b : Nat) : fwd f g γ (f b) = γ b := by simp [fwd, h]
theorem fwd_inv {γ : Nat → Option G} {c : Nat} {x : G} (hc : fwd f g γ c = some x) : f (g c) = c ∧ γ (g c) = some x := by
  unfold fwd at hc
  split at hc
  · exact ⟨by assumption, hc⟩
  · cases hc

theorem mall_fwd (h : ∀ n, g (f n) = n) (γ : Nat → Option G) (B off : Nat) : Mall (P.base M) (fwd f g γ) B off ↔ Mall (P.base M) γ B off := by
  constructor
  · rintro (hm | ⟨c, x, hc, hw⟩)
    · exact .inl hm
    · exact .inr ⟨g c, x, (fwd_inv hc).2, hw⟩
  · rintro (hm | ⟨b, x, hb, hw⟩)
    · exact .inl hm
    · exact .inr ⟨f b, x, (fwd_at h γ b).trans hb, hw⟩

theorem Store.forth (h : ∀ n, g (f n) = n) {γ : Nat → Option G} {l : List (Nat × Blk)} {w : World} (hs : Store (P.base M) γ (lk l) w) : Store (P.base M) (fwd f g γ) (lk (renS f l)) w := by
  refine ⟨fun c => ?_, fun c c' x x' B h1 h2 h3 h4 => ?_, hs.outer, fun c x B off h1 h2 => hs.apart (g c) x B off (fwd_inv h1).2 h2, hs.inv, fun c x B h1 h2 => hs.low (g c) x B (fwd_inv h1).2 h2, hs.big⟩
  · by_cases hc : f (g c) = c
    · rcases hs.names (g c) with ⟨blk, x, h1, h2, h3⟩ | ⟨h1, h2⟩
      · refine .inl ⟨renB f blk, x, by rw [← hc, lk_renS h, h1]; rfl, by rw [← hc, fwd_at h, h2], ?_⟩
        exact (h3.ren (γ' := Go.Id.fwd f g γ) (f := f) (fun b y hy => (fwd_at h γ b).trans hy)).same (fun B off => mall_fwd h γ B off)
      · exact .inr ⟨by rw [← hc, lk_renS h, h1]; rfl, by rw [← hc, fwd_at h, h2]⟩
    · refine .inr ⟨?_, by simp [Go.Id.fwd, hc]⟩
      cases hq : lk (renS f l) c with
      | none => rfl
      | some x =>
        obtain ⟨b, rfl⟩ := lk_renS_range l c x hq
        exact absurd (by rw [h]) hc
  · obtain ⟨a1, a2⟩ := fwd_inv h1
    obtain ⟨b1, b2⟩ := fwd_inv h2
    have := hs.dist _ _ _ _ B a2 b2 h3 h4
    rw [← a1, ← b1, this]
theorem back_of (h : ∀ n, g (f n) = n) {γ' : Nat → Option G} {l : List (Nat × Blk)} {w : World} (hs : Store (P.base M) γ' (lk (renS f l)) w) {c : Nat} {x : G} (hc : γ' c = some x) : f (g c) = c := by
  rcases hs.names c with ⟨blk, _, h1, _⟩ | ⟨_, h2⟩
  · obtain ⟨b, rfl⟩ := lk_renS_range l c blk h1
    rw [h]
  · rw [hc] at h2; cases h2

theorem mall_back (h : ∀ n, g (f n) = n) {γ' : Nat → Option G} {l : List (Nat × Blk)} {w : World} (hs : Store (P.base M) γ' (lk (renS f l)) w) (B off : Nat) : Mall (P.base M) (fun b => γ' (f b)) B off ↔ Mall (P.base M) γ' B off := by
  constructor
  · rintro (hm | ⟨b, x, hb, hw⟩)
    · exact .inl hm
    · exact .inr ⟨f b, x, hb, hw⟩
  · rintro (hm | ⟨c, x, hc, hw⟩)
    · exact .inl hm
    · exact .inr ⟨g c, x, by show γ' (f (g c)) = some x; rw [back_of h hs hc]; exact hc, hw⟩

theorem Store.back (h : ∀ n, g (f n) = n) {γ' : Nat → Option G} {l : List (Nat × Blk)} {w : World} (hs : Store (P.base M) γ' (lk (renS f l)) w) : Store (P.base M) (fun b => γ' (f b)) (lk l) w := by
  refine ⟨fun b => ?_, fun b b' x x' B h1 h2 h3 h4 => ?_, hs.outer, fun b x B off h1 h2 => hs.apart (f b) x B off h1 h2, hs.inv, fun b x B h1 h2 => hs.low (f b) x B h1 h2, hs.big⟩
  · have hlk := lk_renS h l b
    rcases hs.names (f b) with ⟨blk, x, h1, h2, h3⟩ | ⟨h1, h2⟩
    · rw [hlk, Option.map_eq_some_iff] at h1
      obtain ⟨blk0, q1, rfl⟩ := h1
      refine .inl ⟨blk0, x, q1, h2, ?_⟩
      have := (h3.ren (γ' := fun b => γ' (f b)) (f := g) (fun c y hy => by show γ' (f (g c)) = some y; rw [back_of h hs hy]; exact hy)).same (fun B off => mall_back h hs B off)
      rw [renB_back h] at this
      exact this
    · rw [hlk, Option.map_eq_none_iff] at h1
      exact .inr ⟨h1, h2⟩
  · have := hs.dist _ _ _ _ B h1 h2 h3 h4
    rw [← h b, this, h]

/-- A contract at other names. -/
theorem CallE.rename (h : ∀ n, g (f n) = n) {k : FuncId} {args : List D} {ins outs : List (Nat × Blk)} {val : D} (hc : CallE P k args ins val outs) : CallE P k (args.map (renD f)) (renS f ins) (renD f val) (renS f outs) := by
  refine ⟨hc.1, fun M γ' w vs hst hl hr => ?_⟩
  have hb := fun {c x} (q : γ' c = some x) => back_of h hst q
  refine (hc.2 M (fun b => γ' (f b)) w vs (hst.back h) (by simpa using hl) (fun i d v hd hv => ?_)).mono ?_
  · have := ((hr i (renD f d) v (by rw [List.getElem?_map, hd]; rfl) hv).ren (γ' := fun b => γ' (f b)) (f := g) (fun c y hy => by show γ' (f (g c)) = some y; rw [hb hy]; exact hy)).same (fun B off => mall_back h hst B off)
    rw [renD_back h] at this
    exact this
  · rintro e w' ⟨v, γ₂, rfl, q1, q2, q3⟩
    refine ⟨v, fwd f g γ₂, rfl, q1.forth h, ?_, ?_⟩
    · refine ⟨q2.os, q2.tape, q2.output, q2.size, fun B off u hm hu => q2.cell B off u (fun q => hm ((mall_back h hst B off).1 q)) hu, fun B off hm hlt => (mall_back h hst B off).1 (q2.wr B off ((mall_fwd h γ₂ B off).1 hm) hlt), fun c x hx => ?_, fun B hB hn => q2.block B hB (fun b x hx => hn (f b) x hx), fun c x B hx hB hlt => ?_⟩
      · obtain ⟨x', r1, r2⟩ := q2.names (g c) x (by show γ' (f (g c)) = some x; rw [hb hx]; exact hx)
        exact ⟨x', by rw [← hb hx, fwd_at h]; exact r1, r2⟩
      · obtain ⟨b', x', r1, r2⟩ := q2.old (g c) x B (fwd_inv hx).2 hB hlt
        exact ⟨f b', x', r1, r2⟩
    · exact (q3.ren (γ' := fwd f g γ₂) (f := f) (fun b y hy => (fwd_at h γ₂ b).trans hy)).same (fun B off => mall_fwd h γ₂ B off)
end

end Go.Id

/-
  Plain: calls that turn the store. Conditions: as each law says.
-/
set_option linter.unusedSimpArgs false
set_option linter.unusedVariables false
namespace Go.Id
open Go

theorem lk_some_mem {α : Type} {l : List (Nat × α)} {b : Nat} {x : α} (h : lk l b = some x) : (b, x) ∈ l := lk_mem l b x h

theorem lk_isSome_mem {α : Type} : ∀ {l : List (Nat × α)} {b : Nat}, (lk l b).isSome = true → b ∈ l.map (·.1)
  | [], b, h => by cases h
  | (k, v) :: l, b, h => by
    simp only [lk] at h
    split at h
    · rename_i e; subst e; simp
    · simp only [List.map_cons, List.mem_cons]; exact .inr (lk_isSome_mem h)

/-- A call that reads and turns names of the store, among the operations. -/
theorem CallK.imp {P : Prg} {fo : D} {args : List D} {σ : List (Nat × Blk)} {K : D → Rec → Prop} {k : FuncId} {first cap as : List D} {ins outs : List (Nat × Blk)} {val : D} (h : CallE P k as ins val outs) (hfo : fo = .fn (.func k) first cap) (has : as = (first ++ args ++ cap).map fg)
    (hin : ∀ p ∈ ins, lk σ p.1 = some p.2 ∧ BClo (fun i => (lk ins i).isSome = true) p.2) (hout : ∀ p ∈ outs, (lk ins p.1).isSome = true ∨ lk σ p.1 = none)
    (hcl : ∀ d ∈ as, Clo (fun i => (lk ins i).isSome = true) d) (hk : K val ⟨ins.map (·.1) ++ outs.map (·.1), outs⟩) : CallK P fo args σ K := by
  refine ⟨k, first, cap, ins, val, ⟨ins.map (·.1) ++ outs.map (·.1), outs⟩, hfo, by rw [← has]; exact h, ?_, ?_, by rw [← has]; exact hcl, ?_, hk⟩
  · intro b blk hb
    exact hin (b, blk) (lk_some_mem hb)
  · intro b hb
    obtain ⟨x, hx⟩ := Option.isSome_iff_exists.1 hb
    exact (hout (b, x) (lk_some_mem hx)).imp (fun q => q) (fun q => ⟨q, List.mem_append.2 (.inr (lk_isSome_mem hb))⟩)
  · intro b hb
    exact List.mem_append.2 (.inl (lk_isSome_mem hb))

/-- How a body ends that turns the store. -/
theorem Ends.imp {P : Prg} {fn : Func} {ins outs : List (Nat × Blk)} {val d : D} {e : Exit} {st : St} (he : e = .normal ∨ e = .ret) (hd : resD P.prog fn st = some d) (hle : Le d val) (hcl : Clo (fun i => (lk outs i).isSome = true) val)
    (hout : ∀ p ∈ outs, lk st.σ p.1 = some p.2 ∧ BClo (fun i => (lk outs i).isSome = true) p.2) (hin : ∀ p ∈ ins, (lk outs p.1).isSome = true) : Ends P fn ins val outs e st := ⟨he, d, hd, hle, hcl, hout, hin⟩

end Go.Id

/-
  Plain: rules for the printed walks. Conditions: as each law says.
-/
set_option linter.unusedSimpArgs false
set_option linter.unusedVariables false
namespace Go.Id
open Go

section
variable {P : Prg} {ent : List Nat} {N : Nat} {Q : Exit → St → Prop} {st : St}

/-- A region, and what follows. -/
theorem WP.sr (ks : List Nat) {id : Nat} {ops : Array Oper} {y : Code} (hd : dstsOk N ops = true)
    (h : ∀ K : St → List RecX → Prop, (∀ st' rs, WP P ent N y Q ⟨Go.Id.keep ks st'.F, st'.σ⟩ → K st' rs) → runOps P ops ops.toList st [] K) : WP P ent N (.seq (.region id ops false) y) Q st :=
  WP.seq (WP.region hd fun K hK => h K fun st' rs hy => hK st' rs (WP.weak (Weak.keep ks) hy))

/-- The same, the order drawn. -/
theorem WP.sd (ks : List Nat) {id : Nat} {ops : Array Oper} {y : Code} (hm : P.prog.follows .mixedOrders = true) (hd : dstsOk N ops = true)
    (h : ∀ K : St → List RecX → Prop, (∀ st' rs, bernB ops rs = true → WP P ent N y Q ⟨Go.Id.keep ks st'.F, st'.σ⟩ → K st' rs) → runOps P ops ops.toList st [] K) : WP P ent N (.seq (.region id ops true) y) Q st :=
  WP.seq (WP.drawn hm hd fun K hK => h K fun st' rs hb hy => hK st' rs hb (WP.weak (Weak.keep ks) hy))

/-- A region that reckons one slot. -/
theorem WP.sm (ks : List Nat) (t : Nat) (d : D) {id : Nat} {ops : Array Oper} {y : Code} (hd : dstsOk N ops = true)
    (h : ∀ K : St → List RecX → Prop, (∀ st' rs, (∀ k ∈ ks, st'.get k = st.get k) → st'.σ = st.σ → Le (st'.get t) d → K st' rs) → runOps P ops ops.toList st [] K) (hy : WP P ent N y Q ⟨(t, d) :: Go.Id.keep ks st.F, st.σ⟩) :
    WP P ent N (.seq (.region id ops false) y) Q st := WP.seqMeet ks t d hd rfl h hy

/-- The same, the order drawn. -/
theorem WP.smd (ks : List Nat) (t : Nat) (d : D) {id : Nat} {ops : Array Oper} {y : Code} (hm : P.prog.follows .mixedOrders = true) (hd : dstsOk N ops = true)
    (h : ∀ K : St → List RecX → Prop, (∀ st' rs, bernB ops rs = true → (∀ k ∈ ks, st'.get k = st.get k) → st'.σ = st.σ → Le (st'.get t) d → K st' rs) → runOps P ops ops.toList st [] K) (hy : WP P ent N y Q ⟨(t, d) :: Go.Id.keep ks st.F, st.σ⟩) :
    WP P ent N (.seq (.region id ops true) y) Q st := WP.seqMeetDrawn ks t d hm hd rfl h hy

/-- A loop: what it turns (V, T) beside what it keeps. -/
theorem WP.lp {X : Type} (ks : List Nat) (V : X → List (Nat × D)) (T : X → List (Nat × Blk)) (μ : X → Nat) {F0 : List (Nat × D)} {c : Code} (hF : Go.Id.keep ks st.F = F0)
    (h : ∀ x, WP P ent N c (thenQ (fun st' => ∃ y, μ y < μ x ∧ Weak ent st' ⟨V y ++ F0, T y⟩) Q) ⟨V x ++ F0, T x⟩) (x : X) (h0 : Weak ent st ⟨V x ++ F0, T x⟩) : WP P ent N (.loop c) Q st :=
  WP.loop (fun x => ⟨V x ++ F0, T x⟩) μ h x h0

/-- Ways that meet. -/
theorem WP.meet {x y : Code} (S : St) (h : WP P ent N x (thenQ (fun st' => Weak ent st' S) Q) st) (hy : WP P ent N y Q S) : WP P ent N (.seq x y) Q st :=
  WP.seq (WP.mono h fun e st' hq => by
    cases e with
    | normal => exact WP.weak hq hy
    | _ => exact hq)

theorem WP.meetQ {x y : Code} (S : St) (h : WP P ent N x (thenQ (fun st' => Weak ent st' S) Q) st) (hy : WP P ent N y Q S) : WP P ent N x (thenQ (fun st' => WP P ent N y Q st') Q) st :=
  WP.mono h fun e st' hq => by
    cases e with
    | normal => exact WP.weak hq hy
    | _ => exact hq

theorem WP.meetN {c : Code} (S : St) (h : WP P ent N c (fun e st' => e = .normal ∧ Weak ent st' S) st) (hn : ∀ st', Weak ent st' S → Q .normal st') : WP P ent N c Q st :=
  WP.mono h fun e st' ⟨he, hw⟩ => he ▸ hn st' hw

def scopeQ (Q : Exit → St → Prop) : Exit → St → Prop := fun e st' =>
  match e with
  | .goto _ => False
  | e => Q e st'

/-- A scope through which no jump goes. -/
theorem WP.scope {c : Code} (h : WP P ent N c (scopeQ Q) st) : WP P ent N (.scope c) Q st := fun E a w hr =>
  wp_scope_straight (wp_mono (h E a w hr) fun e a' w' ⟨st', hq, hr'⟩ => by
    cases e with
    | goto l => exact hq.elim
    | _ => exact ⟨st', hq, hr'⟩)

/-- To a frame and no store. -/
theorem Weak.nil {F' : List (Nat × D)} (h : ∀ p ∈ F', Le (st.get p.1) p.2) (hc : ∀ p ∈ F', Clo (fun _ => False) p.2) : Weak [] st ⟨F', []⟩ :=
  Weak.store h (by simp) (fun p hp => (hc p hp).mono fun _ h => h.elim) (by simp) (by simp)

end

theorem lt_of_q {k n : Nat} (h : decide ((k : Int) < (n : Int)) = true) : k < n := by simpa using h
theorem ge_of_q {k n : Nat} (h : decide ((k : Int) < (n : Int)) = false) : n ≤ k := by simpa using h
theorem getE {α : Type} {l : List α} {k : Nat} (h : k < l.length) : l[k]? = some l[k] := List.getElem?_eq_getElem h
theorem dropE {α : Type} {l : List α} {k : Nat} (h : k < l.length) : l.drop k = l[k] :: l.drop (k + 1) := List.drop_eq_getElem_cons h
theorem dropN {α : Type} {l : List α} {k : Nat} (h : l.length ≤ k) : l.drop k = [] := List.drop_eq_nil_of_le h
theorem wrapS {k n : Nat} (h : k < n) (hn : n ≤ 140737488355328) : IntKind.wrap .i64 ((k : Int) + 1) = ((k + 1 : Nat) : Int) := by
  rw [wrap_i64 (by omega) (by omega)]; rfl

theorem LN : (∀ (α : Type) (l : List α), (1 ≤ (l.length : Int)) = (l ≠ [])) ∧ (∀ (α : Type) (l : List α), ((l.length : Int) < 1) = (l = [])) ∧ (∀ (α : Type) (l : List α), ((l.length : Int) = 0) = (l = [])) ∧
    (∀ (α : Type) (l : List α), ((l.length : Int) > 0) = (l ≠ [])) ∧ (∀ (α : Type) (l : List α), ((l.length : Int) ≤ 0) = (l = [])) := by
  refine ⟨?_, ?_, ?_, ?_, ?_⟩ <;> intro α l <;> cases l <;> simp <;> omega

/-- Data one by one below others. -/
def Les : List D → List D → Prop
  | [], [] => True
  | a :: l, b :: m => Le a b ∧ Les l m
  | _, _ => False

theorem Les.at : ∀ {l m : List D}, Les l m → l.length = m.length ∧ ∀ (i : Nat) a b, l[i]? = some a → m[i]? = some b → Le a b
  | [], [], _ => ⟨rfl, fun i a b h => by cases h⟩
  | a :: l, b :: m, h => by
    obtain ⟨h1, h2⟩ := Les.at h.2
    refine ⟨by simp [h1], fun i x y hx hy => ?_⟩
    cases i with
    | zero => simp at hx hy; subst hx; subst hy; exact h.1
    | succ i => simp at hx hy; exact h2 i x y hx hy
  | [], _ :: _, h => h.elim
  | _ :: _, [], h => h.elim

theorem CallE.weak {P : Prg} {k : FuncId} {args args' : List D} {ins outs : List (Nat × Blk)} {val val' : D} (h : CallE P k args ins val outs) (ha : Les args' args) (hv : Le val val') : CallE P k args' ins val' outs := by
  obtain ⟨hl, hle⟩ := ha.at
  refine ⟨h.1, fun M γ w vs hst hlen hr => (h.2 M γ w vs hst (by omega) (fun i d v hd hv => ?_)).mono ?_⟩
  · have hi : i < args'.length := by rw [hl]; exact (List.getElem?_eq_some_iff.1 hd).1
    exact hle i _ _ (List.getElem?_eq_getElem hi) hd _ _ _ _ (hr i _ v (List.getElem?_eq_getElem hi) hv)
  · rintro e w' ⟨v, γ', rfl, q1, q2, q3⟩
    exact ⟨v, γ', rfl, q1, q2, hv _ _ _ _ q3⟩

/-- A pure call whose contract reads less of its arguments. -/
theorem CallK.pureLe {P : Prg} {fo : D} {args : List D} {σ : List (Nat × Blk)} {K : D → Rec → Prop} {k : FuncId} {first cap as : List D} {val : D} (h : CallP P k as val) (hfo : fo = .fn (.func k) first cap) (has : Les ((first ++ args ++ cap).map fg) as)
    (hcl : ∀ d ∈ (first ++ args ++ cap).map fg, Clo (fun _ => False) d) (hk : K val ⟨[], []⟩) : CallK P fo args σ K :=
  CallK.pure (CallE.weak h has (Le.refl _)) hfo rfl hcl hk

theorem getM {α β : Type} {f : α → β} {l : List α} {k : Nat} (h : k < l.length) : (l.map f)[k]? = some (f l[k]) := by simp [h]
theorem takeS {α : Type} {l : List α} {k : Nat} (h : k < l.length) : l.take (k + 1) = l.take k ++ [l[k]] := by
  rw [List.take_succ_eq_append_getElem h]
theorem nl_false {α : Type} {nl : Bool} {l : List α} {k : Nat} (h : nl = true → l = []) (hk : k < l.length) : nl = false := by
  cases nl
  · rfl
  · rw [h rfl] at hk; simp at hk
theorem lt_of_qi {k n : Nat} (h : decide ((k : Int) < (n : Int)) = true) : k < n := lt_of_q h

end Go.Id

/-
  Plain: a nil slice may be appended to in place; contracts at any names. Conditions: as each law says.
-/
set_option linter.unusedSimpArgs false
set_option linter.unusedVariables false
namespace Go.Id
open Go

def UpD (t sz : Nat) (d d' : D) : Prop := d' = d ∨ ∃ z, d = .slice z true [] none ∧ d' = .slice sz true [] (some t)
def UpL (t sz : Nat) : List D → List D → Prop
  | [], [] => True
  | d :: l, d' :: l' => UpD t sz d d' ∧ UpL t sz l l'
  | _, _ => False
def UpF (t sz : Nat) : List (Nat × D) → List (Nat × D) → Prop
  | [], [] => True
  | p :: l, p' :: l' => p'.1 = p.1 ∧ UpD t sz p.2 p'.2 ∧ UpF t sz l l'
  | _, _ => False
def UpB (t sz : Nat) : Blk → Blk → Prop
  | .box T cs, .box T' cs' => T' = T ∧ UpL t sz cs cs'
  | b, b' => b' = b
def UpS (t sz : Nat) : List (Nat × Blk) → List (Nat × Blk) → Prop
  | [], [] => True
  | p :: l, p' :: l' => p'.1 = p.1 ∧ UpB t sz p.2 p'.2 ∧ UpS t sz l l'
  | _, _ => False

theorem UpL.at {t sz : Nat} : ∀ {l l' : List D}, UpL t sz l l' → l'.length = l.length ∧ ∀ (i : Nat) d', l'[i]? = some d' → ∃ d, l[i]? = some d ∧ UpD t sz d d'
  | [], [], _ => ⟨rfl, fun i d h => by simp at h⟩
  | d :: l, d' :: l', h => by
    obtain ⟨h1, h2⟩ := UpL.at h.2
    refine ⟨by simp [h1], fun i x hx => ?_⟩
    cases i with
    | zero => simp at hx; subst hx; exact ⟨d, rfl, h.1⟩
    | succ i => simp at hx; simpa using h2 i x hx
  | [], _ :: _, h => h.elim
  | _ :: _, [], h => h.elim

theorem UpF.lk {t sz : Nat} : ∀ {l l' : List (Nat × D)}, UpF t sz l l' → ∀ k, (lk l k = none ∧ Go.Id.lk l' k = none) ∨ ∃ d d', Go.Id.lk l k = some d ∧ Go.Id.lk l' k = some d' ∧ UpD t sz d d'
  | [], [], _, k => .inl ⟨rfl, rfl⟩
  | (i, d) :: l, (i', d') :: l', h, k => by
    obtain ⟨h1, h2, h3⟩ := h
    simp only at h1; subst h1
    simp only [Go.Id.lk]
    split
    · exact .inr ⟨_, _, rfl, rfl, h2⟩
    · exact UpF.lk h3 k
  | [], _ :: _, h, _ => h.elim
  | _ :: _, [], h, _ => h.elim

theorem UpS.lk {t sz : Nat} : ∀ {l l' : List (Nat × Blk)}, UpS t sz l l' → ∀ k, (Go.Id.lk l k = none ∧ Go.Id.lk l' k = none) ∨ ∃ d d', Go.Id.lk l k = some d ∧ Go.Id.lk l' k = some d' ∧ UpB t sz d d'
  | [], [], _, k => .inl ⟨rfl, rfl⟩
  | (i, d) :: l, (i', d') :: l', h, k => by
    obtain ⟨h1, h2, h3⟩ := h
    simp only at h1; subst h1
    simp only [Go.Id.lk]
    split
    · exact .inr ⟨_, _, rfl, rfl, h2⟩
    · exact UpS.lk h3 k
  | [], _ :: _, h, _ => h.elim
  | _ :: _, [], h, _ => h.elim

theorem UpD.rep {t sz : Nat} {M M' : Nat → Nat → Prop} {γ γ' : Nat → Option G} {w : World} (hv : Evo M γ w M' γ' w) {e : TypeId} (ht : γ' t = some (.tip sz e (.slice none 0 0) 0)) {d d' : D} (h : UpD t sz d d') {v : Value} (hr : Rep M γ w d v) : Rep M' γ' w d' v := by
  rcases h with rfl | ⟨z, rfl, rfl⟩
  · exact hr.evo hv
  · have hv' : v = .slice none 0 0 := by cases hr; rfl
    subst hv'
    refine .nilslice fun t' e' => ?_
    cases e'
    exact ⟨sz, e, _, 0, ht, Nat.le_refl _, fun _ => rfl⟩

/-- A nil slice, from here on with a name of its own. -/
theorem Weak.ghost {ent : List Nat} {st : St} (t : Nat) (e : TypeId) (sz : Nat) {F' : List (Nat × D)} {σ' : List (Nat × Blk)} (hn : lk st.σ t = none) (hF : UpF t sz st.F F') (hσ : UpS t sz st.σ σ') : Weak ent st ⟨F', (t, .tip e sz 0) :: σ'⟩ := by
  rintro P E N a w ⟨γ, h1, h2, h3, h4, h5, h6⟩
  let g0 : G := .tip sz e (.slice none 0 0) 0
  have hγt : γ t = none := by
    rcases h2.names t with ⟨blk, g, q1, _⟩ | ⟨_, q⟩
    · rw [hn] at q1; cases q1
    · exact q
  have hM : ∀ B off, Mall E.M (upd γ t (some g0)) B off ↔ Mall E.M γ B off := by
    intro B off
    constructor
    · rintro (hm | ⟨b, g, hg, hw⟩)
      · exact .inl hm
      · by_cases hb : b = t
        · subst hb; rw [upd_same] at hg; cases hg; cases hw.1
        · rw [upd_other _ _ hb] at hg; exact .inr ⟨b, g, hg, hw⟩
    · rintro (hm | ⟨b, g, hg, hw⟩)
      · exact .inl hm
      · have hb : b ≠ t := fun e => by subst e; rw [hγt] at hg; cases hg
        exact .inr ⟨b, g, by rw [upd_other _ _ hb]; exact hg, hw⟩
  have hnames : ∀ b g, γ b = some g → ∃ g', upd γ t (some g0) b = some g' ∧ g.le g' := by
    intro b g hg
    have hb : b ≠ t := fun e => by subst e; rw [hγt] at hg; cases hg
    exact ⟨g, by rw [upd_other _ _ hb]; exact hg, G.le_refl g⟩
  have hev : Evo (Mall E.M γ) γ w (Mall E.M (upd γ t (some g0))) (upd γ t (some g0)) w := ⟨fun _ _ _ _ h => h, fun B off h _ => (hM B off).1 h, hnames⟩
  have hin : ∀ b g, upd γ t (some g0) b = some g → (∃ B, g.block = some B) → γ b = some g := by
    rintro b g hg ⟨B, hB⟩
    by_cases hb : b = t
    · subst hb; rw [upd_same] at hg; cases hg; cases hB
    · rw [upd_other _ _ hb] at hg; exact hg
  refine ⟨upd γ t (some g0), h1, ⟨fun b => ?_, fun b b' g g' B q1 q2 q3 q4 => h2.dist b b' g g' B (hin _ _ q1 ⟨_, q3⟩) (hin _ _ q2 ⟨_, q4⟩) q3 q4, h2.outer, fun b g B off q1 q2 => h2.apart b g B off (hin _ _ q1 ⟨_, q2⟩) q2, h2.inv, fun b g B q1 q2 => h2.low b g B (hin _ _ q1 ⟨_, q2⟩) q2, h2.big⟩, ?_, h4, h5, fun k => ?_⟩
  · by_cases hb : b = t
    · subst hb
      exact .inl ⟨.tip e sz 0, g0, by simp [lk], upd_same _ _ _, .tip [] ⟨by simp, .inl ⟨rfl, rfl⟩⟩⟩
    · rw [upd_other _ _ hb]
      simp only [lk, if_neg hb]
      rcases h2.names b with ⟨blk, g, q1, q2, q3⟩ | ⟨q1, q2⟩
      · rcases hσ.lk b with ⟨r1, _⟩ | ⟨d, d', r1, r2, r3⟩
        · rw [q1] at r1; cases r1
        · rw [q1] at r1; cases r1
          refine .inl ⟨d', g, r2, q2, ?_⟩
          cases q3 with
          | @box cs B vs T fz hB hl hh hr =>
            cases d' with
            | box T' cs' =>
              obtain ⟨rfl, hu⟩ := r3
              obtain ⟨hlen, hat⟩ := hu.at
              exact .box vs _ fz hB (by omega) hh (fun i x v hx hv => by
                obtain ⟨d0, s1, s2⟩ := hat i x hx
                exact s2.rep hev (upd_same _ _ _) (hr i d0 v s1 hv))
            | _ => cases r3
          | arr vs T fz hB hl hh hr hf => simp only [UpB] at r3; subst r3; exact (BlkRel.arr vs T fz hB hl hh hr hf).evo hev (fun _ _ => rfl)
          | tip xs ho => simp only [UpB] at r3; subst r3; exact .tip xs ho
          | iter hB => simp only [UpB] at r3; subst r3; exact .iter hB
          | dead hB => simp only [UpB] at r3; subst r3; exact .dead hB
      · rcases hσ.lk b with ⟨_, r2⟩ | ⟨d, d', r1, r2, r3⟩
        · exact .inr ⟨r2, q2⟩
        · rw [q1] at r1; cases r1
  · refine ⟨h3.os, h3.tape, h3.output, h3.size, h3.cell, fun B off q1 q2 => h3.wr B off ((hM B off).1 q1) q2, fun b g hg => ?_, h3.block, fun b g B q1 q2 q3 => h3.old b g B (hin _ _ q1 ⟨_, q2⟩) q2 q3⟩
    obtain ⟨g', q1, q2⟩ := h3.names b g hg
    obtain ⟨g'', q3, q4⟩ := hnames b g' q1
    exact ⟨g'', q3, G.le_trans q2 q4⟩
  · have h0 := h6 k
    rcases hF.lk k with ⟨r1, r2⟩ | ⟨d, d', r1, r2, r3⟩
    · simp only [St.get, r2, Option.getD_none]; exact .junk _
    · simp only [St.get, r1, r2, Option.getD_some] at h0 ⊢
      exact r3.rep hev (upd_same _ _ _) h0

def ArD (b sz : Nat) (es : List (List D)) (d d' : D) : Prop := (d' = d ∧ Clo (fun i => i ≠ b) d) ∨ (d = .arr b sz es.length ∧ d' = .slice sz false es (some b))
def ArF (b sz : Nat) (es : List (List D)) : List (Nat × D) → List (Nat × D) → Prop
  | [], [] => True
  | p :: l, p' :: l' => p'.1 = p.1 ∧ ArD b sz es p.2 p'.2 ∧ ArF b sz es l l'
  | _, _ => False
theorem ArF.lk {b sz : Nat} {es : List (List D)} : ∀ {l l' : List (Nat × D)}, ArF b sz es l l' → ∀ k, (Go.Id.lk l k = none ∧ Go.Id.lk l' k = none) ∨ ∃ d d', Go.Id.lk l k = some d ∧ Go.Id.lk l' k = some d' ∧ ArD b sz es d d'
  | [], [], _, k => .inl ⟨rfl, rfl⟩
  | (i, d) :: l, (i', d') :: l', h, k => by
    obtain ⟨h1, h2, h3⟩ := h
    simp only at h1; subst h1
    simp only [Go.Id.lk]
    split
    · exact .inr ⟨_, _, rfl, rfl, h2⟩
    · exact ArF.lk h3 k
  | [], _ :: _, h, _ => h.elim
  | _ :: _, [], h, _ => h.elim

theorem Rep.renArr {M M' : Nat → Nat → Prop} {γ γ' : Nat → Option G} {w : World} {b : Nat} (hM : ∀ B off, M' B off → M B off) (hγ : ∀ i, i ≠ b → γ' i = γ i) {d : D} {v : Value} (h : Rep M γ w d v) (hd : Clo (fun i => i ≠ b) d) : Rep M' γ' w d v :=
  (h.restrict hγ hd).sub hM

theorem flat_get {sz : Nat} : ∀ (es : List (List D)), (∀ e ∈ es, e.length = sz) → ∀ (i j : Nat) x d, es[i]? = some x → x[j]? = some d → es.flatten[i * sz + j]? = some d
  | [], _, i, j, x, d, h, _ => by simp at h
  | e :: es, he, i, j, x, d, h, hd => by
    have hl : e.length = sz := he e (by simp)
    rw [List.flatten_cons]
    cases i with
    | zero =>
      simp at h; subst h
      have := (List.getElem?_eq_some_iff.1 hd).1
      rw [Nat.zero_mul, Nat.zero_add, List.getElem?_append_left this]; exact hd
    | succ i =>
      simp at h
      rw [List.getElem?_append_right (by rw [hl, Nat.succ_mul]; omega), hl]
      have : (i + 1) * sz + j - sz = i * sz + j := by rw [Nat.succ_mul]; omega
      rw [this]
      exact flat_get es (fun x hx => he x (by simp [hx])) i j x d h hd

/-- A literal's row, from here on appended to: nobody else names it. -/
theorem Weak.arrTip {ent : List Nat} {st : St} (b : Nat) (e : TypeId) (sz : Nat) (es : List (List D)) (k0 : Nat) {F' : List (Nat × D)} {σ' : List (Nat × Blk)} (hk : st.get k0 = .arr b sz es.length) (hb : lk st.σ b = some (.arr e es.flatten)) (hes : ∀ x ∈ es, x.length = sz) (hent : b ∉ ent)
    (hF : ArF b sz es st.F F') (hec : ∀ x ∈ es, ∀ d ∈ x, Clo (fun i => i ≠ b) d) (hσ : ∀ i, i ≠ b → lk σ' i = lk st.σ i) (hσb : lk σ' b = some (.tip e sz es.length)) (hσc : ∀ p ∈ st.σ, p.1 ≠ b → BClo (fun i => i ≠ b) p.2) : Weak ent st ⟨F', σ'⟩ := by
  rintro P E N a w ⟨γ, h1, h2, h3, h4, h5, h6⟩
  obtain ⟨g, q1, q2⟩ := h2.hit hb
  have hflen := flat_len es hes
  cases q2 with
  | @arr _ B cap vs _ fz hB hl hh hr hf =>
    obtain ⟨rfl, hf2, hf3⟩ := hf
    have hcap : es.length = cap := by
      have h0 := h6 k0
      rw [hk] at h0
      generalize a.tmps.getD k0 undef = v0 at h0
      cases h0 with
      | arr hγ hn hfull => rw [q1] at hγ; cases hγ; exact hfull rfl
    have hvs : vs.size = es.length * sz := by omega
    let v : Value := .slice (some ⟨B, 0, none⟩) es.length cap
    let g' : G := .tip sz e v es.length
    have hM : ∀ B' off, Mall E.M (upd γ b (some g')) B' off → Mall E.M γ B' off := by
      rintro B' off (hm | ⟨i, gi, hg, hw⟩)
      · exact .inl hm
      · by_cases hi : i = b
        · subst hi; rw [upd_same] at hg; cases hg
          have := hw.1
          simp only [v, Value.ownBlock, Option.some.injEq] at this
          exact .inr ⟨i, _, q1, this.symm⟩
        · rw [upd_other _ _ hi] at hg; exact .inr ⟨i, gi, hg, hw⟩
    have hother : ∀ i, i ≠ b → upd γ b (some g') i = γ i := fun i hi => upd_other _ _ hi
    have hback : ∀ i gi, upd γ b (some g') i = some gi → ∃ g0, γ i = some g0 ∧ g0.block = gi.block := by
      intro i gi hg
      by_cases hi : i = b
      · subst hi; rw [upd_same] at hg; cases hg; exact ⟨_, q1, rfl⟩
      · rw [hother i hi] at hg; exact ⟨gi, hg, rfl⟩
    have move : ∀ {d : D} {u : Value}, Rep (Mall E.M γ) γ w d u → Clo (fun i => i ≠ b) d → Rep (Mall E.M (upd γ b (some g'))) (upd γ b (some g')) w d u :=
      fun hd hc => (hd.restrict hother hc).sub hM
    refine ⟨upd γ b (some g'), h1, ⟨fun i => ?_, fun i i' gi gi' B' a1 a2 a3 a4 => ?_, h2.outer, fun i gi B' off a1 a2 => ?_, h2.inv, fun i gi B' a1 a2 => ?_, h2.big⟩, ?_, h4, h5, fun k => ?_⟩
    · by_cases hi : i = b
      · subst hi
        refine .inl ⟨_, g', hσb, upd_same _ _ _, .tip vs.toList ⟨by simp [hvs], .inr ⟨B, cap, vs, rfl, Nat.zero_le _, hB, Nat.le_of_eq hcap, hf3, by rw [← hcap]; exact hvs, ?_⟩⟩⟩
        rw [List.take_of_length_le (by simp; omega)]
      · show (∃ blk g, lk σ' i = some blk ∧ _) ∨ (lk σ' i = none ∧ _)
        rw [hσ i hi, hother i hi]
        rcases h2.names i with ⟨blk, gi, a1, a2, a3⟩ | ⟨a1, a2⟩
        · refine .inl ⟨blk, gi, a1, a2, ?_⟩
          have hc := hσc _ (lk_mem _ _ _ a1) hi
          exact (a3.restrict hother hc).evo ⟨fun _ _ _ _ h => h, fun B' off h _ => hM B' off h, fun _ g h => ⟨g, h, G.le_refl g⟩⟩ (fun _ _ => rfl)
        · exact .inr ⟨a1, a2⟩
    · obtain ⟨g1, b1, b2⟩ := hback _ _ a1
      obtain ⟨g2, b3, b4⟩ := hback _ _ a2
      exact h2.dist i i' g1 g2 B' b1 b3 (b2.trans a3) (b4.trans a4)
    · obtain ⟨g1, b1, b2⟩ := hback _ _ a1
      exact h2.apart i g1 B' off b1 (b2.trans a2)
    · obtain ⟨g1, b1, b2⟩ := hback _ _ a1
      exact h2.low i g1 B' b1 (b2.trans a2)
    · refine ⟨h3.os, h3.tape, h3.output, h3.size, h3.cell, fun B' off a1 a2 => h3.wr B' off (hM B' off a1) a2, fun i gi hg => ?_, h3.block, fun i gi B' a1 a2 a3 => ?_⟩
      · have hi : i ≠ b := fun e => hent (e ▸ h1 i gi hg)
        obtain ⟨g1, b1, b2⟩ := h3.names i gi hg
        exact ⟨g1, (hother i hi).trans b1, b2⟩
      · obtain ⟨g1, b1, b2⟩ := hback _ _ a1
        exact h3.old i g1 B' b1 (b2.trans a2) a3
    · have h0 := h6 k
      rcases hF.lk k with ⟨r1, r2⟩ | ⟨d, d', r1, r2, r3⟩
      · simp only [St.get, r2, Option.getD_none]; exact .junk _
      · simp only [St.get, r1, r2, Option.getD_some] at h0 ⊢
        rcases r3 with ⟨rfl, hc⟩ | ⟨rfl, rfl⟩
        · exact move h0 hc
        · generalize a.tmps.getD k undef = v0 at h0
          cases h0 with
          | arr hγ hn hfull =>
            rw [q1] at hγ; cases hγ
            refine .slice vs.toList hes (by simp [hvs]) (fun _ => rfl) (fun j u hu => ?_) (fun i j x d u c1 c2 c3 => ?_) hn (fun t ht => ?_)
            · have hu' : vs[j]? = some u := by simpa using hu
              have hj : j < es.length * sz := by have := (Array.getElem?_eq_some_iff.1 hu').1; omega
              refine ⟨by rw [cell_of_row w B (0 + j) vs e _ hB, Nat.zero_add]; exact hu', ?_, (hh j u hu').1⟩
              rintro (hm | ⟨i, gi, hg, hw⟩)
              · exact h2.apart b _ B _ q1 rfl hm
              · by_cases hi : i = b
                · subst hi; rw [upd_same] at hg; cases hg
                  have := hw.2; simp only [Nat.zero_add] at this; omega
                · rw [hother i hi] at hg
                  exact hi (h2.dist i b gi _ B hg q1 (G.wr_block hw) rfl)
            · exact move (hr (i * sz + j) d u (flat_get es hes i j x d c1 c2) (by simpa using c3)) (hec x (List.mem_of_getElem? c1) d (List.mem_of_getElem? c2))
            · cases ht
              exact ⟨sz, e, v, es.length, upd_same _ _ _, Nat.le_refl _, fun _ => rfl⟩

/-- Names at will. -/
theorem ren_ex (l : List Nat) (hl : l.Nodup) : ∃ f g : Nat → Nat, (∀ n, g (f n) = n) ∧ ∀ (i : Nat) x, l[i]? = some x → f i = x := by
  obtain ⟨M, hM⟩ : ∃ M, ∀ x ∈ l, x < M := ⟨l.foldr (fun a b => a + b + 1) 0, by
    intro x hx
    induction l with
    | nil => cases hx
    | cons a l ih =>
      simp only [List.foldr_cons]
      rcases List.mem_cons.1 hx with rfl | hx
      · omega
      · have := ih (List.nodup_cons.1 hl).2 hx; omega⟩
  refine ⟨fun i => (l[i]?).getD (i + M), fun n => if n ∈ l then l.idxOf n else n - M, fun n => ?_, fun i x hx => by simp [hx]⟩
  by_cases hn : n < l.length
  · have : (l[n]?).getD (n + M) = l[n] := by simp [hn]
    simp only [this]
    rw [if_pos (List.getElem_mem hn)]
    exact hl.idxOf_getElem n hn
  · have : (l[n]?).getD (n + M) = n + M := by rw [List.getElem?_eq_none (by omega)]; rfl
    simp only [this]
    rw [if_neg (fun h => by have := hM _ h; omega)]
    omega

end Go.Id

/-
  Plain: a reading of the arguments of a row is a reading on data. Conditions: nothing may be written yet; the types are bools, integers, strings, slices and structs.
-/
set_option linter.unusedVariables false
namespace Go.Id
open Go

section
variable {H : Type} {enc : TypeId × Value → H} {P : Program} {w : World} {M : Nat → Nat → Prop} {γ : Nat → Option G} {base : Nat} {spare : Nat → Bool} {held : Bool}

/-- Cells that read as data. -/
def CRep (M : Nat → Nat → Prop) (γ : Nat → Option G) (w : World) (ds : List D) (cs : List Value) : Prop :=
  cs.length = ds.length ∧ ∀ (i : Nat) d v, ds[i]? = some d → cs[i]? = some v → v.oneCell' = true ∧ Rep M γ w d v

theorem CRep.nil : CRep M γ w [] [] := ⟨rfl, fun i d v h => by simp at h⟩
theorem CRep.one {d : D} {v : Value} (h : v.oneCell' = true) (h' : Rep M γ w d v) : CRep M γ w [d] [v] :=
  ⟨rfl, fun i d' v' h1 h2 => by
    match i with
    | 0 => simp at h1 h2; subst h1; subst h2; exact ⟨h, h'⟩
    | i + 1 => simp at h1⟩
theorem CRep.append {ds es : List D} {cs bs : List Value} (h : CRep M γ w ds cs) (k : CRep M γ w es bs) : CRep M γ w (ds ++ es) (cs ++ bs) := by
  refine ⟨by simp [h.1, k.1], fun i d v h1 h2 => ?_⟩
  by_cases hi : i < ds.length
  · rw [List.getElem?_append_left hi] at h1
    rw [List.getElem?_append_left (by rw [h.1]; exact hi)] at h2
    exact h.2 i d v h1 h2
  · rw [List.getElem?_append_right (by omega)] at h1
    rw [List.getElem?_append_right (by rw [h.1]; omega), h.1] at h2
    exact k.2 _ d v h1 h2

/-- What the reader lets through of a type is data of a form. -/
def Rd (enc : TypeId × Value → H) (P : Program) (w : World) (M : Nat → Nat → Prop) (γ : Nat → Option G) (base : Nat) (spare : Nat → Bool) (held : Bool) (t : TypeId) (A : List D → Prop) : Prop :=
  ∀ n cs x, DataW.trod enc P w base spare held n t cs = some x → ∃ ds, A ds ∧ CRep M γ w ds cs

theorem Rd.mono {t : TypeId} {A B : List D → Prop} (h : Rd enc P w M γ base spare held t A) (hAB : ∀ ds, A ds → B ds) : Rd enc P w M γ base spare held t B :=
  fun n cs x hx => let ⟨ds, ha, hc⟩ := h n cs x hx; ⟨ds, hAB ds ha, hc⟩
theorem rd_bool {t : TypeId} (ht : P.underlying t = some .bool) : Rd enc P w M γ base spare held t (fun ds => ∃ b, ds = [.bool b]) := by
  intro n cs x h
  obtain ⟨b, rfl, _⟩ := DataW.trod_bool ht h
  exact ⟨_, ⟨b, rfl⟩, .one rfl (.bool b)⟩
theorem rd_int {t : TypeId} {k : IntKind} (ht : P.underlying t = some (.int k)) : Rd enc P w M γ base spare held t (fun ds => ∃ n, ds = [.int k n] ∧ (Lit.int k n).wf = true) := by
  intro n cs x h
  obtain ⟨b, rfl, _, hw⟩ := DataW.trod_int ht h
  exact ⟨_, ⟨b, rfl, hw⟩, .one rfl (.int k b)⟩
theorem rd_str {t : TypeId} (ht : P.underlying t = some .string) : Rd enc P w M γ base spare held t (fun ds => ∃ s, ds = [.str s] ∧ s.length ≤ maxLen) := by
  intro n cs x h
  obtain ⟨b, rfl, _, hw⟩ := DataW.trod_string ht h
  exact ⟨_, ⟨_, rfl, by simpa using hw⟩, .one rfl (.str b)⟩

theorem cell_spot {a : Addr} {i : Nat} {v : Value} {w : World} (h : w.cell? (a.add i) = some v) : (a.add i).spot = none := by
  cases hsp : (a.add i).spot with
  | none => rfl
  | some s =>
    simp only [World.cell?] at h
    split at h
    · simp [hsp] at h
    · cases h
theorem add_eq {a : Addr} {i : Nat} (h : (a.add i).spot = none) : a.add i = ⟨a.block, a.off + i, none⟩ := by
  unfold Addr.add at h ⊢
  split
  · rename_i h0
    subst h0
    rw [if_pos rfl] at h
    cases a
    simp_all
  · rfl
theorem cells_each {a : Addr} {n : Nat} {cs : List Value} (h : w.cells? base a n = some cs) : cs.length = n ∧ ∀ (j : Nat) v, cs[j]? = some v → w.cell? ⟨a.block, a.off + j, none⟩ = some v := by
  unfold World.cells? at h
  split at h
  · have hl : cs.length = n := by simpa using mapM_some_length h
    refine ⟨hl, fun j v hv => ?_⟩
    have hj : j < n := by rw [← hl]; exact (List.getElem?_eq_some_iff.1 hv).1
    have e : w.cell? (a.add j) = some v := by
      rw [mapM_some_get h j j (List.getElem?_range hj), hv]
    rw [add_eq (cell_spot e)] at e
    exact e
  · cases h
theorem rd_slice {t e : TypeId} {A : List D → Prop} (ht : P.underlying t = some (.slice e)) (hp : 0 < P.cellsOf e) (hM : ∀ B off, ¬ M B off) (he : Rd enc P w M γ base spare held e A) :
    Rd enc P w M γ base spare held t (fun ds => ∃ nl es, ds = [.slice (P.cellsOf e) nl es none] ∧ (nl = true → es = []) ∧ es.length ≤ maxLen ∧ ∀ x ∈ es, A x) := by
  intro n cs x h
  rcases DataW.trod_slice ht h with ⟨rfl, _⟩ | ⟨a, len, cap, elems, rest, m, _, rfl, _, hb, hl, hm, hlen, hel, _, _⟩
  · exact ⟨_, ⟨true, [], rfl, fun _ => rfl, Nat.zero_le _, by simp⟩, .one rfl (.nilslice (TipOk.none _ _ _))⟩
  · have each : ∀ k, k ≤ len → ∃ (es : List (List D)) (vs : List Value), es.length = k ∧ (∀ x ∈ es, A x ∧ x.length = P.cellsOf e) ∧ vs.length = k * P.cellsOf e ∧
        (∀ (j : Nat) v, vs[j]? = some v → w.cell? ⟨a.block, a.off + j, none⟩ = some v ∧ v.oneCell' = true) ∧
        ∀ (i j : Nat) x d v, es[i]? = some x → x[j]? = some d → vs[i * P.cellsOf e + j]? = some v → Rep M γ w d v := by
      intro k
      induction k with
      | zero => intro _; exact ⟨[], [], rfl, by simp, by simp, by simp, by simp⟩
      | succ k ih =>
        intro hk
        obtain ⟨es, vs, h1, h2, h3, h4, h5⟩ := ih (by omega)
        have hx : ∃ y, elems[k]? = some y := ⟨elems[k], List.getElem?_eq_getElem (by omega)⟩
        obtain ⟨y, hy⟩ := hx
        have hk' := hel k (by omega)
        rw [hy, Option.bind_eq_some_iff] at hk'
        obtain ⟨cs, hcs, htr⟩ := hk'
        obtain ⟨ds, hA, hc, hr⟩ := he m cs y htr
        obtain ⟨hcl, hcc⟩ := cells_each hcs
        have hdl : ds.length = P.cellsOf e := hc.symm.trans hcl
        have hadd : 0 < cs.length → a.add (k * P.cellsOf e) = ⟨a.block, a.off + k * P.cellsOf e, none⟩ := by
          intro h0
          refine add_eq ?_
          have hg := hcs
          unfold World.cells? at hg
          split at hg
          · have := mapM_some_get hg 0 0 (List.getElem?_range hp)
            rw [List.getElem?_eq_getElem h0] at this
            have h7 := cell_spot this
            have h8 : (a.add (k * P.cellsOf e)).add 0 = a.add (k * P.cellsOf e) := by simp [Addr.add]
            rw [h8] at h7
            exact h7
          · cases hg
        have hA' := hadd (by omega)
        rw [hA'] at hcc
        refine ⟨es ++ [ds], vs ++ cs, by simp [h1], ?_, by rw [List.length_append, h3, hcl, Nat.add_mul, Nat.one_mul], ?_, ?_⟩
        · intro x hx
          rcases List.mem_append.1 hx with hx | hx
          · exact h2 x hx
          · rw [List.mem_singleton.1 hx]; exact ⟨hA, hdl⟩
        · intro j v hv
          by_cases hj : j < vs.length
          · rw [List.getElem?_append_left hj] at hv
            exact h4 j v hv
          · rw [List.getElem?_append_right (by omega)] at hv
            have hj2 : j - vs.length < cs.length := (List.getElem?_eq_some_iff.1 hv).1
            have h9 := hcc _ _ hv
            have e9 : a.off + k * P.cellsOf e + (j - vs.length) = a.off + j := by omega
            rw [e9] at h9
            exact ⟨h9, (hr (j - vs.length) ds[j - vs.length] v (List.getElem?_eq_getElem (by omega)) hv).1⟩
        · intro i j x d v hi hj hv
          by_cases hik : i < k
          · rw [List.getElem?_append_left (by omega)] at hi
            have hxl := (h2 x (List.mem_of_getElem? hi)).2
            have hjl : j < x.length := (List.getElem?_eq_some_iff.1 hj).1
            have : i * P.cellsOf e + j < vs.length := by
              rw [h3]
              calc i * P.cellsOf e + j < i * P.cellsOf e + P.cellsOf e := by omega
                _ = (i + 1) * P.cellsOf e := by rw [Nat.add_mul, Nat.one_mul]
                _ ≤ k * P.cellsOf e := Nat.mul_le_mul_right _ hik
            rw [List.getElem?_append_left this] at hv
            exact h5 i j x d v hi hj hv
          · rw [List.getElem?_append_right (by omega)] at hi
            have hi0 : i - es.length = 0 := by
              have := (List.getElem?_eq_some_iff.1 hi).1
              simp at this
              omega
            rw [hi0] at hi
            simp at hi
            subst hi
            have hik2 : i = k := by omega
            subst hik2
            rw [List.getElem?_append_right (by omega)] at hv
            have : i * P.cellsOf e + j - vs.length = j := by omega
            rw [this] at hv
            exact (hr j d v hj hv).2
    obtain ⟨es, vs, h1, h2, h3, h4, h5⟩ := each len (Nat.le_refl _)
    have hspot : 0 < len → a.spot = none := by
      intro h0
      have hx : ∃ y, elems[0]? = some y := ⟨elems[0], List.getElem?_eq_getElem (by omega)⟩
      obtain ⟨y, hy⟩ := hx
      have hk' := hel 0 h0
      rw [hy, Option.bind_eq_some_iff] at hk'
      obtain ⟨cs, hcs, _⟩ := hk'
      unfold World.cells? at hcs
      split at hcs
      · have := mapM_some_get hcs 0 0 (List.getElem?_range hp)
        have h0' : 0 < cs.length := by
          have : cs.length = P.cellsOf e := by simpa using mapM_some_length hcs
          omega
        rw [List.getElem?_eq_getElem h0'] at this
        have h7 := cell_spot this
        simpa [Addr.add] using h7
      · cases hcs
    subst h1
    have key := @Rep.slice M γ w (P.cellsOf e) es none a cap vs (fun x hx => (h2 x hx).2) h3 (fun h0 => hspot (List.length_pos_iff.2 h0)) (fun j v hv => ⟨(h4 j v hv).1, hM _ _, (h4 j v hv).2⟩) h5 hl (TipOk.none _ _ _)
    exact ⟨_, ⟨false, es, rfl, nofun, Nat.le_trans hl hm, fun x hx => (h2 x hx).1⟩, .one rfl key⟩

/-- The forms of the fields, one behind the other. -/
def AllF : List (List D → Prop) → List D → Prop
  | [], ds => ds = []
  | A :: As, ds => ∃ d e, A d ∧ AllF As e ∧ ds = d ++ e
def FOk (enc : TypeId × Value → H) (P : Program) (w : World) (M : Nat → Nat → Prop) (γ : Nat → Option G) (base : Nat) (spare : Nat → Bool) (held : Bool) : List Field → List (List D → Prop) → Nat → Nat → Prop
  | [], [], off, n => off = n
  | f :: fs, A :: As, off, n => f.offset = off ∧ Rd enc P w M γ base spare held f.type A ∧ FOk enc P w M γ base spare held fs As (off + P.cellsOf f.type) n
  | _, _, _, _ => False

theorem rd_fields {m n : Nat} {cs : List Value} (hcs : cs.length = n) : ∀ (fs : List Field) (As : List (List D → Prop)) (off : Nat) (xs : List (DataW H × List MemPlace)), FOk enc P w M γ base spare held fs As off n →
    (∀ (i : Nat) (f : Field), fs[i]? = some f → DataW.trod enc P w base spare held m f.type ((cs.drop f.offset).take (P.cellsOf f.type)) = xs[i]?) → xs.length = fs.length → ∃ ds, AllF As ds ∧ CRep M γ w ds (cs.drop off)
  | [], [], off, xs, h, _, _ => by
    have h : off = n := h
    rw [List.drop_eq_nil_of_le (by omega)]
    exact ⟨[], rfl, .nil⟩
  | f :: fs, A :: As, off, [], h, _, hl => by simp at hl
  | f :: fs, A :: As, off, x :: xs, h, hx, hl => by
    obtain ⟨h1, h2, h3⟩ := h
    have h4 := hx 0 f rfl
    rw [h1] at h4
    obtain ⟨d, hA, hc⟩ := h2 m _ x h4
    obtain ⟨e, hE, he⟩ := rd_fields hcs fs As (off + P.cellsOf f.type) xs h3 (fun i g hg => hx (i + 1) g hg) (by simpa using hl)
    refine ⟨d ++ e, ⟨d, e, hA, hE, rfl⟩, ?_⟩
    have := hc.append he
    rwa [← List.drop_drop, List.take_append_drop] at this
theorem rd_struct {t : TypeId} {fs : Array Field} {As : List (List D → Prop)} (ht : P.underlying t = some (.struct fs)) (hf : FOk enc P w M γ base spare held fs.toList As 0 (P.cellsOf t)) :
    Rd enc P w M γ base spare held t (AllF As) := by
  intro n cs x h
  obtain ⟨xs, m, _, _, hl, hxl, hx⟩ := DataW.trod_struct ht h
  obtain ⟨ds, h1, h2⟩ := rd_fields hl fs.toList As 0 xs hf (fun i f hf => hx i f (by simpa using hf)) (by simpa using hxl)
  exact ⟨ds, h1, by simpa using h2⟩

/-- A list of elements of one form each. -/
theorem list_form {α : Type} {f : α → List D} {g : α → Prop} : ∀ (es : List (List D)), (∀ e ∈ es, ∃ a, g a ∧ e = f a) → ∃ l : List α, es = l.map f ∧ ∀ a ∈ l, g a
  | [], _ => ⟨[], rfl, by simp⟩
  | e :: es, h => by
    obtain ⟨a, ha, rfl⟩ := h e (by simp)
    obtain ⟨l, rfl, hl⟩ := list_form es fun e he => h e (by simp [he])
    exact ⟨a :: l, rfl, fun b hb => (List.mem_cons.1 hb).elim (fun e => e ▸ ha) (hl b)⟩

/-- An argument that is one cell. -/
theorem rd_arg {t : TypeId} {A : List D → Prop} {v : Value} {d : DataW H} {ps : List MemPlace} (hr : Rd enc P w M γ base spare held t A) (h : DataW.Trod enc P w base spare held t v d ps) (hv : ∀ cs, v ≠ .agg cs) {D' : D → Prop} (hA : ∀ ds, A ds → ∃ e, ds = [e] ∧ D' e) :
    ∃ e, D' e ∧ Rep M γ w e v := by
  obtain ⟨n, hn⟩ := h
  obtain ⟨ds, h1, h2⟩ := hr _ _ _ hn
  obtain ⟨e, rfl, h3⟩ := hA ds h1
  have : v.cells.toList = [v] := by
    cases v with
    | agg cs => exact absurd rfl (hv cs)
    | _ => rfl
  rw [this] at h2
  exact ⟨e, h3, (h2.2 0 e v rfl rfl).2⟩
/-- An argument that is a struct. -/
theorem rd_agg {t : TypeId} {A : List D → Prop} {cs : Array Value} {d : DataW H} {ps : List MemPlace} (hr : Rd enc P w M γ base spare held t A) (h : DataW.Trod enc P w base spare held t (.agg cs) d ps) :
    ∃ ds, A ds ∧ Rep M γ w (.agg ds) (.agg cs) := by
  obtain ⟨n, hn⟩ := h
  obtain ⟨ds, h1, h2⟩ := hr _ _ _ hn
  have h2 : CRep M γ w ds cs.toList := h2
  exact ⟨ds, h1, .agg (by simpa using h2.1) (fun i v hv => by
    have hi : i < ds.length := by rw [← h2.1]; simpa using (Array.getElem?_eq_some_iff.1 hv).1
    exact (h2.2 i _ v (List.getElem?_eq_getElem hi) (by simpa using hv)).1) (fun i d v hd hv => (h2.2 i d v hd (by simpa using hv)).2)⟩
end

section
variable {H : Type} {enc : TypeId × Value → H} {P : Program}
/-- The arguments read as they did, in any world that has kept what was there. -/
theorem trodAll_keep {W W' : World} {T : TypeId → Prop} (K : Kids P T) (hz : ∀ t e, T t → P.underlying t = some (.slice e) → 0 < P.cellsOf e) (hb : Go.RowKit.Below W.heap.size W W') :
    ∀ {ts : List TypeId} {vs : List Value} {ds : List (DataW H)} {ps : List MemPlace}, (∀ t ∈ ts, T t) → DataW.TrodAll enc P W 0 (fun _ => true) true ts vs ds ps → (∀ p ∈ ps, p.block < W.heap.size) → ∀ sp : Nat → Bool, (∀ x ∈ ps, sp x.block = true) → DataW.TrodAll enc P W' 0 sp true ts vs ds ps := by
  intro ts vs ds ps hT h hl sp hs
  have h' : DataW.TrodAll enc P W' 0 (fun _ => true) true ts vs ds ps := by
    clear hs hT
    induction ts generalizing vs ds ps with
    | nil =>
      match vs, ds, h with
      | [], [], h => exact h
    | cons t ts ih =>
      match vs, ds, h with
      | v :: vs, d :: ds, ⟨p, q, ⟨n, hn⟩, h2, e⟩ =>
        subst e
        exact ⟨p, q, ⟨n, DataW.trod_carry n _ _ _ hn fun x hx => hb.same (hl x (List.mem_append_left _ hx))⟩, ih h2 (fun x hx => hl x (List.mem_append_right _ hx)), rfl⟩
  exact h'.respare K hz hT hs
end
end Go.Id
