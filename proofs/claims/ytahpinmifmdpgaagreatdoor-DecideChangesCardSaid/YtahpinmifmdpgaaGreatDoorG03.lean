import Derived.Test.YtahpinmifmdpgaaGreatDoorG02
set_option linter.unusedVariables false
set_option linter.unusedSimpArgs false
set_option linter.unnecessarySimpa false
/-
  Plain: rows that a call has filled are written to while what came in is still read; many rows at once. Conditions: as each law says.
-/
set_option linter.unusedSimpArgs false
set_option linter.unusedVariables false
set_option linter.unnecessarySimpa false
namespace Go.Id
open Go

/-- A datum whose rows begin with strings: it does not lie in a row that holds none. -/
inductive Sh (t : Nat) : D → Prop
  | junk : Sh t .junk
  | bool (b : Bool) : Sh t (.bool b)
  | int (k : IntKind) (n : Int) : Sh t (.int k n)
  | str (s : List UInt8) : Sh t (.str s)
  | slice {sz : Nat} {nil : Bool} {es : List (List D)} {tip : Option Nat} (h : ∀ e ∈ es, ∀ d ∈ e, Sh t d) (h0 : ∀ e, es[0]? = some e → ∃ s, e[0]? = some (.str s)) (ht : tip ≠ some t) : Sh t (.slice sz nil es tip)
  | arr {b sz n : Nat} (h : b ≠ t) : Sh t (.arr b sz n)
  | view {b off sz n : Nat} (h : b ≠ t) : Sh t (.view b off sz n)
  | ref {b off : Nat} (h : b ≠ t) : Sh t (.ref b off)
  | nilptr : Sh t .nilptr
  | fn {f : Fn} {a b : List D} (h : ∀ d ∈ a, Sh t d) (h' : ∀ d ∈ b, Sh t d) : Sh t (.fn f a b)
  | nilfn : Sh t .nilfn
  | agg {cs : List D} (h : ∀ d ∈ cs, Sh t d) : Sh t (.agg cs)
  | tup {cs : List D} (h : ∀ d ∈ cs, Sh t d) : Sh t (.tup cs)
  | niliface : Sh t .niliface
  | nilmap : Sh t .nilmap
  | map {b : Nat} (h : b ≠ t) : Sh t (.map b)

section
variable {t : Nat}
theorem Sh.rep {M M' : Nat → Nat → Prop} {γ γ' : Nat → Option G} {w : World} {B : Nat} (hγ : ∀ i, i ≠ t → γ' i = γ i) (hM : ∀ B' off, M' B' off → M B' off ∨ B' = B) (hB : ∀ off s, w.cell? ⟨B, off, none⟩ = some (.string s) → M B off) {d : D} (hd : Sh t d) {v : Value} (h : Rep M γ w d v) : Rep M' γ' w d v := by
  induction h with
  | junk v => exact .junk v
  | bool b => exact .bool b
  | int k n => exact .int k n
  | str s => exact .str s
  | @nilslice sz tip ht =>
    cases hd with
    | slice h h0 hn =>
      refine .nilslice fun t' e => ?_
      have : t' ≠ t := fun q => hn (by rw [e, q])
      rw [hγ _ this]; exact ht t' e
  | @slice sz es tip a cap vs hsz hvs hspot hc hr hcap ht ih =>
    cases hd with
    | slice h h0 hn =>
      have hne : ∀ (j : Nat) (v : Value), vs[j]? = some v → a.block ≠ B := by
        intro j v hj e
        have hj' := (List.getElem?_eq_some_iff.1 hj).1
        cases es with
        | nil => have h00 : vs.length = 0 := by rw [hvs]; simp
                 omega
        | cons x es =>
          obtain ⟨s, hs⟩ := h0 x rfl
          have hl := hsz x (by simp)
          have hx0 : 0 < x.length := (List.getElem?_eq_some_iff.1 hs).1
          have h0' : 0 < vs.length := by omega
          have hv0 := List.getElem?_eq_getElem h0'
          have hr0 := hr 0 0 x _ vs[0] rfl hs (by simpa using hv0)
          obtain ⟨q1, q2, _⟩ := hc 0 _ hv0
          generalize vs[0] = u at hr0 q1
          cases hr0 with
          | str s' => rw [e] at q1 q2; exact q2 (hB _ _ q1)
      refine .slice vs hsz hvs hspot (fun j v hj => ?_) (fun i j e d v q1 q2 q3 => ih i j e d v q1 q2 q3 (h e (List.mem_of_getElem? q1) d (List.mem_of_getElem? q2))) hcap (fun t' e => ?_)
      · obtain ⟨q1, q2, q3⟩ := hc j v hj
        exact ⟨q1, fun q => (hM _ _ q).elim q2 (hne j v hj), q3⟩
      · have : t' ≠ t := fun q => hn (by rw [e, q])
        rw [hγ _ this]; exact ht t' e
  | arr hb hn => cases hd with | arr h => exact .arr ((hγ _ h).trans hb) hn
  | view hb ha hn => cases hd with | view h => exact .view ((hγ _ h).trans hb) ha hn
  | ref hb =>
    cases hd with
    | ref h =>
      refine .ref ?_
      rw [hγ _ h]
      exact hb
  | iptr => cases hd
  | nilptr => exact .nilptr
  | fn hf hk _ _ ih1 ih2 =>
    cases hd with
    | fn h h' => exact .fn hf hk (fun i d v a b => ih1 i d v a b (h d (List.mem_of_getElem? a))) (fun i d v a b => ih2 i d v a b (h' d (List.mem_of_getElem? a)))
  | nilfn => exact .nilfn
  | agg hl h1 _ ih => cases hd with | agg h => exact .agg hl h1 (fun i d v a b => ih i d v a b (h d (List.mem_of_getElem? a)))
  | tup hl _ ih => cases hd with | tup h => exact .tup hl (fun i d v a b => ih i d v a b (h d (List.mem_of_getElem? a)))
  | iface _ ih => cases hd
  | niliface => exact .niliface
  | nilmap => exact .nilmap
  | map hb => cases hd with | map h => exact .map ((hγ _ h).trans hb)
end

/-- Data that no string reads as. -/
def NS : D → Prop
  | .int _ _ | .bool _ | .slice _ _ _ _ => True
  | _ => False
theorem NS.not {M : Nat → Nat → Prop} {γ : Nat → Option G} {w : World} {d : D} {s : ByteArray} (h : NS d) (hr : Rep M γ w d (.string s)) : False := by
  cases hr <;> exact h

/-- A cell that turns, or is left. -/
def TpD (t sz : Nat) (es : List (List D)) (d d' : D) : Prop := (d' = d ∧ Sh t d) ∨ (d = .slice sz false es (some t) ∧ d' = .arr t sz es.length)
def TpL (t sz : Nat) (es : List (List D)) : List D → List D → Prop
  | [], [] => True
  | d :: l, d' :: l' => TpD t sz es d d' ∧ TpL t sz es l l'
  | _, _ => False
def BSh (t : Nat) : Blk → Prop
  | .box _ cs | .arr _ cs => ∀ d ∈ cs, Sh t d
  | .map es _ => ∀ e ∈ es, Sh t e.2.1
  | .miter m _ _ _ => m ≠ t
  | _ => True
def TpB (t sz : Nat) (es : List (List D)) : Blk → Blk → Prop
  | .box T cs, .box T' cs' => T' = T ∧ TpL t sz es cs cs'
  | b, b' => b' = b ∧ BSh t b
theorem TpL.at {t sz : Nat} {es : List (List D)} : ∀ {l l' : List D}, TpL t sz es l l' → l'.length = l.length ∧ ∀ (i : Nat) d', l'[i]? = some d' → ∃ d, l[i]? = some d ∧ TpD t sz es d d'
  | [], [], _ => ⟨rfl, fun i d h => by simp at h⟩
  | d :: l, d' :: l', h => by
    obtain ⟨h1, h2⟩ := TpL.at h.2
    refine ⟨by simp [h1], fun i x hx => ?_⟩
    cases i with
    | zero => simp at hx; subst hx; exact ⟨d, rfl, h.1⟩
    | succ i => simp at hx; simpa using h2 i x hx
  | [], _ :: _, h => h.elim
  | _ :: _, [], h => h.elim

theorem BSh.rel {t : Nat} {M M' : Nat → Nat → Prop} {γ γ' : Nat → Option G} {w : World} {B : Nat} (hγ : ∀ i, i ≠ t → γ' i = γ i) (hM : ∀ B' off, M' B' off → M B' off ∨ B' = B) (hB : ∀ off s, w.cell? ⟨B, off, none⟩ = some (.string s) → M B off) {blk : Blk} {g : G} (hb : BSh t blk) (h : BlkRel M γ w blk g) : BlkRel M' γ' w blk g := by
  cases h with
  | box vs e fz hB' hl h1 hr => exact .box vs e fz hB' hl h1 (fun i d v hd hv => (hb d (List.mem_of_getElem? hd)).rep hγ hM hB (hr i d v hd hv))
  | arr vs e fz hB' hl h1 hr hf => exact .arr vs e fz hB' hl h1 (fun i d v hd hv => (hb d (List.mem_of_getElem? hd)).rep hγ hM hB (hr i d v hd hv)) hf
  | iter hB' => exact .iter hB'
  | map en hB' hl hk => exact .map en hB' hl (fun i e k d n q1 q2 => let ⟨r1, r2, r3⟩ := hk i e k d n q1 q2; ⟨r1, r2, (hb _ (List.mem_of_getElem? q2)).rep hγ hM hB r3⟩)
  | miter hB' hm => exact .miter hB' ((hγ _ hb).trans hm)
  | dead hB' => exact .dead hB'
  | tip xs ho => exact .tip xs ho

/-- What was filled by an append, and lies in a box, is written to; rows that begin with strings are read on. -/
theorem Weak.tipArrS {st st' : St} (t : Nat) (e : TypeId) (sz : Nat) (es : List (List D)) (b0 : Nat) (T0 : TypeId) (cs0 : List D) (i0 : Nat) (hk : lk st.σ b0 = some (.box T0 cs0)) (hi : cs0[i0]? = some (.slice sz false es (some t))) (hb : lk st.σ t = some (.tip e sz es.length)) (hes : ∀ x ∈ es, ∀ d ∈ x, NS d ∧ Sh t d)
    (hF : ∀ p ∈ st'.F, st.get p.1 = p.2 ∧ Sh t p.2) (hσt : lk st'.σ t = some (.arr e es.flatten)) (hσ : ∀ b, b ≠ t → (lk st.σ b = none ∧ lk st'.σ b = none) ∨ ∃ x x', lk st.σ b = some x ∧ lk st'.σ b = some x' ∧ TpB t sz es x x') : Weak [] st st' := by
  rintro P E N a w ⟨γ, h1, h2, h3, h4, h5, h6⟩
  have hent : ∀ b, E.γ b = none := fun b => by
    cases h : E.γ b with
    | none => rfl
    | some g => exact absurd (h1 b g h) (by simp)
  obtain ⟨g, q1, q2⟩ := h2.hit hb
  obtain ⟨g0, qb1, qb2⟩ := h2.hit hk
  have hsl : ∃ u, Rep (Mall E.M γ) γ w (.slice sz false es (some t)) u := by
    cases qb2 with
    | box vs T fz hB hl hh hr =>
      have hlt : i0 < vs.size := by rw [hl]; exact (List.getElem?_eq_some_iff.1 hi).1
      exact ⟨_, hr i0 _ _ hi (Array.getElem?_eq_getElem hlt)⟩
  obtain ⟨v0, hsl⟩ := hsl
  rcases rep_slice_cells hsl with ⟨_, _, hn⟩ | ⟨ad, cap, vs, rfl, _, hspot, hvs, hcap, hsz, hcell, hr, htip⟩
  · cases hn
  cases q2 with
  | @tip _ _ _ v xs ho =>
    obtain ⟨_, _, v', n', p1, p2, p3⟩ := htip t rfl
    rw [q1] at p1
    simp only [Option.some.injEq, G.tip.injEq] at p1
    obtain ⟨rfl, rfl, rfl, rfl⟩ := p1
    have hv := p3 rfl
    rcases ho.2 with ⟨h0, _⟩ | ⟨B, cap', cur, hvB, _, hB, hnc, hcm, hcs, htake⟩
    · rw [h0] at hv; cases hv
    have hadr : ad = ⟨B, 0, none⟩ ∧ cap = cap' := by
      rw [hvB] at hv
      simp only [Value.slice.injEq, Option.some.injEq, true_and] at hv
      exact hv
    obtain ⟨rfl, rfl⟩ := hadr
    let g' : G := .arr B cap sz
    have hnew : ¬ B < E.w.heap.size := fun hlt => by
      obtain ⟨b', g0, r1, _⟩ := h3.old t _ B q1 (by rw [hvB]; rfl) hlt
      rw [hent] at r1; cases r1
    have hgB : (G.tip sz e v es.length).block = some B := by rw [hvB]; rfl
    have hother : ∀ i, i ≠ t → upd γ t (some g') i = γ i := fun i hi => upd_other _ _ hi
    have hback : ∀ i gi, upd γ t (some g') i = some gi → ∃ g0, γ i = some g0 ∧ g0.block = gi.block := by
      intro i gi hg
      by_cases hi : i = t
      · subst hi; rw [upd_same] at hg; cases hg; exact ⟨_, q1, hgB⟩
      · rw [hother i hi] at hg; exact ⟨gi, hg, rfl⟩
    have hflen := flat_len es hsz
    have hMB : ∀ off, ¬ E.M.M B off := fun off hm => h2.apart t _ B off q1 hgB hm
    have hM' : ∀ B' off, Mall E.M (upd γ t (some g')) B' off → Mall E.M γ B' off ∨ B' = B := by
      rintro B' off (hm | ⟨i, gi, hg, hw⟩)
      · exact .inl (.inl hm)
      · by_cases hi : i = t
        · subst hi; rw [upd_same] at hg; cases hg; exact .inr hw
        · rw [hother i hi] at hg; exact .inl (.inr ⟨i, gi, hg, hw⟩)
    have hat : ∀ j u, j < es.length * sz → cur[j]? = some u → ∃ d, es.flatten[j]? = some d ∧ (∃ x ∈ es, d ∈ x) ∧ Rep (Mall E.M γ) γ w d u ∧ u.oneCell' = true := by
      intro j u hj hu
      have hjv : j < vs.length := by omega
      have hc := hcell j _ (List.getElem?_eq_getElem hjv)
      simp only [Nat.zero_add] at hc
      have hc1 := hc.1
      rw [cell_of_row w B j cur e _ hB, hu] at hc1
      have hu' : u = vs[j] := by simpa using hc1
      have hjf : j < es.flatten.length := by omega
      obtain ⟨x, r1, r2⟩ := flat_at es hsz j _ (List.getElem?_eq_getElem hjf)
      refine ⟨es.flatten[j], List.getElem?_eq_getElem hjf, ⟨x, List.mem_of_getElem? r1, List.mem_of_getElem? r2⟩, ?_, by rw [hu']; exact hc.2.2⟩
      rw [hu']
      exact hr (j / sz) (j % sz) x _ vs[j] r1 r2 (by rw [Nat.div_add_mod']; exact List.getElem?_eq_getElem hjv)
    have hBs : ∀ off s, w.cell? ⟨B, off, none⟩ = some (.string s) → Mall E.M γ B off := by
      intro off s hs
      rw [cell_of_row w B off cur e _ hB] at hs
      by_cases ho : off < es.length * sz
      · obtain ⟨d, _, ⟨x, hx, hd⟩, hrd, _⟩ := hat off _ ho hs
        exact ((hes x hx d hd).1.not hrd).elim
      · exact .inr ⟨t, _, q1, by rw [hvB]; exact ⟨rfl, by omega⟩⟩
    refine ⟨upd γ t (some g'), fun b g0 hg => (by rw [hent] at hg; cases hg), ⟨fun i => ?_, fun i i' gi gi' B' a1 a2 a3 a4 => ?_, h2.outer, fun i gi B' off a1 a2 => ?_, h2.inv, fun i gi B' a1 a2 => ?_, h2.big⟩, ?_, h4, h5.back (fun b g B q1 q2 => by obtain ⟨g0, r1, r2⟩ := hback _ _ q1; exact ⟨b, g0, r1, r2.trans q2⟩), fun k => ?_⟩
    · by_cases hit : i = t
      · subst hit
        refine .inl ⟨.arr e es.flatten, g', hσt, upd_same _ _ _, ?_⟩
        refine .arr cur e (0, 0) hB (by rw [hflen, hcs]; exact Nat.mul_le_mul_right _ hcap) (fun j u hj hu => ⟨?_, by simp [World.frozen?, hB]⟩) (fun j d u hd hu => ?_) ⟨rfl, hcs, hcm⟩
        · obtain ⟨_, _, _, _, h7⟩ := hat j u (by omega) hu
          exact h7
        · have hjl := (List.getElem?_eq_some_iff.1 hd).1
          obtain ⟨d', hd', ⟨x, hx, hdx⟩, h7, _⟩ := hat j u (by omega) hu
          rw [hd] at hd'; cases hd'
          exact (hes x hx d hdx).2.rep hother hM' hBs h7
      · show (∃ blk g, lk st'.σ i = some blk ∧ _) ∨ (lk st'.σ i = none ∧ _)
        rw [hother i hit]
        rcases hσ i hit with ⟨a1, a2⟩ | ⟨x, x', a1, a2, a3⟩
        · exact .inr ⟨a2, h2.miss a1⟩
        · obtain ⟨gi, c1, c2⟩ := h2.hit a1
          refine .inl ⟨x', gi, a2, c1, ?_⟩
          have gen : x' = x ∧ BSh t x → BlkRel (Mall E.M (upd γ t (some g'))) (upd γ t (some g')) w x' gi := by
            rintro ⟨rfl, h⟩; exact h.rel hother hM' hBs c2
          cases x with
          | box T cs =>
            cases x' with
            | box T' cs' =>
              obtain ⟨rfl, hu⟩ := a3
              obtain ⟨hlen, hat'⟩ := hu.at
              cases c2 with
              | box ws _ fz hB' hl' hh' hr' =>
                refine .box ws _ fz hB' (by omega) hh' (fun j x v hx hv => ?_)
                obtain ⟨d0, s1, s2⟩ := hat' j x hx
                have hrep := hr' j d0 v s1 hv
                rcases s2 with ⟨rfl, hs⟩ | ⟨rfl, rfl⟩
                · exact hs.rep hother hM' hBs hrep
                · rcases rep_slice_cells hrep with ⟨_, _, hn⟩ | ⟨ad2, cap2, vs2, rfl, _, _, _, hcap2, _, _, _, htip2⟩
                  · cases hn
                  · obtain ⟨_, _, v2, n2, p1, p2, p3⟩ := htip2 t rfl
                    rw [q1] at p1
                    simp only [Option.some.injEq, G.tip.injEq] at p1
                    obtain ⟨_, _, rfl, rfl⟩ := p1
                    have hv2 := p3 rfl
                    rw [hvB] at hv2
                    simp only [Value.slice.injEq, Option.some.injEq, true_and] at hv2
                    obtain ⟨rfl, rfl⟩ := hv2
                    exact .arr (upd_same _ _ _) hcap
            | _ => exact absurd a3.1 (by simp)
          | _ => cases x' <;> exact gen a3
    · obtain ⟨g1, b1, b2⟩ := hback _ _ a1
      obtain ⟨g2, b3, b4⟩ := hback _ _ a2
      exact h2.dist i i' g1 g2 B' b1 b3 (b2.trans a3) (b4.trans a4)
    · obtain ⟨g1, b1, b2⟩ := hback _ _ a1
      exact h2.apart i g1 B' off b1 (b2.trans a2)
    · obtain ⟨g1, b1, b2⟩ := hback _ _ a1
      exact h2.low i g1 B' b1 (b2.trans a2)
    · refine ⟨h3.os, h3.tape, h3.output, h3.size, h3.cell, fun B' off hm hlt => ?_, fun b g0 hg => (by rw [hent] at hg; cases hg), fun B' hlt hno => h3.block B' hlt hno, fun b g0 B' hg hgB' hlt => ?_⟩
      · rcases hM' B' off hm with hm | rfl
        · exact h3.wr B' off hm hlt
        · exact absurd hlt hnew
      · obtain ⟨g1, b1, b2⟩ := hback _ _ hg
        exact h3.old b g1 B' b1 (b2.trans hgB') hlt
    · have h0 := h6 k
      show Rep _ _ _ ((lk st'.F k).getD .junk) _
      cases hl : lk st'.F k with
      | none => exact .junk _
      | some d =>
        obtain ⟨r1, r2⟩ := hF _ (lk_mem _ _ _ hl)
        dsimp only at r1 r2
        rw [r1] at h0
        exact r2.rep hother hM' hBs h0
end Go.Id

/-
  Plain: rows of rows: many rows that may be appended to at once; rows that are given up; names in a drawn region. Conditions: as each law says.
-/
set_option linter.unusedSimpArgs false
set_option linter.unusedVariables false
set_option linter.unnecessarySimpa false
namespace Go.Id
open Go

/-- The same store, laid otherwise. -/
theorem Weak.of_lk {ent : List Nat} {st st' : St} (hF : ∀ p ∈ st'.F, Le (st.get p.1) p.2) (hσ : ∀ b, lk st'.σ b = lk st.σ b) : Weak ent st st' := by
  rintro P E N a w ⟨γ, h1, h2, h3, h4, h5, h6⟩
  have e : lk st'.σ = lk st.σ := funext hσ
  exact ⟨γ, h1, by rw [e]; exact h2, h3, h4, h5, fun t => weak_get hF t _ _ _ _ (h6 t)⟩

/-- A block that says less. -/
theorem Weak.blk {ent : List Nat} {st : St} {σ' : List (Nat × Blk)} (b : Nat) (x x' : Blk) (hb : lk st.σ b = some x) (hσb : lk σ' b = some x') (hσ : ∀ i, i ≠ b → lk σ' i = lk st.σ i) (h : ∀ M γ w g, BlkRel M γ w x g → BlkRel M γ w x' g) : Weak ent st ⟨st.F, σ'⟩ := by
  rintro P E N a w ⟨γ, h1, h2, h3, h4, h5, h6⟩
  refine ⟨γ, h1, ⟨fun i => ?_, h2.dist, h2.outer, h2.apart, h2.inv, h2.low, h2.big⟩, h3, h4, h5, h6⟩
  by_cases hi : i = b
  · subst hi
    obtain ⟨g, q1, q2⟩ := h2.hit hb
    exact .inl ⟨x', g, hσb, q1, h _ _ _ _ q2⟩
  · show (∃ blk g, lk σ' i = some blk ∧ _) ∨ (lk σ' i = none ∧ _)
    rw [hσ i hi]
    exact h2.names i

theorem BlkRel.arr_le {e : TypeId} {cs cs' : List D} (h : Les cs cs') {M : Nat → Nat → Prop} {γ : Nat → Option G} {w : World} {g : G} (hr : BlkRel M γ w (.arr e cs) g) : BlkRel M γ w (.arr e cs') g := by
  obtain ⟨hl, hle⟩ := h.at
  cases hr with
  | arr vs _ fz hB hl' h1 hr hf => exact .arr vs e fz hB (by omega) (fun i v hi hv => h1 i v (by omega) hv) (fun i d v hd hv => by
      have hi : i < cs.length := by rw [hl]; exact (List.getElem?_eq_some_iff.1 hd).1
      exact hle i _ _ (List.getElem?_eq_getElem hi) hd _ _ _ _ (hr i _ v (List.getElem?_eq_getElem hi) hv)) hf

theorem Weak.arrN {ent : List Nat} {st : St} (b : Nat) (e : TypeId) (cs cs' : List D) (hb : lk st.σ b = some (.arr e cs)) (h : Les cs cs') : Weak ent st ⟨st.F, (b, .arr e cs') :: dl st.σ b⟩ :=
  Weak.blk b _ _ hb (by rw [lk_cons_dl, if_pos rfl]) (fun i hi => by rw [lk_cons_dl, if_neg hi]) fun _ _ _ _ hr => hr.arr_le h
theorem UpL.refl (t sz : Nat) : ∀ l : List D, UpL t sz l l
  | [] => trivial
  | _ :: l => ⟨.inl rfl, UpL.refl t sz l⟩
theorem UpL.app {t sz : Nat} : ∀ {a a' b b' : List D}, UpL t sz a a' → UpL t sz b b' → UpL t sz (a ++ b) (a' ++ b')
  | [], [], b, b', _, h => h
  | x :: a, x' :: a', b, b', h, k => ⟨h.1, UpL.app h.2 k⟩
  | [], _ :: _, _, _, h, _ => h.elim
  | _ :: _, [], _, _, h, _ => h.elim
theorem UpB.refl (t sz : Nat) (x : Blk) : UpB t sz x x := by
  cases x with
  | box T cs => exact ⟨rfl, .refl t sz cs⟩
  | arr T cs => exact ⟨rfl, .refl t sz cs⟩
  | _ => exact rfl
theorem UpS.refl (t sz : Nat) : ∀ l : List (Nat × Blk), UpS t sz l l
  | [] => trivial
  | p :: l => ⟨rfl, .refl t sz p.2, UpS.refl t sz l⟩
theorem UpF.refl (t sz : Nat) : ∀ l : List (Nat × D), UpF t sz l l
  | [] => trivial
  | p :: l => ⟨rfl, .inl rfl, UpF.refl t sz l⟩

/-- Nil slices in the rows of a row, from here on each with a name of its own. -/
theorem Weak.ghosts {ent : List Nat} (b : Nat) (T e : TypeId) (sz : Nat) : ∀ (es es' : List (List D)) (base : Nat) (pre : List D) (st : St), lk st.σ b = some (.arr T (pre ++ es.flatten)) → (∀ k, k < es.length → lk st.σ (base + k) = none) → es'.length = es.length →
    (∀ (k : Nat) x x', es[k]? = some x → es'[k]? = some x' → UpL (base + k) sz x x') →
    ∃ st', Weak ent st st' ∧ st'.F = st.F ∧ ∀ i, lk st'.σ i = if i = b then some (.arr T (pre ++ es'.flatten)) else if base ≤ i ∧ i < base + es.length then some (.tip e sz 0) else lk st.σ i
  | [], [], base, pre, st, hb, _, _, _ => ⟨st, Weak.refl st, rfl, fun i => by
      split
      · rename_i h; rw [h, hb]
      · rw [if_neg (by intro h; simp only [List.length_nil] at h; omega)]⟩
  | x :: es, x' :: es', base, pre, st, hb, hn, hl, hu => by
    have hbase : lk st.σ base = none := hn 0 (by simp)
    have hne : base ≠ b := fun e => by rw [e, hb] at hbase; cases hbase
    let st0 : St := ⟨st.F, (b, .arr T (pre ++ (x :: es).flatten)) :: dl st.σ b⟩
    have w0 : Weak ent st st0 := by
      rintro P E N a w ⟨γ, h1, h2, h3, h4, h5, h6⟩
      have e : lk st0.σ = lk st.σ := by
        funext i
        rw [lk_cons_dl]
        split
        · rename_i h; rw [h, hb]
        · rfl
      exact ⟨γ, h1, by rw [e]; exact h2, h3, h4, h5, h6⟩
    let st1 : St := ⟨st.F, (base, .tip e sz 0) :: (b, .arr T (pre ++ x' ++ es.flatten)) :: dl st.σ b⟩
    have w1 : Weak ent st0 st1 := by
      refine Weak.ghost base e sz ?_ (UpF.refl _ _ _) ⟨rfl, ⟨rfl, ?_⟩, UpS.refl _ _ _⟩
      · show lk ((b, _) :: dl st.σ b) base = none
        rw [lk_cons_dl, if_neg hne]; exact hbase
      · rw [List.flatten_cons, ← List.append_assoc]
        exact UpL.app (UpL.app (UpL.refl _ _ _) (hu 0 x x' rfl rfl)) (UpL.refl _ _ _)
    have e1 : ∀ i, lk st1.σ i = if i = base then some (.tip e sz 0) else if i = b then some (.arr T (pre ++ x' ++ es.flatten)) else lk st.σ i := by
      intro i
      show lk ((base, Blk.tip e sz 0) :: (b, .arr T (pre ++ x' ++ es.flatten)) :: dl st.σ b) i = _
      rw [lk, lk_cons_dl]
    obtain ⟨st', w2, f2, e2⟩ := Weak.ghosts b T e sz es es' (base + 1) (pre ++ x') st1 (by rw [e1, if_neg (Ne.symm hne), if_pos rfl]) (fun k hk => by
      have h := hn (k + 1) (by simp; omega)
      have : base + 1 + k = base + (k + 1) := by omega
      rw [this, e1, if_neg (by omega), if_neg (fun q => by rw [q, hb] at h; cases h)]; exact h) (by simpa using hl) (fun k y y' h1 h2 => by
      have := hu (k + 1) y y' (by simpa using h1) (by simpa using h2)
      have e : base + 1 + k = base + (k + 1) := by omega
      rw [e]; exact this)
    refine ⟨st', w0.trans (w1.trans w2), f2, fun i => ?_⟩
    rw [e2, e1]
    by_cases hi : i = b
    · rw [if_pos hi, if_pos hi, List.flatten_cons, List.append_assoc]
    · simp only [if_neg hi]
      by_cases hib : i = base
      · subst hib
        rw [if_neg (show ¬ (i + 1 ≤ i ∧ i < i + 1 + es.length) by omega), if_pos (rfl : i = i), if_pos (show i ≤ i ∧ i < i + (x :: es).length by simp)]
      · rw [if_neg hib]
        by_cases hr : base + 1 ≤ i ∧ i < base + 1 + es.length
        · rw [if_pos hr, if_pos (by simp; omega)]
        · rw [if_neg hr, if_neg (by simp; omega)]
  | [], _ :: _, _, _, _, _, _, hl, _ => by simp at hl
  | _ :: _, [], _, _, _, _, _, hl, _ => by simp at hl

def FzD (b sz : Nat) (es : List (List D)) (d d' : D) : Prop := (d' = d ∧ Clo (fun i => i ≠ b) d) ∨ (d = .arr b sz es.length ∧ d' = .slice sz false es none)
def FzL (b sz : Nat) (es : List (List D)) : List D → List D → Prop
  | [], [] => True
  | d :: l, d' :: l' => FzD b sz es d d' ∧ FzL b sz es l l'
  | _, _ => False
def FzB (b sz : Nat) (es : List (List D)) : Blk → Blk → Prop
  | .box T cs, .box T' cs' => T' = T ∧ FzL b sz es cs cs'
  | x, x' => x' = x ∧ BClo (fun i => i ≠ b) x
theorem FzL.at {b sz : Nat} {es : List (List D)} : ∀ {l l' : List D}, FzL b sz es l l' → l'.length = l.length ∧ ∀ (i : Nat) d', l'[i]? = some d' → ∃ d, l[i]? = some d ∧ FzD b sz es d d'
  | [], [], _ => ⟨rfl, fun i d h => by simp at h⟩
  | d :: l, d' :: l', h => by
    obtain ⟨h1, h2⟩ := FzL.at h.2
    refine ⟨by simp [h1], fun i x hx => ?_⟩
    cases i with
    | zero => simp at hx; subst hx; exact ⟨d, rfl, h.1⟩
    | succ i => simp at hx; simpa using h2 i x hx
  | [], _ :: _, h => h.elim
  | _ :: _, [], h => h.elim

/-- A row that is written to is given up: from here on it is a value. -/
theorem Weak.freeze {st st' : St} (b : Nat) (e : TypeId) (sz : Nat) (es : List (List D)) (hb : lk st.σ b = some (.arr e es.flatten)) (hsz : ∀ x ∈ es, x.length = sz) (h0 : 0 < sz) (hσb : lk st'.σ b = none) (hec : ∀ x ∈ es, ∀ d ∈ x, Clo (fun i => i ≠ b) d)
    (hF : ∀ p ∈ st'.F, FzD b sz es (st.get p.1) p.2) (hσ : ∀ i, i ≠ b → (lk st.σ i = none ∧ lk st'.σ i = none) ∨ ∃ x x', lk st.σ i = some x ∧ lk st'.σ i = some x' ∧ FzB b sz es x x') : Weak [] st st' := by
  rintro P E N a w ⟨γ, h1, h2, h3, h4, h5, h6⟩
  have hent : ∀ b, E.γ b = none := fun b => by
    cases h : E.γ b with
    | none => rfl
    | some g => exact absurd (h1 b g h) (by simp)
  obtain ⟨g, q1, q2⟩ := h2.hit hb
  have hflen := flat_len es hsz
  cases q2 with
  | @arr _ B cap z vs _ fz hB hl hh hr hf =>
    obtain ⟨rfl, hf2, hf3⟩ := hf
    let γ' : Nat → Option G := fun i => if i = b then none else γ i
    have hγ' : ∀ i g, γ' i = some g → i ≠ b ∧ γ i = some g := by
      intro i g hg
      simp only [γ'] at hg
      split at hg
      · cases hg
      · exact ⟨by assumption, hg⟩
    have hS : ∀ i, i ≠ b → γ' i = γ i := fun i hi => by simp [γ', hi]
    have hM : ∀ B off, Mall E.M γ' B off → Mall E.M γ B off := by
      rintro B off (hm | ⟨i, g, hg, hw⟩)
      · exact .inl hm
      · exact .inr ⟨i, g, (hγ' i g hg).2, hw⟩
    have hMB : ∀ off, ¬ Mall E.M γ' B off := by
      rintro off (hm | ⟨i, g, hg, hw⟩)
      · exact h2.apart b _ B off q1 rfl hm
      · obtain ⟨r1, r2⟩ := hγ' i g hg
        exact r1 (h2.dist i b g _ B r2 q1 (G.wr_block hw) rfl)
    have keep : ∀ d v, Rep (Mall E.M γ) γ w d v → Clo (fun i => i ≠ b) d → Rep (Mall E.M γ') γ' w d v := fun d v hr hc => (hr.restrict hS hc).sub hM
    have turn : ∀ d d' v, FzD b sz es d d' → Rep (Mall E.M γ) γ w d v → Rep (Mall E.M γ') γ' w d' v := by
      rintro d d' v (⟨rfl, hc⟩ | ⟨rfl, rfl⟩) hrv
      · exact keep _ _ hrv hc
      · cases hrv with
        | @arr _ B2 _ _ cap2 hg hn =>
          rw [q1] at hg; cases hg
          have hle : es.length * sz ≤ vs.size := by omega
          have htl : (vs.toList.take (es.length * sz)).length = es.length * sz := by rw [List.length_take]; exact Nat.min_eq_left (by simpa using hle)
          refine rep_row hB hsz (vs.toList.take (es.length * sz)) htl rfl (fun u hu => ?_) (fun off _ => hMB off) (fun i j x d u r1 r2 r3 => ?_) hn (TipOk.none _ _ _)
          · obtain ⟨i, hi, rfl⟩ := List.mem_iff_getElem.1 hu
            rw [List.getElem_take]
            exact (hh i _ (by omega) (by rw [← Array.getElem?_toList]; exact List.getElem?_eq_getElem (by simp at hi ⊢; omega))).1
          · have hd := flat_get es hsz i j x d r1 r2
            have hu : vs[i * sz + j]? = some u := by
              rw [List.getElem?_take] at r3
              split at r3
              · simpa using r3
              · cases r3
            exact keep _ _ (hr _ d u hd hu) (hec x (List.mem_of_getElem? r1) d (List.mem_of_getElem? r2))
    refine ⟨γ', fun i g hg => (by rw [hent] at hg; cases hg), ⟨fun i => ?_, fun i i' g g' B' a1 a2 a3 a4 => h2.dist i i' g g' B' (hγ' _ _ a1).2 (hγ' _ _ a2).2 a3 a4, h2.outer, fun i g B' off a1 a2 => h2.apart i g B' off (hγ' _ _ a1).2 a2, h2.inv, fun i g B' a1 a2 => h2.low i g B' (hγ' _ _ a1).2 a2, h2.big⟩, ?_, h4, h5.sub (fun i g hg => (hγ' i g hg).2), fun k => ?_⟩
    · by_cases hi : i = b
      · subst hi; exact .inr ⟨hσb, by simp [γ']⟩
      · rw [hS i hi]
        rcases hσ i hi with ⟨a1, a2⟩ | ⟨x, x', a1, a2, a3⟩
        · exact .inr ⟨a2, h2.miss a1⟩
        · obtain ⟨gi, c1, c2⟩ := h2.hit a1
          refine .inl ⟨x', gi, a2, c1, ?_⟩
          have gen : x' = x ∧ BClo (fun i => i ≠ b) x → BlkRel (Mall E.M γ') γ' w x' gi := by
            rintro ⟨rfl, h⟩
            exact (c2.restrict hS h).evo ⟨fun _ _ _ _ h => h, fun B off h _ => hM B off h, fun _ g h => ⟨g, h, G.le_refl g⟩⟩ (fun _ _ => rfl)
          cases x with
          | box T cs =>
            cases x' with
            | box T' cs' =>
              obtain ⟨rfl, hu⟩ := a3
              obtain ⟨hlen, hat⟩ := hu.at
              cases c2 with
              | box ws _ fz hB' hl' hh' hr' =>
                refine .box ws _ fz hB' (by omega) hh' (fun j x v hx hv => ?_)
                obtain ⟨d0, s1, s2⟩ := hat j x hx
                exact turn _ _ _ s2 (hr' j d0 v s1 hv)
            | _ => exact absurd a3.1 (by simp)
          | _ => cases x' <;> exact gen a3
    · refine ⟨h3.os, h3.tape, h3.output, h3.size, h3.cell, fun B' off hm hlt => h3.wr B' off (hM _ _ hm) hlt, fun b g0 hg => (by rw [hent] at hg; cases hg), fun B' hlt hno => h3.block B' hlt hno, fun i g0 B' hg hgB' hlt => h3.old i g0 B' (hγ' _ _ hg).2 hgB' hlt⟩
    · show Rep _ _ _ ((lk st'.F k).getD .junk) _
      cases hl' : lk st'.F k with
      | none => exact .junk _
      | some d => exact turn _ _ _ (hF _ (lk_mem _ _ _ hl')) (h6 k)

end Go.Id

/-
  Plain: the round's key and value of a range over a map, read behind the step. Conditions: nothing was laid into the map since.
-/
set_option linter.unusedSimpArgs false
set_option linter.unusedVariables false
namespace Go.Id
open Go Go.ChangeMaps

section
variable {P : Prg} {ent : List Nat} {N : Nat} {Q : Exit → St → Prop} {st : St}

theorem WP.regionEntry {id : Nat} {ops : Array Oper} {x : Operand} {o : Oper} {os : List Oper} {b m since clock n : Nat} {seen : List Nat} {es : List (List UInt8 × D × Nat)} {k : List UInt8} {d : D} (hd : dstsOk N ops = true) (hos : ops.toList = o :: os) (hop : o.op = .entry x) (hg : o.guard = none)
    (hx : evalD st.get x = .ref b 0) (hb : lk st.σ b = some (.miter m since (seen ++ [n]) clock)) (hm : lk st.σ m = some (.map es clock)) (he : (k, d, n) ∈ es) (hn : (es.map (·.2.2)).Nodup)
    (h1 : ∀ K : St → List RecX → Prop, (∀ st' rs, Q .normal st' → K st' rs) → runOps P ops os (st.put o.dst (.tup [.str k, d])) [] K) :
    WP P ent N (.region id ops false) Q st := by
  intro Fe nf hF E a w hr
  have hko : ops[0]? = some o := by
    have : ops.toList[0]? = some o := by rw [hos]; rfl
    simpa using this
  have hmem : o ∈ ops := Array.mem_of_getElem? hko
  have hsz : ops.size = os.length + 1 := by rw [← Array.length_toList, hos]; rfl
  refine wpIn_region ?_
  rw [hsz, List.range_eq_range', List.range'_succ, wpOpsIn, hko]
  dsimp only
  rw [if_pos (by simp [Region.wanted, hg])]
  have hdst := dstsOk_spec hd hmem
  have go : ∀ (st1 : St) (a' : Act) (w' : World), (∀ K : St → List RecX → Prop, (∀ st' rs, Q .normal st' → K st' rs) → runOps P ops os st1 [] K) → Rel E ent N st1.get (lk st1.σ) a' w' →
      wpOpsIn Fe nf P.prog ops (fun e a' w' => ∃ st', Q e st' ∧ Rel E ent N st'.get (lk st'.σ) a' w') (List.range' (0 + 1) os.length) a' w' := by
    intro st1 a' w' h hr'
    obtain ⟨rs, st', hc, hk⟩ := runOps.chain _ _ _ _ (h (fun st' _ => Q .normal st') (fun _ _ h => h))
    exact hc.wpOps hF.1 (nf := nf) hd _ 1 (by rw [hos]; rfl) a' w' hr' (fun a'' w'' hr'' => ⟨st', hk, hr''⟩)
  have hr0 := hr
  obtain ⟨γ, q1, q2, q3, q4, q5, q6⟩ := hr
  have hev := eval_rep q6 x
  rw [hx] at hev
  generalize hv : a.eval x = v at hev
  obtain ⟨g, r2, r3⟩ := q2.hit hb
  obtain ⟨g', r4, r5⟩ := q2.hit hm
  cases r3 with
  | @miter _ _ _ B Bm _ hB hmB =>
    rw [r4] at hmB; cases hmB
    cases r5 with
    | @map _ _ _ en hBm hl hk =>
      cases hev with
      | @ref _ B' _ hγ =>
        obtain rfl : B' = B := by
          rcases hγ with hγ | ⟨_, _, hγ⟩ | hγ <;> rw [r2] at hγ <;> cases hγ
          rfl
        obtain ⟨i, hi, hie⟩ := List.mem_iff_getElem.1 he
        have hi' : i < en.size := by omega
        obtain ⟨p1, p2, p3⟩ := hk i en[i] es[i].1 es[i].2.1 es[i].2.2 (Array.getElem?_eq_getElem hi') (List.getElem?_eq_getElem hi)
        rw [hie] at p1 p2 p3
        have hborn : en.toList.map (·.born) = es.map (·.2.2) := by
          apply List.ext_getElem (by simpa using hl)
          intro j hj1 hj2
          simp only [List.length_map] at hj1 hj2
          have hj : j < en.size := by simpa using hj1
          obtain ⟨_, s2, _⟩ := hk j en[j] es[j].1 es[j].2.1 es[j].2.2 (Array.getElem?_eq_getElem hj) (List.getElem?_eq_getElem hj2)
          simpa using s2
        have hB1 : w.heap[B']? = some (.mapIter (some Bm) since (seen.toArray.push en[i].born) clock) := by
          rw [hB]
          have : en[i].born = n := p2
          rw [this]; simp
        have hrun := run_entry_at (P := P.prog) w B' Bm since seen.toArray en clock en[i] hB1 hBm (by simp) (by rw [hborn]; exact hn)
        unfold Oper.wpIn
        refine ⟨fun f _ => hF.1.fn f, ?_⟩
        rw [Oper.semAt_plain Fe _ _ (by rw [hop]; intro c hc'; cases hc')]
        simp [execOp, hop, hv, hrun, Result.andThen]
        refine go _ _ _ h1 ?_
        rw [get_put, put_σ]
        refine ⟨γ, q1, q2, q3, by rw [put_size]; exact q4, by rw [put_defers]; exact q5, updO_rep (by rw [q4]; exact hdst) ?_ q6⟩
        refine .tup rfl (fun i' d' v' z1 z2 => ?_)
        match i' with
        | 0 => simp at z1 z2; subst z1; subst z2; rw [p1]; have := Rep.str (M := Mall E.M γ) (γ := γ) (w := w) ⟨k.toArray⟩; simpa using this
        | 1 => simp at z1 z2; subst z1; subst z2; exact p3
        | i + 2 => simp at z1
end
end Go.Id
