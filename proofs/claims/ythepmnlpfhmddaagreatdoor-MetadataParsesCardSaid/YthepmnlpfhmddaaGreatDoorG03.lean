import Derived.Test.YthepmnlpfhmddaaGreatDoorG02
set_option linter.unusedVariables false
set_option linter.unusedSimpArgs false
set_option linter.unnecessarySimpa false
namespace Go.Id
open Go
def Fixd : Blk → Prop
 | .box .. | .arr .. | .map .. => True
 | _ => False
theorem ent_fixed {P : Prg} {E : Ent P} {ent : List Nat} {σ : Nat → Option Blk} {γ : Nat → Option G} {w : World} {t : Nat} (h1 : ∀ b g, E.γ b = some g → b ∈ ent) (h2 : Store E.M γ σ w) (h3 : Evolve (Mall E.M E.γ) E.γ E.w (Mall E.M γ) γ w)
  (hent : ∀ b ∈ ent, b ≠ t ∧ ∃ blk, σ b = some blk ∧ Fixd blk) : ∀ b g, E.γ b = some g → b ≠ t ∧ γ b = some g := by
 intro b g hg
 obtain ⟨hne, blk, hb, hf⟩ := hent b (h1 b g hg)
 obtain ⟨g', hg', hle⟩ := h3.names b g hg
 refine ⟨hne, ?_⟩
 cases g with
 | tip sz e v n =>
  obtain ⟨v', n', rfl, _⟩ := hle
  obtain ⟨g2, q1, q2⟩ := h2.hit hb
  rw [hg'] at q1; cases q1
  cases q2 <;> exact hf.elim
 | _ => rw [hg']; exact congrArg some hle
theorem Weak.tipArrE {ent : List Nat} {st : St} (t : Nat) (e : TypeId) (sz : Nat) (es : List (List D)) (k0 : Nat) {F' : List (Nat × D)} {σ' : List (Nat × Blk)} (hk : st.get k0 = .slice sz false es (some t)) (hb : lk st.σ t = some (.tip e sz es.length)) (hes : ∀ x ∈ es, ∀ d ∈ x, Fr t d)
  (hσt : lk σ' t = some (.arr e es.flatten)) (hσ : ∀ b, b ≠ t → lk σ' b = lk st.σ b) (hσc : ∀ p ∈ st.σ, p.1 ≠ t → BFr t p.2) (hF : ∀ p ∈ F', (p.1 = k0 ∧ p.2 = .arr t sz es.length) ∨ (st.get p.1 = p.2 ∧ Fr t p.2)) (hent : ∀ b ∈ ent, b ≠ t ∧ ∃ blk, lk st.σ b = some blk ∧ Fixd blk) : Weak ent st ⟨F', σ'⟩ := by
 rintro P E N a w ⟨γ, h1, h2, h3, h4, h5, h6⟩
 have hE := ent_fixed h1 h2 h3 hent
 obtain ⟨g, q1, q2⟩ := h2.hit hb
 have hsl := h6 k0
 rw [hk] at hsl
 generalize hv0 : a.tmps.getD k0 undef = v0 at hsl
 rcases rep_slice_cells hsl with ⟨_, _, hn⟩ | ⟨ad, cap, vs, rfl, _, hspot, hvs, hcap, hsz, hcell, hr, htip⟩
 ·cases hn
 cases q2 with
 | @tip _ _ _ v xs ho =>
  obtain ⟨_, _, v', n', p1, p2, p3⟩ := htip t rfl
  rw [q1] at p1
  simp only [Option.some.injEq, G.tip.injEq] at p1
  obtain ⟨rfl, rfl, rfl, rfl⟩ := p1
  have hv := p3 rfl
  rcases ho.2 with ⟨h0, _⟩ | ⟨B, cap', cur, hvB, _, hB, hnc, hcm, hcs, htake⟩
  ·rw [h0] at hv; cases hv
  rw [hvB] at hv
  simp only [Value.slice.injEq, Option.some.injEq, true_and] at hv
  obtain ⟨rfl, rfl⟩ := hv
  let g' : G := .arr B cap sz
  have hnew : ¬ B < E.w.heap.size := fun hlt => by
   obtain ⟨b', g0, r1, r2⟩ := h3.old t _ B q1 (by rw [hvB]; rfl) hlt
   obtain ⟨hne, hg⟩ := hE b' g0 r1
   exact hne (h2.dist b' t g0 _ B hg q1 r2 (by rw [hvB]; rfl))
  have hgB : (G.tip sz e v es.length).block = some B := by rw [hvB]; rfl
  have hother : ∀ i, i ≠ t → upd γ t (some g') i = γ i := fun i hi => upd_other _ _ hi
  have hback : ∀ i gi, upd γ t (some g') i = some gi → ∃ g0, γ i = some g0 ∧ g0.block = gi.block := by
   intro i gi hg
   by_cases hi : i = t
   ·subst hi; rw [upd_same] at hg; cases hg; exact ⟨_, q1, hgB⟩
   ·rw [hother i hi] at hg; exact ⟨gi, hg, rfl⟩
  have hflen := flat_len es hsz
  have hMB : ∀ off, ¬ E.M.M B off := fun off hm => h2.apart t _ B off q1 hgB hm
  refine ⟨upd γ t (some g'), h1, ⟨fun i => ?_, fun i i' gi gi' B' a1 a2 a3 a4 => ?_, h2.outer, fun i gi B' off a1 a2 => ?_, h2.inv, fun i gi B' a1 a2 => ?_, h2.big⟩, ?_, h4, h5.back (fun b g B q1 q2 => by obtain ⟨g0, r1, r2⟩ := hback _ _ q1; exact ⟨b, g0, r1, r2.trans q2⟩), fun k => ?_⟩
  ·by_cases hi : i = t
   ·subst hi
    refine .inl ⟨.arr e es.flatten, g', hσt, upd_same _ _ _, ?_⟩
    refine .arr cur e (0, 0) hB (by rw [hflen, hcs]; exact Nat.mul_le_mul_right _ hcap) (fun j u hj hu => ⟨?_, by simp [World.frozen?, hB]⟩) (fun j d u hd hu => ?_) ⟨rfl, hcs, hcm⟩
    ·have hjv : j < vs.length := by omega
     have := hcell j _ (List.getElem?_eq_getElem hjv)
     simp only [Nat.zero_add] at this
     have hc := this.1
     rw [cell_of_row w B j cur e _ hB, hu] at hc
     have : u = vs[j] := by simpa using hc
     rw [this]; exact (hcell j _ (List.getElem?_eq_getElem hjv)).2.2
    ·obtain ⟨x, r1, r2⟩ := flat_at es hsz j d hd
     have hjv : j < vs.length := by have := (List.getElem?_eq_some_iff.1 hd).1; omega
     have := hcell j _ (List.getElem?_eq_getElem hjv)
     simp only [Nat.zero_add] at this
     have hc := this.1
     rw [cell_of_row w B j cur e _ hB, hu] at hc
     have hu' : u = vs[j] := by simpa using hc
     have h7 := hr (j / sz) (j % sz) x d vs[j] r1 r2 (by rw [Nat.div_add_mod']; exact List.getElem?_eq_getElem hjv)
     rw [hu']
     exact (hes x (List.mem_of_getElem? r1) d (List.mem_of_getElem? r2)).rep hother h7
   ·show (∃ blk g, lk σ' i = some blk ∧ _) ∨ (lk σ' i = none ∧ _)
    rw [hσ i hi, hother i hi]
    rcases h2.names i with ⟨blk, gi, a1, a2, a3⟩ | ⟨a1, a2⟩
    ·exact .inl ⟨blk, gi, a1, a2, (hσc _ (lk_mem _ _ _ a1) hi).rel hother a3⟩
    ·exact .inr ⟨a1, a2⟩
  ·obtain ⟨g1, b1, b2⟩ := hback _ _ a1
   obtain ⟨g2, b3, b4⟩ := hback _ _ a2
   exact h2.dist i i' g1 g2 B' b1 b3 (b2.trans a3) (b4.trans a4)
  ·obtain ⟨g1, b1, b2⟩ := hback _ _ a1
   exact h2.apart i g1 B' off b1 (b2.trans a2)
  ·obtain ⟨g1, b1, b2⟩ := hback _ _ a1
   exact h2.low i g1 B' b1 (b2.trans a2)
  ·refine ⟨h3.os, h3.tape, h3.output, h3.size, h3.cell, fun B' off hm hlt => ?_, fun b g0 hg => ⟨g0, by rw [hother b (hE b g0 hg).1]; exact (hE b g0 hg).2, G.le_refl g0⟩, fun B' hlt hno => h3.block B' hlt hno, fun b g0 B' hg hgB' hlt => ?_⟩
   ·rcases hm with hm | ⟨i, gi, hg, hw⟩
    ·exact h3.wr B' off (.inl hm) hlt
    ·by_cases hi : i = t
     ·subst hi; rw [upd_same] at hg; cases hg
      have : B' = B := hw
      subst this
      exact absurd hlt hnew
     ·rw [hother i hi] at hg; exact h3.wr B' off (.inr ⟨i, gi, hg, hw⟩) hlt
   ·obtain ⟨g1, b1, b2⟩ := hback _ _ hg
    exact h3.old b g1 B' b1 (b2.trans hgB') hlt
  ·have h0 := h6 k
   show Rep _ _ _ ((lk F' k).getD .junk) _
   cases hl : lk F' k with
   | none => exact .junk _
   | some d =>
    rcases hF _ (lk_mem _ _ _ hl) with ⟨rfl, rfl⟩ | ⟨r1, r2⟩
    ·rw [hv0]
     exact .arr (upd_same _ _ _) hcap
    ·dsimp only at r1 r2
     rw [r1] at h0
     exact r2.rep hother h0
end Go.Id
namespace Go.Id
open Go
def withV (es : List (List UInt8 × D × Nat)) (vs : List Value) : List (List UInt8 × D × Nat) := (es.zip vs).map fun p => (p.1.1, .val p.2, p.1.2.2)
theorem withV_len {es : List (List UInt8 × D × Nat)} {vs : List Value} (h : vs.length = es.length) : (withV es vs).length = es.length := by simp [withV, h]
theorem withV_at {es : List (List UInt8 × D × Nat)} {vs : List Value} {j : Nat} {k : List UInt8} {d : D} {n : Nat} {v : Value} (h1 : es[j]? = some (k, d, n)) (h2 : vs[j]? = some v) : (withV es vs)[j]? = some (k, .val v, n) := by
 unfold withV
 rw [List.getElem?_map, (List.getElem?_zip_eq_some (z := ((k, d, n), v))).2 ⟨h1, h2⟩]
 rfl
theorem withV_of {es : List (List UInt8 × D × Nat)} {vs : List Value} {j : Nat} {k : List UInt8} {d : D} {n : Nat} (h : (withV es vs)[j]? = some (k, d, n)) : ∃ d0 v, es[j]? = some (k, d0, n) ∧ vs[j]? = some v ∧ d = .val v := by
 unfold withV at h
 rw [List.getElem?_map, Option.map_eq_some_iff] at h
 obtain ⟨⟨⟨k0, d0, n0⟩, v⟩, h1, h2⟩ := h
 rw [List.getElem?_zip_eq_some] at h1
 simp only [Prod.mk.injEq] at h2
 obtain ⟨rfl, rfl, rfl⟩ := h2
 exact ⟨d0, v, h1.1, h1.2, rfl⟩
theorem CallE.mapVals {P : Prg} {k : FuncId} {args : List D} {val : D} {b : Nat} {es : List (List UInt8 × D × Nat)} {c : Nat} {rest : List (Nat × Blk)}
  (h : ∀ vs : List Value, vs.length = es.length → CallE P k args ((b, .map (withV es vs) c) :: rest) val ((b, .map (withV es vs) c) :: rest)) : CallE P k args ((b, .map es c) :: rest) val ((b, .map es c) :: rest) := by
 refine ⟨(h (List.replicate es.length undef) (by simp)).1, fun M γ w as hst hl hr => ?_⟩
 have hlk : ∀ (x : Blk) (i : Nat), lk ((b, x) :: rest) i = if b = i then some x else lk rest i := fun x i => by simp only [lk]; by_cases h : b = i <;> simp [h, eq_comm]
 obtain ⟨g, q1, q2⟩ := hst.hit (b := b) (show lk ((b, .map es c) :: rest) b = some (.map es c) by rw [hlk, if_pos rfl])
 cases q2 with
 | @map _ _ B en hB hlen hk =>
  have hvl : (en.toList.map (·.val)).length = es.length := by simpa using hlen
  have hst' : Store (P.base M) γ (lk ((b, .map (withV es (en.toList.map (·.val))) c) :: rest)) w := by
   refine ⟨fun i => ?_, hst.dist, hst.outer, hst.apart, hst.inv, hst.low, hst.big⟩
   by_cases hi : b = i
   ·subst hi
    refine .inl ⟨_, _, by rw [hlk, if_pos rfl], q1, .map en hB (by rw [withV_len hvl]; exact hlen) fun j e k d n he hd => ?_⟩
    obtain ⟨d0, v, h1, h2, rfl⟩ := withV_of hd
    obtain ⟨r1, r2, r3⟩ := hk j e k d0 n he h1
    rw [List.getElem?_map, Array.getElem?_toList, he] at h2
    simp only [Option.map_some, Option.some.injEq] at h2
    subst h2
    exact ⟨r1, r2, .val _⟩
   ·have := hst.names i
    rw [hlk, if_neg hi] at this
    rw [hlk, if_neg hi]
    exact this
  refine ((h _ hvl).2 M γ w as hst' hl hr).mono ?_
  rintro e w' ⟨v, γ', rfl, s1, ev, rv⟩
  refine ⟨v, γ', rfl, ⟨fun i => ?_, s1.dist, s1.outer, s1.apart, s1.inv, s1.low, s1.big⟩, ev, rv⟩
  by_cases hi : b = i
  ·subst hi
   obtain ⟨g', r1, r2⟩ := s1.hit (b := b) (show lk ((b, .map (withV es (en.toList.map (·.val))) c) :: rest) b = some _ by rw [hlk, if_pos rfl])
   refine .inl ⟨_, g', by rw [hlk, if_pos rfl], r1, ?_⟩
   cases r2 with
   | @map _ _ B' en' hB' hlen' hk' =>
    rw [withV_len hvl] at hlen'
    refine .map en' hB' hlen' fun j e k d n he hd => ?_
    have hj : j < en.size := by rw [hlen]; exact (List.getElem?_eq_some_iff.1 hd).1
    have hv : (en.toList.map (·.val))[j]? = some (en[j].val) := by
     rw [List.getElem?_map, Array.getElem?_toList, Array.getElem?_eq_getElem hj]; rfl
    obtain ⟨a1, a2, a3⟩ := hk' j e k _ n he (withV_at hd hv)
    obtain ⟨_, _, b3⟩ := hk j en[j] k d n (Array.getElem?_eq_getElem hj) hd
    have hval : e.val = en[j].val := by
     generalize e.val = u at a3
     cases a3; rfl
    rw [hval]
    exact ⟨a1, a2, b3.evolve ev⟩
  ·have := s1.names i
   rw [hlk, if_neg hi] at this
   rw [hlk, if_neg hi]
   exact this
end Go.Id
