import Derived.Test.YthepmnlpfhmddaaGreatDoorG01
import Derived.Scope
import Derived.RangeFuncFrom
import Derived.Maps.RangeRun
import Derived.ChangeArms
import Derived.ReadAgain
import Derived.ChangeShapes
import Derived.ChangeOld
import Derived.WideShapes
import Derived.Below
import Derived.RecoverIn
set_option linter.unusedVariables false
set_option linter.unusedSimpArgs false
set_option linter.unnecessarySimpa false
namespace Go.Id
open Go
theorem CallP.quiet {P : Prg} {k : FuncId} {args : List D} {val : D} (hb : Bodied P.prog k)
  (h : ∀ (M : Nat → Nat → Prop) (w : World) (vs : List Value), P.I w → P.n ≤ w.heap.size → vs.length = args.length → (∀ B off, M B off → B < w.heap.size) →
   (∀ (i : Nat) d v, args[i]? = some d → vs[i]? = some v → Rep M (fun _ => none) w d v) →
   Calls P.prog k vs.toArray w fun e w' => ∃ v, e = .returned v ∧ RowKit.Below w.heap.size w w' ∧ Rep M (fun _ => none) w' val v) : CallP P k args val := by
 refine ⟨hb, fun M γ w vs hst hl hr => ?_⟩
 have hno : γ = fun _ => none := by
  funext b
  rcases hst.names b with ⟨blk, g, q4, _⟩ | ⟨_, q4⟩
  ·cases q4
  ·exact q4
 subst hno
 have hM : ∀ B off, Mall (P.base M) (fun _ => none) B off ↔ M B off := by
  intro B off
  constructor
  ·rintro (h | ⟨b, g, h, _⟩)
   ·exact h
   ·cases h
  ·exact .inl
 refine (h M w vs hst.inv hst.big hl (fun B off hm => (hst.outer B off hm).2) (fun i d v h1 h2 => (hr i d v h1 h2).sub (fun B off hm => (hM B off).2 hm))).mono ?_
 rintro e w' ⟨v, rfl, hbl, hv⟩
 refine ⟨v, fun _ => none, rfl, ⟨fun b => .inr ⟨rfl, rfl⟩, (fun b b' g g' B h => by cases h), fun B off hm => ⟨(hst.outer B off hm).1, Nat.lt_of_lt_of_le (hst.outer B off hm).2 hbl.size⟩, (fun b g B off h => by cases h), ?_, (fun b g B h => by cases h), Nat.le_trans hst.big hbl.size⟩, ⟨hbl.os, hbl.tape, hbl.output, hbl.size, ?_, fun B off hm _ => hm, (fun b g h => by cases h), fun B hB _ => hbl.block B hB, (fun b g B h => by cases h)⟩, hv.sub (fun B off hm => (hM B off).1 hm)⟩
 ·exact P.stable w w' hst.inv (fun k hk => hbl.block k (Nat.lt_of_lt_of_le hk hst.big))
 ·intro B off v hm hc
  exact (hbl.cell (p := ⟨B, off, none⟩) (cell_lt hc)).trans hc
section
variable {M : Nat → Nat → Prop} {γ : Nat → Option G} {w : World}
theorem inv_str {s : List UInt8} {v : Value} (h : Rep M γ w (.str s) v) : ∃ b : ByteArray, v = .string b ∧ b.data.toList = s := by
 cases h with
 | str b => exact ⟨b, rfl, rfl⟩
theorem inv_int {k : IntKind} {n : Int} {v : Value} (h : Rep M γ w (.int k n) v) : v = .int k n := by
 cases h; rfl
theorem rep_strOf (l : List UInt8) : Rep M γ w (.str l) (.string ⟨l.toArray⟩) := Rep.str (M := M) (γ := γ) (w := w) ⟨l.toArray⟩
theorem size_list (b : ByteArray) : b.size = b.data.toList.length := rfl
end
theorem CallP.str1 {P : Prg} {k : FuncId} {s : List UInt8} {val : D} (hb : Bodied P.prog k)
  (h : ∀ (M : Nat → Nat → Prop) (w : World) (b : ByteArray), b.data.toList = s → P.I w → P.n ≤ w.heap.size → (∀ B off, M B off → B < w.heap.size) →
   Calls P.prog k #[.string b] w fun e w' => ∃ v, e = .returned v ∧ RowKit.Below w.heap.size w w' ∧ Rep M (fun _ => none) w' val v) : CallP P k [.str s] val := by
 refine .quiet hb fun M w vs hI hn hl hM hr => ?_
 match vs, hl with
 | [v], _ =>
  obtain ⟨b, rfl, hb⟩ := inv_str (hr 0 _ _ rfl rfl)
  exact h M w b hb hI hn hM
theorem CallP.str2 {P : Prg} {k : FuncId} {s t : List UInt8} {val : D} (hb : Bodied P.prog k)
  (h : ∀ (M : Nat → Nat → Prop) (w : World) (b c : ByteArray), b.data.toList = s → c.data.toList = t → P.I w → P.n ≤ w.heap.size → (∀ B off, M B off → B < w.heap.size) →
   Calls P.prog k #[.string b, .string c] w fun e w' => ∃ v, e = .returned v ∧ RowKit.Below w.heap.size w w' ∧ Rep M (fun _ => none) w' val v) : CallP P k [.str s, .str t] val := by
 refine .quiet hb fun M w vs hI hn hl hM hr => ?_
 match vs, hl with
 | [v, v'], _ =>
  obtain ⟨b, rfl, hb⟩ := inv_str (hr 0 _ _ rfl rfl)
  obtain ⟨c, rfl, hc⟩ := inv_str (hr 1 _ _ rfl rfl)
  exact h M w b c hb hc hI hn hM
theorem CallP.strInt {P : Prg} {k : FuncId} {s : List UInt8} {kk : IntKind} {n : Int} {val : D} (hb : Bodied P.prog k)
  (h : ∀ (M : Nat → Nat → Prop) (w : World) (b : ByteArray), b.data.toList = s → P.I w → P.n ≤ w.heap.size → (∀ B off, M B off → B < w.heap.size) →
   Calls P.prog k #[.string b, .int kk n] w fun e w' => ∃ v, e = .returned v ∧ RowKit.Below w.heap.size w w' ∧ Rep M (fun _ => none) w' val v) : CallP P k [.str s, .int kk n] val := by
 refine .quiet hb fun M w vs hI hn hl hM hr => ?_
 match vs, hl with
 | [v, v'], _ =>
  obtain ⟨b, rfl, hb⟩ := inv_str (hr 0 _ _ rfl rfl)
  obtain rfl := inv_int (hr 1 _ _ rfl rfl)
  exact h M w b hb hI hn hM
theorem CallP.int1 {P : Prg} {k : FuncId} {kk : IntKind} {n : Int} {val : D} (hb : Bodied P.prog k)
  (h : ∀ (M : Nat → Nat → Prop) (w : World), P.I w → P.n ≤ w.heap.size → (∀ B off, M B off → B < w.heap.size) →
   Calls P.prog k #[.int kk n] w fun e w' => ∃ v, e = .returned v ∧ RowKit.Below w.heap.size w w' ∧ Rep M (fun _ => none) w' val v) : CallP P k [.int kk n] val := by
 refine .quiet hb fun M w vs hI hn hl hM hr => ?_
 match vs, hl with
 | [v], _ =>
  obtain rfl := inv_int (hr 0 _ _ rfl rfl)
  exact h M w hI hn hM
theorem rep_rows {M : Nat → Nat → Prop} {γ : Nat → Option G} {w : World} {B n : Nat} {l : List (List UInt8)} {e : TypeId} {fz : Nat × Nat} {vs : List Value} (hB : w.heap[B]? = some (.cells vs.toArray e fz)) (hM : ∀ off, ¬ M B off)
  (hv : vs = l.map fun s => Value.string ⟨s.toArray⟩) (hn : n = l.length) : Rep M γ w (.slice 1 false (l.map fun s => [.str s]) none) (.slice (some ⟨B, 0, none⟩) n n) := by
 have key := @Rep.slice M γ w 1 (l.map fun s => [D.str s]) none ⟨B, 0, none⟩ (l.map fun s => [D.str s]).length vs (by simp) (by simp [hv]) (fun _ => rfl) (fun j v hj => ⟨by
   have hj' := hj
   simp [World.cell?, hB, hj'], hM _, by
   rw [hv] at hj
   simp only [List.getElem?_map, Option.map_eq_some_iff] at hj
   obtain ⟨s, _, rfl⟩ := hj
   rfl⟩) (fun i j e d v h1 h2 h3 => by
   simp only [List.getElem?_map, Option.map_eq_some_iff] at h1
   obtain ⟨s, hs, rfl⟩ := h1
   cases j with
   | succ j => simp at h2
   | zero =>
    simp at h2
    subst h2
    rw [hv] at h3
    simp only [Nat.mul_one, Nat.add_zero, List.getElem?_map, hs, Option.map_some, Option.some.injEq] at h3
    subst h3
    exact rep_strOf s) (by simp) (TipOk.none _ _ _)
 simp only [List.length_map] at key
 rw [hn]
 exact key
end Go.Id
namespace Go.Id
open Go
theorem CallE.same {P : Prg} {k : FuncId} {args : List D} {ins : List (Nat × Blk)} {val : D} (hb : Bodied P.prog k)
  (h : ∀ (M : Nat → Nat → Prop) (γ : Nat → Option G) (w : World) (vs : List Value), Store (P.base M) γ (lk ins) w → vs.length = args.length →
   (∀ (i : Nat) d v, args[i]? = some d → vs[i]? = some v → Rep (Mall (P.base M) γ) γ w d v) →
   Calls P.prog k vs.toArray w fun e w' => ∃ v, e = .returned v ∧ w' = w ∧ Rep (Mall (P.base M) γ) γ w val v) : CallE P k args ins val ins :=
 ⟨hb, fun M γ w vs hst hl hr => (h M γ w vs hst hl hr).mono fun e w' ⟨v, he, hw, hv⟩ => by subst hw; exact ⟨v, γ, he, hst, Evolve.refl _ _ _, hv⟩⟩
theorem CallE.drew {P : Prg} {k : FuncId} {args : List D} {ins : List (Nat × Blk)} {val : D} (hb : Bodied P.prog k)
  (h : ∀ (M : Nat → Nat → Prop) (γ : Nat → Option G) (w : World) (vs : List Value), Store (P.base M) γ (lk ins) w → vs.length = args.length →
   (∀ (i : Nat) d v, args[i]? = some d → vs[i]? = some v → Rep (Mall (P.base M) γ) γ w d v) →
   Calls P.prog k vs.toArray w fun e w' => ∃ v, e = .returned v ∧ w' = w.drew ∧ Rep (Mall (P.base M) γ) γ w val v) : CallE P k args ins val ins := by
 refine ⟨hb, fun M γ w vs hst hl hr => (h M γ w vs hst hl hr).mono ?_⟩
 rintro e w' ⟨v, rfl, rfl, hv⟩
 have hev : Evolve (Mall (P.base M) γ) γ w (Mall (P.base M) γ) γ w.drew := ⟨rfl, rfl, rfl, Nat.le_refl _, fun _ _ _ _ h => h, fun _ _ h _ => h, fun _ g h => ⟨g, h, G.le_refl g⟩, fun _ _ _ => rfl, fun b g _ h h' _ => ⟨b, g, h, h'⟩⟩
 refine ⟨v, γ, rfl, ⟨fun b => ?_, hst.dist, hst.outer, hst.apart, (P.base M).stable _ _ hst.inv (fun _ _ => rfl), hst.low, hst.big⟩, hev, hv.evolve hev⟩
 rcases hst.names b with ⟨blk, g, q1, q2, q3⟩ | q
 ·exact .inl ⟨blk, g, q1, q2, q3.keep hev (fun _ _ => rfl)⟩
 ·exact .inr q
theorem heap_setCell (w : World) {B : Nat} {vs : Array Value} {e : TypeId} {fz : Nat × Nat} (hB : w.heap[B]? = some (.cells vs e fz)) (off : Nat) (v : Value) : (w.setCell ⟨B, off, none⟩ v).heap[B]? = some (.cells (vs.setIfInBounds off v) e fz) := by
 simp [World.setCell, Array.getElem?_modify, hB]
theorem heap_setCell_other (w : World) {B k : Nat} (h : k ≠ B) (off : Nat) (v : Value) : (w.setCell ⟨B, off, none⟩ v).heap[k]? = w.heap[k]? := by
 simp [World.setCell, Array.getElem?_modify, Ne.symm h]
theorem CallE.wrote {P : Prg} {k : FuncId} {args : List D} {b : Nat} {T : TypeId} {cs : List D} {rest : List (Nat × Blk)} {val : D} (off : Nat) (hoff : off < cs.length) (d' : D) (hb : Bodied P.prog k)
  (h : ∀ (M : Nat → Nat → Prop) (γ : Nat → Option G) (w : World) (vs : List Value) (B : Nat) (us : Array Value) (fz : Nat × Nat), Store (P.base M) γ (lk ((b, .box T cs) :: rest)) w → vs.length = args.length →
   (∀ (i : Nat) d v, args[i]? = some d → vs[i]? = some v → Rep (Mall (P.base M) γ) γ w d v) → γ b = some (.box B) → w.heap[B]? = some (.cells us T fz) → us.size = cs.length →
   (∀ (i : Nat) v, us[i]? = some v → v.oneCell' = true ∧ w.frozen? ⟨B, i, none⟩ = false) → (∀ (i : Nat) d v, cs[i]? = some d → us[i]? = some v → Rep (Mall (P.base M) γ) γ w d v) →
   Calls P.prog k vs.toArray w fun e w' => ∃ v u, e = .returned v ∧ w' = w.setCell ⟨B, off, none⟩ u ∧ u.oneCell' = true ∧ Rep (Mall (P.base M) γ) γ w d' u ∧ Rep (Mall (P.base M) γ) γ w val v) :
  CallE P k args ((b, .box T cs) :: rest) val ((b, .box T (cs.set off d')) :: rest) := by
 refine ⟨hb, fun M γ w vs hst hl hr => ?_⟩
 have hlk : lk ((b, Blk.box T cs) :: rest) b = some (.box T cs) := by simp [lk]
 obtain ⟨g, h2, h3⟩ := hst.hit hlk
 cases h3 with
 | @box _ B us _ fz hB hlen h1 hrr =>
  refine (h M γ w vs B us fz hst hl hr h2 hB hlen h1 hrr).mono ?_
  rintro e w' ⟨v, u, rfl, rfl, hu1, hu2, hv⟩
  have hB' := heap_setCell w hB off u
  have hother : ∀ k, k ≠ B → (w.setCell ⟨B, off, none⟩ u).heap[k]? = w.heap[k]? := fun k hk => heap_setCell_other w hk off u
  have hsize : (w.setCell ⟨B, off, none⟩ u).heap.size = w.heap.size := by simp [World.setCell]
  have hM : ∀ o, Mall (P.base M) γ B o := fun o => .inr ⟨b, _, h2, rfl⟩
  have hev : Evolve (Mall (P.base M) γ) γ w (Mall (P.base M) γ) γ (w.setCell ⟨B, off, none⟩ u) := by
   refine ⟨rfl, rfl, rfl, by omega, fun B' o x hn hu => ?_, fun _ _ h _ => h, fun _ g h => ⟨g, h, G.le_refl g⟩, fun B' _ hn => hother B' (fun e => hn b _ h2 (by rw [e]; rfl)), fun i gi _ h h' _ => ⟨i, gi, h, h'⟩⟩
   have : B' ≠ B := fun e => by subst e; exact hn (hM o)
   rw [World.cell?_of_block (w := w) (w' := w.setCell ⟨B, off, none⟩ u) (by simpa using hother B' this)]; exact hu
  have hupd : upd γ b (some (.box B)) = γ := by funext i; by_cases hi : i = b <;> simp [upd, hi, h2]
  have hσ : upd (lk ((b, Blk.box T cs) :: rest)) b (some (.box T (cs.set off d'))) = lk ((b, Blk.box T (cs.set off d')) :: rest) := by
   funext i
   by_cases hi : i = b <;> simp [upd, lk, hi]
  have hst' := hst.change b (.box T (cs.set off d')) (.box B) (w.setCell ⟨B, off, none⟩ u) (by rw [hupd]; exact hev) (fun i gi B2 hi hgi hgiB => hother B2 (fun e => hi (hst.dist i b gi _ B2 hgi h2 hgiB (by rw [e]; rfl)))) (fun B' hB' => .inr ⟨_, h2, hB'⟩) (by
   rw [hupd]
   refine .box (us.setIfInBounds off u) T fz hB' (by simp [hlen]) (fun i x hx => ?_) (fun i d x hd hx => ?_)
   ·have hx0 := hx
    rw [Array.getElem?_setIfInBounds] at hx
    have hi : i < us.size := by
     have := (Array.getElem?_eq_some_iff.1 hx0).1
     simpa using this
    have hfro : (w.setCell ⟨B, off, none⟩ u).frozen? ⟨B, i, none⟩ = false := by
     have := (h1 i _ (Array.getElem?_eq_getElem hi)).2
     simp only [World.frozen?, hB] at this
     simp only [World.frozen?, hB']
     exact this
    refine ⟨?_, hfro⟩
    split at hx
    ·split at hx
     ·cases hx; exact hu1
     ·cases hx
    ·exact (h1 i x hx).1
   ·rw [Array.getElem?_setIfInBounds] at hx
    rw [List.getElem?_set] at hd
    split at hx
    ·rename_i e
     subst e
     rw [if_pos rfl, if_pos hoff] at hd
     rw [if_pos (by omega)] at hx
     cases hd; cases hx
     exact hu2.evolve hev
    ·rename_i e
     rw [if_neg e] at hd
     exact (hrr i d x hd hx).evolve hev)
  rw [hupd, hσ] at hst'
  exact ⟨v, γ, rfl, hst', hev, hv.evolve hev⟩
end Go.Id
namespace Go.Id
open Go
mutual
def renD (f : Nat → Nat) : D → D
 | .slice sz nil es tip => .slice sz nil (renLL f es) (tip.map f)
 | .arr b sz n => .arr (f b) sz n
 | .view b off sz n => .view (f b) off sz n
 | .ref b off => .ref (f b) off
 | .iptr cs => .iptr (renL f cs)
 | .fn g a b => .fn g (renL f a) (renL f b)
 | .agg cs => .agg (renL f cs)
 | .tup cs => .tup (renL f cs)
 | .iface t d => .iface t (renD f d)
 | .junk => .junk
 | .bool b => .bool b
 | .int k n => .int k n
 | .str s => .str s
 | .nilptr => .nilptr
 | .nilfn => .nilfn
 | .niliface => .niliface
 | .val v => .val v
 | .nilmap => .nilmap
 | .map b => .map (f b)
def renL (f : Nat → Nat) : List D → List D
 | [] => []
 | d :: ds => renD f d :: renL f ds
def renLL (f : Nat → Nat) : List (List D) → List (List D)
 | [] => []
 | e :: es => renL f e :: renLL f es
end
theorem renL_map (f : Nat → Nat) : ∀ l, renL f l = l.map (renD f)
 | [] => rfl
 | d :: ds => by rw [renL, renL_map f ds]; rfl
theorem renLL_map (f : Nat → Nat) : ∀ l, renLL f l = l.map (List.map (renD f))
 | [] => rfl
 | e :: es => by rw [renLL, renLL_map f es, renL_map]; rfl
theorem Rep.ren {M : Nat → Nat → Prop} {γ γ' : Nat → Option G} {w : World} {f : Nat → Nat} (hf : ∀ b g, γ b = some g → γ' (f b) = some g) {d : D} {v : Value} (h : Rep M γ w d v) : Rep M γ' w (renD f d) v := by
 have tipk : ∀ {tip : Option Nat} {n : Nat} {v : Value}, TipOk γ tip n v → TipOk γ' (tip.map f) n v := by
  intro tip n v ht t e
  cases tip with
  | none => cases e
  | some t0 =>
   simp only [Option.map_some, Option.some.injEq] at e
   subst e
   obtain ⟨sz, el, v', n', h1, h2, h3⟩ := ht t0 rfl
   exact ⟨sz, el, v', n', hf _ _ h1, h2, h3⟩
 induction h with
 | junk v => exact .junk v
 | bool b => exact .bool b
 | int k n => exact .int k n
 | str s => exact .str s
 | nilslice ht => exact .nilslice (tipk ht)
 | @slice sz es tip a cap vs hsz hvs hspot hc _ hcap ht ih =>
  rw [renD, renLL_map]
  have := @Rep.slice M γ' w sz (es.map (List.map (renD f))) (tip.map f) a cap vs (fun e he => by
   obtain ⟨e0, h0, rfl⟩ := List.mem_map.1 he
   simpa using hsz e0 h0) (by simpa using hvs) (fun h0 => hspot fun e0 => h0 (by rw [e0]; rfl)) hc (fun i j e d v he hd hv => by
   rw [List.getElem?_map, Option.map_eq_some_iff] at he
   obtain ⟨e0, h0, rfl⟩ := he
   rw [List.getElem?_map, Option.map_eq_some_iff] at hd
   obtain ⟨d0, h1, rfl⟩ := hd
   exact ih i j e0 d0 v h0 h1 hv) (by simpa using hcap) (by simpa using tipk ht)
  simpa using this
 | arr hb hn => exact .arr (hf _ _ hb) hn
 | view hb ha hn => exact .view (hf _ _ hb) ha hn
 | ref hb =>
  refine .ref ?_
  rcases hb with hb | ⟨c, k, hb⟩ | hb
  ·exact .inl (hf _ _ hb)
  ·exact .inr (.inl ⟨c, k, hf _ _ hb⟩)
  ·exact .inr (.inr (hf _ _ hb))
 | iptr vs hvs hspot hc _ ih =>
  rw [renD, renL_map]
  refine .iptr vs (by simpa using hvs) hspot hc (fun j d v hd hv => ?_)
  rw [List.getElem?_map, Option.map_eq_some_iff] at hd
  obtain ⟨d0, h1, rfl⟩ := hd
  exact ih j d0 v h1 hv
 | nilptr => exact .nilptr
 | fn hl hk _ _ ih1 ih2 =>
  rw [renD, renL_map, renL_map]
  refine .fn (by simpa using hl) (by simpa using hk) (fun i d v hd hv => ?_) (fun i d v hd hv => ?_)
  ·rw [List.getElem?_map, Option.map_eq_some_iff] at hd
   obtain ⟨d0, h1, rfl⟩ := hd
   exact ih1 i d0 v h1 hv
  ·rw [List.getElem?_map, Option.map_eq_some_iff] at hd
   obtain ⟨d0, h1, rfl⟩ := hd
   exact ih2 i d0 v h1 hv
 | nilfn => exact .nilfn
 | agg hl h1 _ ih =>
  rw [renD, renL_map]
  refine .agg (by simpa using hl) h1 (fun i d v hd hv => ?_)
  rw [List.getElem?_map, Option.map_eq_some_iff] at hd
  obtain ⟨d0, h1, rfl⟩ := hd
  exact ih i d0 v h1 hv
 | tup hl _ ih =>
  rw [renD, renL_map]
  refine .tup (by simpa using hl) (fun i d v hd hv => ?_)
  rw [List.getElem?_map, Option.map_eq_some_iff] at hd
  obtain ⟨d0, h1, rfl⟩ := hd
  exact ih i d0 v h1 hv
 | iface _ ih => exact .iface ih
 | niliface => exact .niliface
 | val v => exact .val v
 | nilmap => exact .nilmap
 | map hb => exact .map (hf _ _ hb)
def renB (f : Nat → Nat) : Blk → Blk
 | .box t cs => .box t (renL f cs)
 | .arr z cs => .arr z (renL f cs)
 | .tip e sz n => .tip e sz n
 | .dead => .dead
 | .iter s pos => .iter s pos
 | .map es clock => .map (es.map fun e => (e.1, renD f e.2.1, e.2.2)) clock
 | .miter m a b c => .miter (f m) a b c
theorem BlkRel.ren {M : Nat → Nat → Prop} {γ γ' : Nat → Option G} {w : World} {f : Nat → Nat} (hf : ∀ b g, γ b = some g → γ' (f b) = some g) {blk : Blk} {g : G} (h : BlkRel M γ w blk g) : BlkRel M γ' w (renB f blk) g := by
 cases h with
 | box vs e fz hB hl h1 hr =>
  rw [renB, renL_map]
  refine .box vs _ fz hB (by simpa using hl) h1 (fun i d v hd hv => ?_)
  rw [List.getElem?_map, Option.map_eq_some_iff] at hd
  obtain ⟨d0, h2, rfl⟩ := hd
  exact (hr i d0 v h2 hv).ren hf
 | arr vs e fz hB hl h1 hr hff =>
  rw [renB, renL_map]
  refine .arr vs e fz hB (by simpa using hl) (fun i v hn hi => h1 i v (by simpa using hn) hi) (fun i d v hd hv => ?_) (by simpa using hff)
  rw [List.getElem?_map, Option.map_eq_some_iff] at hd
  obtain ⟨d0, h2, rfl⟩ := hd
  exact (hr i d0 v h2 hv).ren hf
 | tip xs ho => exact .tip xs ho
 | iter hB => exact .iter hB
 | map en hB hl hk =>
  rw [renB]
  refine .map en hB (by simpa using hl) (fun i e k d n q1 q2 => ?_)
  rw [List.getElem?_map, Option.map_eq_some_iff] at q2
  obtain ⟨⟨k0, d0, n0⟩, q3, q4⟩ := q2
  simp only [Prod.mk.injEq] at q4
  obtain ⟨rfl, rfl, rfl⟩ := q4
  obtain ⟨r1, r2, r3⟩ := hk i e _ _ _ q1 q3
  exact ⟨r1, r2, r3.ren hf⟩
 | miter hB hm => exact .miter hB (hf _ _ hm)
 | dead hB => exact .dead hB
mutual
theorem renD_back {f g : Nat → Nat} (h : ∀ n, g (f n) = n) : ∀ d, renD g (renD f d) = d
 | .slice sz nil es tip => by
  rw [renD, renD, renLL_back h es]
  cases tip <;> simp [h]
 | .arr b sz n => by rw [renD, renD, h]
 | .view b off sz n => by rw [renD, renD, h]
 | .ref b off => by rw [renD, renD, h]
 | .iptr cs => by rw [renD, renD, renL_back h cs]
 | .fn k a b => by rw [renD, renD, renL_back h a, renL_back h b]
 | .agg cs => by rw [renD, renD, renL_back h cs]
 | .tup cs => by rw [renD, renD, renL_back h cs]
 | .iface t d => by rw [renD, renD, renD_back h d]
 | .junk => rfl
 | .bool b => rfl
 | .int k n => rfl
 | .str s => rfl
 | .nilptr => rfl
 | .nilfn => rfl
 | .niliface => rfl
 | .val _ => rfl
 | .nilmap => rfl
 | .map b => by rw [renD, renD, h]
theorem renL_back {f g : Nat → Nat} (h : ∀ n, g (f n) = n) : ∀ l, renL g (renL f l) = l
 | [] => rfl
 | d :: ds => by rw [renL, renL, renD_back h d, renL_back h ds]
theorem renLL_back {f g : Nat → Nat} (h : ∀ n, g (f n) = n) : ∀ l, renLL g (renLL f l) = l
 | [] => rfl
 | e :: es => by rw [renLL, renLL, renL_back h e, renLL_back h es]
end
theorem renB_back {f g : Nat → Nat} (h : ∀ n, g (f n) = n) (blk : Blk) : renB g (renB f blk) = blk := by
 cases blk with
 | map es c => simp only [renB, List.map_map, Blk.map.injEq, and_true]; rw [List.map_congr_left (g := id) (fun e _ => by simp [renD_back h])]; simp
 | _ => simp [renB, renL_back h, h]
def renS (f : Nat → Nat) (l : List (Nat × Blk)) : List (Nat × Blk) := l.map fun p => (f p.1, renB f p.2)
theorem lk_renS {f g : Nat → Nat} (h : ∀ n, g (f n) = n) : ∀ (l : List (Nat × Blk)) (b : Nat), lk (renS f l) (f b) = (lk l b).map (renB f)
 | [], b => rfl
 | (k, v) :: l, b => by
  have := lk_renS h l b
  simp only [renS, List.map_cons, lk] at this ⊢
  by_cases e : b = k
  ·subst e; simp
  ·have : ¬ f b = f k := fun q => e (by rw [← h b, q, h k])
   simp only [if_neg e, if_neg this]
   exact lk_renS h l b
theorem lk_renS_range {f : Nat → Nat} : ∀ (l : List (Nat × Blk)) (c : Nat) (x : Blk), lk (renS f l) c = some x → ∃ b, c = f b
 | [], c, x, h => by cases h
 | (k, v) :: l, c, x, h => by
  simp only [renS, List.map_cons, lk] at h
  split at h
  ·rename_i e; exact ⟨k, e⟩
  ·exact lk_renS_range l c x h
section
variable {P : Prg} {M : Nat → Nat → Prop} {f g : Nat → Nat}
def fwd (f g : Nat → Nat) (γ : Nat → Option G) : Nat → Option G := fun c => if f (g c) = c then γ (g c) else none
theorem fwd_at (h : ∀ n, g (f n) = n) (γ : Nat → Option G) (b : Nat) : fwd f g γ (f b) = γ b := by simp [fwd, h]
theorem fwd_inv {γ : Nat → Option G} {c : Nat} {x : G} (hc : fwd f g γ c = some x) : f (g c) = c ∧ γ (g c) = some x := by
 unfold fwd at hc
 split at hc
 ·exact ⟨by assumption, hc⟩
 ·cases hc
theorem mall_fwd (h : ∀ n, g (f n) = n) (γ : Nat → Option G) (B off : Nat) : Mall (P.base M) (fwd f g γ) B off ↔ Mall (P.base M) γ B off := by
 constructor
 ·rintro (hm | ⟨c, x, hc, hw⟩)
  ·exact .inl hm
  ·exact .inr ⟨g c, x, (fwd_inv hc).2, hw⟩
 ·rintro (hm | ⟨b, x, hb, hw⟩)
  ·exact .inl hm
  ·exact .inr ⟨f b, x, (fwd_at h γ b).trans hb, hw⟩
theorem Store.forth (h : ∀ n, g (f n) = n) {γ : Nat → Option G} {l : List (Nat × Blk)} {w : World} (hs : Store (P.base M) γ (lk l) w) : Store (P.base M) (fwd f g γ) (lk (renS f l)) w := by
 refine ⟨fun c => ?_, fun c c' x x' B h1 h2 h3 h4 => ?_, hs.outer, fun c x B off h1 h2 => hs.apart (g c) x B off (fwd_inv h1).2 h2, hs.inv, fun c x B h1 h2 => hs.low (g c) x B (fwd_inv h1).2 h2, hs.big⟩
 ·by_cases hc : f (g c) = c
  ·rcases hs.names (g c) with ⟨blk, x, h1, h2, h3⟩ | ⟨h1, h2⟩
   ·refine .inl ⟨renB f blk, x, by rw [← hc, lk_renS h, h1]; rfl, by rw [← hc, fwd_at h, h2], ?_⟩
    exact (h3.ren (γ' := Go.Id.fwd f g γ) (f := f) (fun b y hy => (fwd_at h γ b).trans hy)).same (fun B off => mall_fwd h γ B off)
   ·exact .inr ⟨by rw [← hc, lk_renS h, h1]; rfl, by rw [← hc, fwd_at h, h2]⟩
  ·refine .inr ⟨?_, by simp [Go.Id.fwd, hc]⟩
   cases hq : lk (renS f l) c with
   | none => rfl
   | some x =>
    obtain ⟨b, rfl⟩ := lk_renS_range l c x hq
    exact absurd (by rw [h]) hc
 ·obtain ⟨a1, a2⟩ := fwd_inv h1
  obtain ⟨b1, b2⟩ := fwd_inv h2
  have := hs.dist _ _ _ _ B a2 b2 h3 h4
  rw [← a1, ← b1, this]
theorem back_of (h : ∀ n, g (f n) = n) {γ' : Nat → Option G} {l : List (Nat × Blk)} {w : World} (hs : Store (P.base M) γ' (lk (renS f l)) w) {c : Nat} {x : G} (hc : γ' c = some x) : f (g c) = c := by
 rcases hs.names c with ⟨blk, _, h1, _⟩ | ⟨_, h2⟩
 ·obtain ⟨b, rfl⟩ := lk_renS_range l c blk h1
  rw [h]
 ·rw [hc] at h2; cases h2
theorem mall_back (h : ∀ n, g (f n) = n) {γ' : Nat → Option G} {l : List (Nat × Blk)} {w : World} (hs : Store (P.base M) γ' (lk (renS f l)) w) (B off : Nat) : Mall (P.base M) (fun b => γ' (f b)) B off ↔ Mall (P.base M) γ' B off := by
 constructor
 ·rintro (hm | ⟨b, x, hb, hw⟩)
  ·exact .inl hm
  ·exact .inr ⟨f b, x, hb, hw⟩
 ·rintro (hm | ⟨c, x, hc, hw⟩)
  ·exact .inl hm
  ·exact .inr ⟨g c, x, by show γ' (f (g c)) = some x; rw [back_of h hs hc]; exact hc, hw⟩
theorem Store.back (h : ∀ n, g (f n) = n) {γ' : Nat → Option G} {l : List (Nat × Blk)} {w : World} (hs : Store (P.base M) γ' (lk (renS f l)) w) : Store (P.base M) (fun b => γ' (f b)) (lk l) w := by
 refine ⟨fun b => ?_, fun b b' x x' B h1 h2 h3 h4 => ?_, hs.outer, fun b x B off h1 h2 => hs.apart (f b) x B off h1 h2, hs.inv, fun b x B h1 h2 => hs.low (f b) x B h1 h2, hs.big⟩
 ·have hlk := lk_renS h l b
  rcases hs.names (f b) with ⟨blk, x, h1, h2, h3⟩ | ⟨h1, h2⟩
  ·rw [hlk, Option.map_eq_some_iff] at h1
   obtain ⟨blk0, q1, rfl⟩ := h1
   refine .inl ⟨blk0, x, q1, h2, ?_⟩
   have := (h3.ren (γ' := fun b => γ' (f b)) (f := g) (fun c y hy => by show γ' (f (g c)) = some y; rw [back_of h hs hy]; exact hy)).same (fun B off => mall_back h hs B off)
   rw [renB_back h] at this
   exact this
  ·rw [hlk, Option.map_eq_none_iff] at h1
   exact .inr ⟨h1, h2⟩
 ·have := hs.dist _ _ _ _ B h1 h2 h3 h4
  rw [← h b, this, h]
theorem CallE.rename (h : ∀ n, g (f n) = n) {k : FuncId} {args : List D} {ins outs : List (Nat × Blk)} {val : D} (hc : CallE P k args ins val outs) : CallE P k (args.map (renD f)) (renS f ins) (renD f val) (renS f outs) := by
 refine ⟨hc.1, fun M γ' w vs hst hl hr => ?_⟩
 have hb := fun {c x} (q : γ' c = some x) => back_of h hst q
 refine (hc.2 M (fun b => γ' (f b)) w vs (hst.back h) (by simpa using hl) (fun i d v hd hv => ?_)).mono ?_
 ·have := ((hr i (renD f d) v (by rw [List.getElem?_map, hd]; rfl) hv).ren (γ' := fun b => γ' (f b)) (f := g) (fun c y hy => by show γ' (f (g c)) = some y; rw [hb hy]; exact hy)).same (fun B off => mall_back h hst B off)
  rw [renD_back h] at this
  exact this
 ·rintro e w' ⟨v, γ₂, rfl, q1, q2, q3⟩
  refine ⟨v, fwd f g γ₂, rfl, q1.forth h, ?_, ?_⟩
  ·refine ⟨q2.os, q2.tape, q2.output, q2.size, fun B off u hm hu => q2.cell B off u (fun q => hm ((mall_back h hst B off).1 q)) hu, fun B off hm hlt => (mall_back h hst B off).1 (q2.wr B off ((mall_fwd h γ₂ B off).1 hm) hlt), fun c x hx => ?_, fun B hB hn => q2.block B hB (fun b x hx => hn (f b) x hx), fun c x B hx hB hlt => ?_⟩
   ·obtain ⟨x', r1, r2⟩ := q2.names (g c) x (by show γ' (f (g c)) = some x; rw [hb hx]; exact hx)
    exact ⟨x', by rw [← hb hx, fwd_at h]; exact r1, r2⟩
   ·obtain ⟨b', x', r1, r2⟩ := q2.old (g c) x B (fwd_inv hx).2 hB hlt
    exact ⟨f b', x', r1, r2⟩
  ·exact (q3.ren (γ' := fwd f g γ₂) (f := f) (fun b y hy => (fwd_at h γ₂ b).trans hy)).same (fun B off => mall_fwd h γ₂ B off)
end
end Go.Id
namespace Go.Id
open Go
theorem lk_some_mem {α : Type} {l : List (Nat × α)} {b : Nat} {x : α} (h : lk l b = some x) : (b, x) ∈ l := lk_mem l b x h
theorem lk_isSome_mem {α : Type} : ∀ {l : List (Nat × α)} {b : Nat}, (lk l b).isSome = true → b ∈ l.map (·.1)
 | [], b, h => by cases h
 | (k, v) :: l, b, h => by
  simp only [lk] at h
  split at h
  ·rename_i e; subst e; simp
  ·simp only [List.map_cons, List.mem_cons]; exact .inr (lk_isSome_mem h)
theorem CallK.imp {P : Prg} {fo : D} {args : List D} {σ : List (Nat × Blk)} {K : D → Rec → Prop} {k : FuncId} {first cap as : List D} {ins outs : List (Nat × Blk)} {val : D} (h : CallE P k as ins val outs) (hfo : fo = .fn (.func k) first cap) (has : as = (first ++ args ++ cap).map fg)
  (hin : ∀ p ∈ ins, lk σ p.1 = some p.2 ∧ BClo (fun i => (lk ins i).isSome = true) p.2) (hout : ∀ p ∈ outs, (lk ins p.1).isSome = true ∨ lk σ p.1 = none)
  (hcl : ∀ d ∈ as, Clo (fun i => (lk ins i).isSome = true) d) (hk : K val ⟨ins.map (·.1) ++ outs.map (·.1), outs⟩) : CallK P fo args σ K := by
 refine ⟨k, first, cap, ins, val, ⟨ins.map (·.1) ++ outs.map (·.1), outs⟩, hfo, by rw [← has]; exact h, ?_, ?_, by rw [← has]; exact hcl, ?_, hk⟩
 ·intro b blk hb
  exact hin (b, blk) (lk_some_mem hb)
 ·intro b hb
  obtain ⟨x, hx⟩ := Option.isSome_iff_exists.1 hb
  exact (hout (b, x) (lk_some_mem hx)).imp (fun q => q) (fun q => ⟨q, List.mem_append.2 (.inr (lk_isSome_mem hb))⟩)
 ·intro b hb
  exact List.mem_append.2 (.inl (lk_isSome_mem hb))
theorem Ends.imp {P : Prg} {fn : Func} {ins outs : List (Nat × Blk)} {val d : D} {e : Exit} {st : St} (he : e = .normal ∨ e = .ret) (hd : resD P.prog fn st = some d) (hle : Le d val) (hcl : Clo (fun i => (lk outs i).isSome = true) val)
  (hout : ∀ p ∈ outs, lk st.σ p.1 = some p.2 ∧ BClo (fun i => (lk outs i).isSome = true) p.2) (hin : ∀ p ∈ ins, (lk outs p.1).isSome = true) : Ends P fn ins val outs e st := ⟨he, d, hd, hle, hcl, hout, hin⟩
end Go.Id
namespace Go.Id
open Go
section
variable {P : Prg} {ent : List Nat} {N : Nat} {Q : Exit → St → Prop} {st : St}
theorem WP.sr (ks : List Nat) {id : Nat} {ops : Array Oper} {y : Code} (hd : dstsOk N ops = true)
  (h : ∀ K : St → List RecX → Prop, (∀ st' rs, WP P ent N y Q ⟨Go.Id.keep ks st'.F, st'.σ⟩ → K st' rs) → runOps P ops ops.toList st [] K) : WP P ent N (.seq (.region id ops false) y) Q st :=
 WP.seq (WP.region hd fun K hK => h K fun st' rs hy => hK st' rs (WP.weak (Weak.keep ks) hy))
theorem WP.sd (ks : List Nat) {id : Nat} {ops : Array Oper} {y : Code} (hm : P.prog.follows .mixedOrders = true) (hd : dstsOk N ops = true)
  (h : ∀ K : St → List RecX → Prop, (∀ st' rs, bernB ops rs = true → WP P ent N y Q ⟨Go.Id.keep ks st'.F, st'.σ⟩ → K st' rs) → runOps P ops ops.toList st [] K) : WP P ent N (.seq (.region id ops true) y) Q st :=
 WP.seq (WP.drawn hm hd fun K hK => h K fun st' rs hb hy => hK st' rs hb (WP.weak (Weak.keep ks) hy))
theorem WP.sm (ks : List Nat) (t : Nat) (d : D) {id : Nat} {ops : Array Oper} {y : Code} (hd : dstsOk N ops = true)
  (h : ∀ K : St → List RecX → Prop, (∀ st' rs, (∀ k ∈ ks, st'.get k = st.get k) → st'.σ = st.σ → Le (st'.get t) d → K st' rs) → runOps P ops ops.toList st [] K) (hy : WP P ent N y Q ⟨(t, d) :: Go.Id.keep ks st.F, st.σ⟩) :
  WP P ent N (.seq (.region id ops false) y) Q st := WP.seqMeet ks t d hd rfl h hy
theorem WP.smd (ks : List Nat) (t : Nat) (d : D) {id : Nat} {ops : Array Oper} {y : Code} (hm : P.prog.follows .mixedOrders = true) (hd : dstsOk N ops = true)
  (h : ∀ K : St → List RecX → Prop, (∀ st' rs, bernB ops rs = true → (∀ k ∈ ks, st'.get k = st.get k) → st'.σ = st.σ → Le (st'.get t) d → K st' rs) → runOps P ops ops.toList st [] K) (hy : WP P ent N y Q ⟨(t, d) :: Go.Id.keep ks st.F, st.σ⟩) :
  WP P ent N (.seq (.region id ops true) y) Q st := WP.seqMeetDrawn ks t d hm hd rfl h hy
theorem WP.lp {X : Type} (ks : List Nat) (V : X → List (Nat × D)) (T : X → List (Nat × Blk)) (μ : X → Nat) {F0 : List (Nat × D)} {c : Code} (hF : Go.Id.keep ks st.F = F0)
  (h : ∀ x, WP P ent N c (thenQ (fun st' => ∃ y, μ y < μ x ∧ Weak ent st' ⟨V y ++ F0, T y⟩) Q) ⟨V x ++ F0, T x⟩) (x : X) (h0 : Weak ent st ⟨V x ++ F0, T x⟩) : WP P ent N (.loop c) Q st :=
 WP.loop (fun x => ⟨V x ++ F0, T x⟩) μ h x h0
theorem WP.meet {x y : Code} (S : St) (h : WP P ent N x (thenQ (fun st' => Weak ent st' S) Q) st) (hy : WP P ent N y Q S) : WP P ent N (.seq x y) Q st :=
 WP.seq (WP.mono h fun e st' hq => by
  cases e with
  | normal => exact WP.weak hq hy
  | _ => exact hq)
theorem Weak.nil {F' : List (Nat × D)} (h : ∀ p ∈ F', Le (st.get p.1) p.2) (hc : ∀ p ∈ F', Clo (fun _ => False) p.2) : Weak [] st ⟨F', []⟩ :=
 Weak.store h (by simp) (fun p hp => (hc p hp).mono fun _ h => h.elim) (by simp) (by simp)
end
theorem lt_of_q {k n : Nat} (h : decide ((k : Int) < (n : Int)) = true) : k < n := by simpa using h
theorem ge_of_q {k n : Nat} (h : decide ((k : Int) < (n : Int)) = false) : n ≤ k := by simpa using h
theorem getE {α : Type} {l : List α} {k : Nat} (h : k < l.length) : l[k]? = some l[k] := List.getElem?_eq_getElem h
theorem dropE {α : Type} {l : List α} {k : Nat} (h : k < l.length) : l.drop k = l[k] :: l.drop (k + 1) := List.drop_eq_getElem_cons h
theorem dropN {α : Type} {l : List α} {k : Nat} (h : l.length ≤ k) : l.drop k = [] := List.drop_eq_nil_of_le h
theorem wrapS {k n : Nat} (h : k < n) (hn : n ≤ 140737488355328) : IntKind.wrap .i64 ((k : Int) + 1) = ((k + 1 : Nat) : Int) := by
 rw [wrap_i64 (by omega) (by omega)]; rfl
theorem LN : (∀ (α : Type) (l : List α), (1 ≤ (l.length : Int)) = (l ≠ [])) ∧ (∀ (α : Type) (l : List α), ((l.length : Int) < 1) = (l = [])) ∧ (∀ (α : Type) (l : List α), ((l.length : Int) = 0) = (l = [])) ∧
  (∀ (α : Type) (l : List α), ((l.length : Int) > 0) = (l ≠ [])) ∧ (∀ (α : Type) (l : List α), ((l.length : Int) ≤ 0) = (l = [])) := by
 refine ⟨?_, ?_, ?_, ?_, ?_⟩ <;> intro α l <;> cases l <;> simp <;> omega
def Les : List D → List D → Prop
 | [], [] => True
 | a :: l, b :: m => Le a b ∧ Les l m
 | _, _ => False
theorem Les.at : ∀ {l m : List D}, Les l m → l.length = m.length ∧ ∀ (i : Nat) a b, l[i]? = some a → m[i]? = some b → Le a b
 | [], [], _ => ⟨rfl, fun i a b h => by cases h⟩
 | a :: l, b :: m, h => by
  obtain ⟨h1, h2⟩ := Les.at h.2
  refine ⟨by simp [h1], fun i x y hx hy => ?_⟩
  cases i with
  | zero => simp at hx hy; subst hx; subst hy; exact h.1
  | succ i => simp at hx hy; exact h2 i x y hx hy
 | [], _ :: _, h => h.elim
 | _ :: _, [], h => h.elim
theorem CallE.weak {P : Prg} {k : FuncId} {args args' : List D} {ins outs : List (Nat × Blk)} {val val' : D} (h : CallE P k args ins val outs) (ha : Les args' args) (hv : Le val val') : CallE P k args' ins val' outs := by
 obtain ⟨hl, hle⟩ := ha.at
 refine ⟨h.1, fun M γ w vs hst hlen hr => (h.2 M γ w vs hst (by omega) (fun i d v hd hv => ?_)).mono ?_⟩
 ·have hi : i < args'.length := by rw [hl]; exact (List.getElem?_eq_some_iff.1 hd).1
  exact hle i _ _ (List.getElem?_eq_getElem hi) hd _ _ _ _ (hr i _ v (List.getElem?_eq_getElem hi) hv)
 ·rintro e w' ⟨v, γ', rfl, q1, q2, q3⟩
  exact ⟨v, γ', rfl, q1, q2, hv _ _ _ _ q3⟩
theorem getM {α β : Type} {f : α → β} {l : List α} {k : Nat} (h : k < l.length) : (l.map f)[k]? = some (f l[k]) := by simp [h]
theorem takeS {α : Type} {l : List α} {k : Nat} (h : k < l.length) : l.take (k + 1) = l.take k ++ [l[k]] := by
 rw [List.take_succ_eq_append_getElem h]
theorem nl_false {α : Type} {nl : Bool} {l : List α} {k : Nat} (h : nl = true → l = []) (hk : k < l.length) : nl = false := by
 cases nl
 ·rfl
 ·rw [h rfl] at hk; simp at hk
end Go.Id
namespace Go.Id
open Go
def UpD (t sz : Nat) (d d' : D) : Prop := d' = d ∨ ∃ z, d = .slice z true [] none ∧ d' = .slice sz true [] (some t)
def UpL (t sz : Nat) : List D → List D → Prop
 | [], [] => True
 | d :: l, d' :: l' => UpD t sz d d' ∧ UpL t sz l l'
 | _, _ => False
def UpF (t sz : Nat) : List (Nat × D) → List (Nat × D) → Prop
 | [], [] => True
 | p :: l, p' :: l' => p'.1 = p.1 ∧ UpD t sz p.2 p'.2 ∧ UpF t sz l l'
 | _, _ => False
def UpB (t sz : Nat) : Blk → Blk → Prop
 | .box T cs, .box T' cs' | .arr T cs, .arr T' cs' => T' = T ∧ UpL t sz cs cs'
 | b, b' => b' = b
def UpS (t sz : Nat) : List (Nat × Blk) → List (Nat × Blk) → Prop
 | [], [] => True
 | p :: l, p' :: l' => p'.1 = p.1 ∧ UpB t sz p.2 p'.2 ∧ UpS t sz l l'
 | _, _ => False
theorem UpL.at {t sz : Nat} : ∀ {l l' : List D}, UpL t sz l l' → l'.length = l.length ∧ ∀ (i : Nat) d', l'[i]? = some d' → ∃ d, l[i]? = some d ∧ UpD t sz d d'
 | [], [], _ => ⟨rfl, fun i d h => by simp at h⟩
 | d :: l, d' :: l', h => by
  obtain ⟨h1, h2⟩ := UpL.at h.2
  refine ⟨by simp [h1], fun i x hx => ?_⟩
  cases i with
  | zero => simp at hx; subst hx; exact ⟨d, rfl, h.1⟩
  | succ i => simp at hx; simpa using h2 i x hx
 | [], _ :: _, h => h.elim
 | _ :: _, [], h => h.elim
theorem UpF.lk {t sz : Nat} : ∀ {l l' : List (Nat × D)}, UpF t sz l l' → ∀ k, (lk l k = none ∧ Go.Id.lk l' k = none) ∨ ∃ d d', Go.Id.lk l k = some d ∧ Go.Id.lk l' k = some d' ∧ UpD t sz d d'
 | [], [], _, k => .inl ⟨rfl, rfl⟩
 | (i, d) :: l, (i', d') :: l', h, k => by
  obtain ⟨h1, h2, h3⟩ := h
  simp only at h1; subst h1
  simp only [Go.Id.lk]
  split
  ·exact .inr ⟨_, _, rfl, rfl, h2⟩
  ·exact UpF.lk h3 k
 | [], _ :: _, h, _ => h.elim
 | _ :: _, [], h, _ => h.elim
theorem UpS.lk {t sz : Nat} : ∀ {l l' : List (Nat × Blk)}, UpS t sz l l' → ∀ k, (Go.Id.lk l k = none ∧ Go.Id.lk l' k = none) ∨ ∃ d d', Go.Id.lk l k = some d ∧ Go.Id.lk l' k = some d' ∧ UpB t sz d d'
 | [], [], _, k => .inl ⟨rfl, rfl⟩
 | (i, d) :: l, (i', d') :: l', h, k => by
  obtain ⟨h1, h2, h3⟩ := h
  simp only at h1; subst h1
  simp only [Go.Id.lk]
  split
  ·exact .inr ⟨_, _, rfl, rfl, h2⟩
  ·exact UpS.lk h3 k
 | [], _ :: _, h, _ => h.elim
 | _ :: _, [], h, _ => h.elim
theorem UpD.rep {t sz : Nat} {M M' : Nat → Nat → Prop} {γ γ' : Nat → Option G} {w : World} (hv : Evo M γ w M' γ' w) {e : TypeId} (ht : γ' t = some (.tip sz e (.slice none 0 0) 0)) {d d' : D} (h : UpD t sz d d') {v : Value} (hr : Rep M γ w d v) : Rep M' γ' w d' v := by
 rcases h with rfl | ⟨z, rfl, rfl⟩
 ·exact hr.evo hv
 ·have hv' : v = .slice none 0 0 := by cases hr; rfl
  subst hv'
  refine .nilslice fun t' e' => ?_
  cases e'
  exact ⟨sz, e, _, 0, ht, Nat.le_refl _, fun _ => rfl⟩
theorem Weak.ghost {ent : List Nat} {st : St} (t : Nat) (e : TypeId) (sz : Nat) {F' : List (Nat × D)} {σ' : List (Nat × Blk)} (hn : lk st.σ t = none) (hF : UpF t sz st.F F') (hσ : UpS t sz st.σ σ') : Weak ent st ⟨F', (t, .tip e sz 0) :: σ'⟩ := by
 rintro P E N a w ⟨γ, h1, h2, h3, h4, h5, h6⟩
 let g0 : G := .tip sz e (.slice none 0 0) 0
 have hγt : γ t = none := by
  rcases h2.names t with ⟨blk, g, q1, _⟩ | ⟨_, q⟩
  ·rw [hn] at q1; cases q1
  ·exact q
 have hM : ∀ B off, Mall E.M (upd γ t (some g0)) B off ↔ Mall E.M γ B off := by
  intro B off
  constructor
  ·rintro (hm | ⟨b, g, hg, hw⟩)
   ·exact .inl hm
   ·by_cases hb : b = t
    ·subst hb; rw [upd_same] at hg; cases hg; cases hw.1
    ·rw [upd_other _ _ hb] at hg; exact .inr ⟨b, g, hg, hw⟩
  ·rintro (hm | ⟨b, g, hg, hw⟩)
   ·exact .inl hm
   ·have hb : b ≠ t := fun e => by subst e; rw [hγt] at hg; cases hg
    exact .inr ⟨b, g, by rw [upd_other _ _ hb]; exact hg, hw⟩
 have hnames : ∀ b g, γ b = some g → ∃ g', upd γ t (some g0) b = some g' ∧ g.le g' := by
  intro b g hg
  have hb : b ≠ t := fun e => by subst e; rw [hγt] at hg; cases hg
  exact ⟨g, by rw [upd_other _ _ hb]; exact hg, G.le_refl g⟩
 have hev : Evo (Mall E.M γ) γ w (Mall E.M (upd γ t (some g0))) (upd γ t (some g0)) w := ⟨fun _ _ _ _ h => h, fun B off h _ => (hM B off).1 h, hnames⟩
 have hin : ∀ b g, upd γ t (some g0) b = some g → (∃ B, g.block = some B) → γ b = some g := by
  rintro b g hg ⟨B, hB⟩
  by_cases hb : b = t
  ·subst hb; rw [upd_same] at hg; cases hg; cases hB
  ·rw [upd_other _ _ hb] at hg; exact hg
 refine ⟨upd γ t (some g0), h1, ⟨fun b => ?_, fun b b' g g' B q1 q2 q3 q4 => h2.dist b b' g g' B (hin _ _ q1 ⟨_, q3⟩) (hin _ _ q2 ⟨_, q4⟩) q3 q4, h2.outer, fun b g B off q1 q2 => h2.apart b g B off (hin _ _ q1 ⟨_, q2⟩) q2, h2.inv, fun b g B q1 q2 => h2.low b g B (hin _ _ q1 ⟨_, q2⟩) q2, h2.big⟩, ?_, h4, h5.back (fun b g B q1 q2 => ⟨b, g, hin _ _ q1 ⟨_, q2⟩, q2⟩), fun k => ?_⟩
 ·by_cases hb : b = t
  ·subst hb
   exact .inl ⟨.tip e sz 0, g0, by simp [lk], upd_same _ _ _, .tip [] ⟨by simp, .inl ⟨rfl, rfl⟩⟩⟩
  ·rw [upd_other _ _ hb]
   simp only [lk, if_neg hb]
   rcases h2.names b with ⟨blk, g, q1, q2, q3⟩ | ⟨q1, q2⟩
   ·rcases hσ.lk b with ⟨r1, _⟩ | ⟨d, d', r1, r2, r3⟩
    ·rw [q1] at r1; cases r1
    ·rw [q1] at r1; cases r1
     refine .inl ⟨d', g, r2, q2, ?_⟩
     cases q3 with
     | @box cs B vs T fz hB hl hh hr =>
      cases d' with
      | box T' cs' =>
       obtain ⟨rfl, hu⟩ := r3
       obtain ⟨hlen, hat⟩ := hu.at
       exact .box vs _ fz hB (by omega) hh (fun i x v hx hv => by
        obtain ⟨d0, s1, s2⟩ := hat i x hx
        exact s2.rep hev (upd_same _ _ _) (hr i d0 v s1 hv))
      | _ => cases r3
     | @arr cs B cap z vs T fz hB hl hh hr hf =>
      cases d' with
      | arr T' cs' =>
       obtain ⟨rfl, hu⟩ := r3
       obtain ⟨hlen, hat⟩ := hu.at
       exact .arr vs _ fz hB (by omega) (fun i v hi hv => hh i v (by omega) hv) (fun i x v hx hv => by
        obtain ⟨d0, s1, s2⟩ := hat i x hx
        exact s2.rep hev (upd_same _ _ _) (hr i d0 v s1 hv)) hf
      | _ => cases r3
     | tip xs ho => simp only [UpB] at r3; subst r3; exact .tip xs ho
     | iter hB => simp only [UpB] at r3; subst r3; exact .iter hB
     | map en hB hl hk => simp only [UpB] at r3; subst r3; exact (BlkRel.map en hB hl hk).evo hev (fun _ _ => rfl)
     | miter hB hm => simp only [UpB] at r3; subst r3; exact (BlkRel.miter hB hm).evo hev (fun _ _ => rfl)
     | dead hB => simp only [UpB] at r3; subst r3; exact .dead hB
   ·rcases hσ.lk b with ⟨_, r2⟩ | ⟨d, d', r1, r2, r3⟩
    ·exact .inr ⟨r2, q2⟩
    ·rw [q1] at r1; cases r1
 ·refine ⟨h3.os, h3.tape, h3.output, h3.size, h3.cell, fun B off q1 q2 => h3.wr B off ((hM B off).1 q1) q2, fun b g hg => ?_, h3.block, fun b g B q1 q2 q3 => h3.old b g B (hin _ _ q1 ⟨_, q2⟩) q2 q3⟩
  obtain ⟨g', q1, q2⟩ := h3.names b g hg
  obtain ⟨g'', q3, q4⟩ := hnames b g' q1
  exact ⟨g'', q3, G.le_trans q2 q4⟩
 ·have h0 := h6 k
  rcases hF.lk k with ⟨r1, r2⟩ | ⟨d, d', r1, r2, r3⟩
  ·simp only [St.get, r2, Option.getD_none]; exact .junk _
  ·simp only [St.get, r1, r2, Option.getD_some] at h0 ⊢
   exact r3.rep hev (upd_same _ _ _) h0
def ArD (b sz : Nat) (es : List (List D)) (d d' : D) : Prop := (d' = d ∧ Clo (fun i => i ≠ b) d) ∨ (d = .arr b sz es.length ∧ d' = .slice sz false es (some b))
def ArF (b sz : Nat) (es : List (List D)) : List (Nat × D) → List (Nat × D) → Prop
 | [], [] => True
 | p :: l, p' :: l' => p'.1 = p.1 ∧ ArD b sz es p.2 p'.2 ∧ ArF b sz es l l'
 | _, _ => False
theorem ArF.lk {b sz : Nat} {es : List (List D)} : ∀ {l l' : List (Nat × D)}, ArF b sz es l l' → ∀ k, (Go.Id.lk l k = none ∧ Go.Id.lk l' k = none) ∨ ∃ d d', Go.Id.lk l k = some d ∧ Go.Id.lk l' k = some d' ∧ ArD b sz es d d'
 | [], [], _, k => .inl ⟨rfl, rfl⟩
 | (i, d) :: l, (i', d') :: l', h, k => by
  obtain ⟨h1, h2, h3⟩ := h
  simp only at h1; subst h1
  simp only [Go.Id.lk]
  split
  ·exact .inr ⟨_, _, rfl, rfl, h2⟩
  ·exact ArF.lk h3 k
 | [], _ :: _, h, _ => h.elim
 | _ :: _, [], h, _ => h.elim
theorem flat_get {sz : Nat} : ∀ (es : List (List D)), (∀ e ∈ es, e.length = sz) → ∀ (i j : Nat) x d, es[i]? = some x → x[j]? = some d → es.flatten[i * sz + j]? = some d
 | [], _, i, j, x, d, h, _ => by simp at h
 | e :: es, he, i, j, x, d, h, hd => by
  have hl : e.length = sz := he e (by simp)
  rw [List.flatten_cons]
  cases i with
  | zero =>
   simp at h; subst h
   have := (List.getElem?_eq_some_iff.1 hd).1
   rw [Nat.zero_mul, Nat.zero_add, List.getElem?_append_left this]; exact hd
  | succ i =>
   simp at h
   rw [List.getElem?_append_right (by rw [hl, Nat.succ_mul]; omega), hl]
   have : (i + 1) * sz + j - sz = i * sz + j := by rw [Nat.succ_mul]; omega
   rw [this]
   exact flat_get es (fun x hx => he x (by simp [hx])) i j x d h hd
theorem Weak.arrTip' {ent : List Nat} {st : St} (b : Nat) (e : TypeId) (sz : Nat) (es : List (List D)) (rest : List D) (k0 : Nat) {F' : List (Nat × D)} {σ' : List (Nat × Blk)} (hk : st.get k0 = .arr b sz es.length) (hb : lk st.σ b = some (.arr e (es.flatten ++ rest))) (hes : ∀ x ∈ es, x.length = sz) (hent : b ∉ ent)
  (hF : ArF b sz es st.F F') (hec : ∀ x ∈ es, ∀ d ∈ x, Clo (fun i => i ≠ b) d) (hσ : ∀ i, i ≠ b → lk σ' i = lk st.σ i) (hσb : lk σ' b = some (.tip e sz es.length)) (hσc : ∀ p ∈ st.σ, p.1 ≠ b → BClo (fun i => i ≠ b) p.2) : Weak ent st ⟨F', σ'⟩ := by
 rintro P E N a w ⟨γ, h1, h2, h3, h4, h5, h6⟩
 obtain ⟨g, q1, q2⟩ := h2.hit hb
 have hflen := flat_len es hes
 cases q2 with
 | @arr _ B cap z vs _ fz hB hl hh hr hf =>
  obtain ⟨rfl, hf2, hf3⟩ := hf
  have hcap : es.length ≤ cap ∧ z = sz := by
   have h0 := h6 k0
   rw [hk] at h0
   generalize a.tmps.getD k0 undef = v0 at h0
   cases h0 with
   | arr hγ hn => rw [q1] at hγ; cases hγ; exact ⟨hn, rfl⟩
  obtain ⟨hcap, rfl⟩ := hcap
  rw [List.length_append, hflen] at hl
  have hle : es.length * z ≤ vs.size := by omega
  have htl : (vs.toList.take (es.length * z)).length = es.length * z := by rw [List.length_take]; exact Nat.min_eq_left (by simpa using hle)
  let v : Value := .slice (some ⟨B, 0, none⟩) es.length cap
  let g' : G := .tip z e v es.length
  have hM : ∀ B' off, Mall E.M (upd γ b (some g')) B' off → Mall E.M γ B' off := by
   rintro B' off (hm | ⟨i, gi, hg, hw⟩)
   ·exact .inl hm
   ·by_cases hi : i = b
    ·subst hi; rw [upd_same] at hg; cases hg
     have := hw.1
     simp only [v, Value.ownBlock, Option.some.injEq] at this
     exact .inr ⟨i, _, q1, this.symm⟩
    ·rw [upd_other _ _ hi] at hg; exact .inr ⟨i, gi, hg, hw⟩
  have hother : ∀ i, i ≠ b → upd γ b (some g') i = γ i := fun i hi => upd_other _ _ hi
  have hback : ∀ i gi, upd γ b (some g') i = some gi → ∃ g0, γ i = some g0 ∧ g0.block = gi.block := by
   intro i gi hg
   by_cases hi : i = b
   ·subst hi; rw [upd_same] at hg; cases hg; exact ⟨_, q1, rfl⟩
   ·rw [hother i hi] at hg; exact ⟨gi, hg, rfl⟩
  have move : ∀ {d : D} {u : Value}, Rep (Mall E.M γ) γ w d u → Clo (fun i => i ≠ b) d → Rep (Mall E.M (upd γ b (some g'))) (upd γ b (some g')) w d u :=
   fun hd hc => (hd.restrict hother hc).sub hM
  refine ⟨upd γ b (some g'), h1, ⟨fun i => ?_, fun i i' gi gi' B' a1 a2 a3 a4 => ?_, h2.outer, fun i gi B' off a1 a2 => ?_, h2.inv, fun i gi B' a1 a2 => ?_, h2.big⟩, ?_, h4, h5.back (fun b g B q1 q2 => by obtain ⟨g0, r1, r2⟩ := hback _ _ q1; exact ⟨b, g0, r1, r2.trans q2⟩), fun k => ?_⟩
  ·by_cases hi : i = b
   ·subst hi
    exact .inl ⟨_, g', hσb, upd_same _ _ _, .tip (vs.toList.take (es.length * z)) ⟨htl, .inr ⟨B, cap, vs, rfl, Nat.zero_le _, hB, hcap, hf3, hf2, rfl⟩⟩⟩
   ·show (∃ blk g, lk σ' i = some blk ∧ _) ∨ (lk σ' i = none ∧ _)
    rw [hσ i hi, hother i hi]
    rcases h2.names i with ⟨blk, gi, a1, a2, a3⟩ | ⟨a1, a2⟩
    ·refine .inl ⟨blk, gi, a1, a2, ?_⟩
     have hc := hσc _ (lk_mem _ _ _ a1) hi
     exact (a3.restrict hother hc).evo ⟨fun _ _ _ _ h => h, fun B' off h _ => hM B' off h, fun _ g h => ⟨g, h, G.le_refl g⟩⟩ (fun _ _ => rfl)
    ·exact .inr ⟨a1, a2⟩
  ·obtain ⟨g1, b1, b2⟩ := hback _ _ a1
   obtain ⟨g2, b3, b4⟩ := hback _ _ a2
   exact h2.dist i i' g1 g2 B' b1 b3 (b2.trans a3) (b4.trans a4)
  ·obtain ⟨g1, b1, b2⟩ := hback _ _ a1
   exact h2.apart i g1 B' off b1 (b2.trans a2)
  ·obtain ⟨g1, b1, b2⟩ := hback _ _ a1
   exact h2.low i g1 B' b1 (b2.trans a2)
  ·refine ⟨h3.os, h3.tape, h3.output, h3.size, h3.cell, fun B' off a1 a2 => h3.wr B' off (hM B' off a1) a2, fun i gi hg => ?_, h3.block, fun i gi B' a1 a2 a3 => ?_⟩
   ·have hi : i ≠ b := fun e => hent (e ▸ h1 i gi hg)
    obtain ⟨g1, b1, b2⟩ := h3.names i gi hg
    exact ⟨g1, (hother i hi).trans b1, b2⟩
   ·obtain ⟨g1, b1, b2⟩ := hback _ _ a1
    exact h3.old i g1 B' b1 (b2.trans a2) a3
  ·have h0 := h6 k
   rcases hF.lk k with ⟨r1, r2⟩ | ⟨d, d', r1, r2, r3⟩
   ·simp only [St.get, r2, Option.getD_none]; exact .junk _
   ·simp only [St.get, r1, r2, Option.getD_some] at h0 ⊢
    rcases r3 with ⟨rfl, hc⟩ | ⟨rfl, rfl⟩
    ·exact move h0 hc
    ·generalize a.tmps.getD k undef = v0 at h0
     cases h0 with
     | arr hγ hn =>
      rw [q1] at hγ; cases hγ
      refine .slice (vs.toList.take (es.length * z)) hes htl (fun _ => rfl) (fun j u hu => ?_) (fun i j x d u c1 c2 c3 => ?_) hn (fun t ht => ?_)
      ·have hj : j < es.length * z := by have := (List.getElem?_eq_some_iff.1 hu).1; omega
       have hu' : vs[j]? = some u := by rw [List.getElem?_take, if_pos hj] at hu; simpa using hu
       refine ⟨by rw [cell_of_row w B (0 + j) vs e _ hB, Nat.zero_add]; exact hu', ?_, (hh j u (by rw [List.length_append, hflen]; omega) hu').1⟩
       rintro (hm | ⟨i, gi, hg, hw⟩)
       ·exact h2.apart b _ B _ q1 rfl hm
       ·by_cases hi : i = b
        ·subst hi; rw [upd_same] at hg; cases hg
         have := hw.2; simp only [Nat.zero_add] at this; omega
        ·rw [hother i hi] at hg
         exact hi (h2.dist i b gi _ B hg q1 (G.wr_block hw) rfl)
      ·have hfg := flat_get es hes i j x d c1 c2
       have hlt := (List.getElem?_eq_some_iff.1 hfg).1
       have c3' : vs[i * z + j]? = some u := by rw [List.getElem?_take, if_pos (by omega)] at c3; simpa using c3
       exact move (hr (i * z + j) d u (by rw [List.getElem?_append_left hlt]; exact hfg) c3') (hec x (List.mem_of_getElem? c1) d (List.mem_of_getElem? c2))
      ·cases ht
       exact ⟨z, e, v, es.length, upd_same _ _ _, Nat.le_refl _, fun _ => rfl⟩
theorem Weak.arrTip {ent : List Nat} {st : St} (b : Nat) (e : TypeId) (sz : Nat) (es : List (List D)) (k0 : Nat) {F' : List (Nat × D)} {σ' : List (Nat × Blk)} (hk : st.get k0 = .arr b sz es.length) (hb : lk st.σ b = some (.arr e es.flatten)) (hes : ∀ x ∈ es, x.length = sz) (hent : b ∉ ent)
  (hF : ArF b sz es st.F F') (hec : ∀ x ∈ es, ∀ d ∈ x, Clo (fun i => i ≠ b) d) (hσ : ∀ i, i ≠ b → lk σ' i = lk st.σ i) (hσb : lk σ' b = some (.tip e sz es.length)) (hσc : ∀ p ∈ st.σ, p.1 ≠ b → BClo (fun i => i ≠ b) p.2) : Weak ent st ⟨F', σ'⟩ :=
 Weak.arrTip' b e sz es [] k0 hk (by rw [List.append_nil]; exact hb) hes hent hF hec hσ hσb hσc
theorem ren_ex (l : List Nat) (hl : l.Nodup) : ∃ f g : Nat → Nat, (∀ n, g (f n) = n) ∧ ∀ (i : Nat) x, l[i]? = some x → f i = x := by
 obtain ⟨M, hM⟩ : ∃ M, ∀ x ∈ l, x < M := ⟨l.foldr (fun a b => a + b + 1) 0, by
  intro x hx
  induction l with
  | nil => cases hx
  | cons a l ih =>
   simp only [List.foldr_cons]
   rcases List.mem_cons.1 hx with rfl | hx
   ·omega
   ·have := ih (List.nodup_cons.1 hl).2 hx; omega⟩
 refine ⟨fun i => (l[i]?).getD (i + M), fun n => if n ∈ l then l.idxOf n else n - M, fun n => ?_, fun i x hx => by simp [hx]⟩
 by_cases hn : n < l.length
 ·have : (l[n]?).getD (n + M) = l[n] := by simp [hn]
  simp only [this]
  rw [if_pos (List.getElem_mem hn)]
  exact hl.idxOf_getElem n hn
 ·have : (l[n]?).getD (n + M) = n + M := by rw [List.getElem?_eq_none (by omega)]; rfl
  simp only [this]
  rw [if_neg (fun h => by have := hM _ h; omega)]
  omega
end Go.Id
namespace Go.Id
open Go
inductive Fr (t : Nat) : D → Prop
 | junk : Fr t .junk
 | bool (b : Bool) : Fr t (.bool b)
 | int (k : IntKind) (n : Int) : Fr t (.int k n)
 | str (s : List UInt8) : Fr t (.str s)
 | nilslice (sz : Nat) : Fr t (.slice sz true [] none)
 | arr {b sz n : Nat} (h : b ≠ t) : Fr t (.arr b sz n)
 | view {b off sz n : Nat} (h : b ≠ t) : Fr t (.view b off sz n)
 | ref {b off : Nat} (h : b ≠ t) : Fr t (.ref b off)
 | nilptr : Fr t .nilptr
 | fn {f : Fn} {a b : List D} (h : ∀ d ∈ a, Fr t d) (h' : ∀ d ∈ b, Fr t d) : Fr t (.fn f a b)
 | nilfn : Fr t .nilfn
 | agg {cs : List D} (h : ∀ d ∈ cs, Fr t d) : Fr t (.agg cs)
 | tup {cs : List D} (h : ∀ d ∈ cs, Fr t d) : Fr t (.tup cs)
 | iface {u : TypeId} {d : D} (h : Fr t d) : Fr t (.iface u d)
 | niliface : Fr t .niliface
 | val (v : Value) : Fr t (.val v)
 | nilmap : Fr t .nilmap
 | map {b : Nat} (h : b ≠ t) : Fr t (.map b)
section
variable {t : Nat}
@[simp] theorem fr_bool (b : Bool) : Fr t (.bool b) := .bool b
@[simp] theorem fr_int (k : IntKind) (n : Int) : Fr t (.int k n) := .int k n
@[simp] theorem fr_str (s : List UInt8) : Fr t (.str s) := .str s
@[simp] theorem fr_junk : Fr t .junk := .junk
theorem Fr.rep {M M' : Nat → Nat → Prop} {γ γ' : Nat → Option G} {w : World} (hγ : ∀ i, i ≠ t → γ' i = γ i) {d : D} (hd : Fr t d) {v : Value} (h : Rep M γ w d v) : Rep M' γ' w d v := by
 induction h with
 | junk v => exact .junk v
 | bool b => exact .bool b
 | int k n => exact .int k n
 | str s => exact .str s
 | nilslice ht => cases hd with | nilslice sz => exact .nilslice (TipOk.none _ _ _)
 | slice => cases hd
 | arr hb hn => cases hd with | arr h => exact .arr ((hγ _ h).trans hb) hn
 | view hb ha hn => cases hd with | view h => exact .view ((hγ _ h).trans hb) ha hn
 | ref hb =>
  cases hd with
  | ref h =>
   refine .ref ?_
   rw [hγ _ h]
   exact hb
 | iptr => cases hd
 | nilptr => exact .nilptr
 | fn hf hk _ _ ih1 ih2 =>
  cases hd with
  | fn h h' => exact .fn hf hk (fun i d v a b => ih1 i d v a b (h d (List.mem_of_getElem? a))) (fun i d v a b => ih2 i d v a b (h' d (List.mem_of_getElem? a)))
 | nilfn => exact .nilfn
 | agg hl h1 _ ih => cases hd with | agg h => exact .agg hl h1 (fun i d v a b => ih i d v a b (h d (List.mem_of_getElem? a)))
 | tup hl _ ih => cases hd with | tup h => exact .tup hl (fun i d v a b => ih i d v a b (h d (List.mem_of_getElem? a)))
 | iface _ ih => cases hd with | iface h => exact .iface (ih h)
 | niliface => exact .niliface
 | val v => exact .val v
 | nilmap => exact .nilmap
 | map hb => cases hd with | map h => exact .map ((hγ _ h).trans hb)
end
theorem Weak.tipArr {st : St} (t : Nat) (e : TypeId) (sz : Nat) (es : List (List D)) (k0 : Nat) {F' : List (Nat × D)} (hk : st.get k0 = .slice sz false es (some t)) (hb : lk st.σ t = some (.tip e sz es.length)) (hes : ∀ x ∈ es, ∀ d ∈ x, Fr t d)
  (hσ : ∀ b, b ≠ t → lk st.σ b = none) (hF : ∀ p ∈ F', (p.1 = k0 ∧ p.2 = .arr t sz es.length) ∨ (st.get p.1 = p.2 ∧ Fr t p.2)) : Weak [] st ⟨F', [(t, .arr e es.flatten)]⟩ := by
 rintro P E N a w ⟨γ, h1, h2, h3, h4, h5, h6⟩
 have hent : ∀ b, E.γ b = none := fun b => by
  cases h : E.γ b with
  | none => rfl
  | some g => exact absurd (h1 b g h) (by simp)
 obtain ⟨g, q1, q2⟩ := h2.hit hb
 have hsl := h6 k0
 rw [hk] at hsl
 generalize hv0 : a.tmps.getD k0 undef = v0 at hsl
 rcases rep_slice_cells hsl with ⟨_, _, hn⟩ | ⟨ad, cap, vs, rfl, _, hspot, hvs, hcap, hsz, hcell, hr, htip⟩
 ·cases hn
 cases q2 with
 | @tip _ _ _ v xs ho =>
  obtain ⟨_, _, v', n', p1, p2, p3⟩ := htip t rfl
  rw [q1] at p1
  simp only [Option.some.injEq, G.tip.injEq] at p1
  obtain ⟨rfl, rfl, rfl, rfl⟩ := p1
  have hv := p3 rfl
  rcases ho.2 with ⟨h0, _⟩ | ⟨B, cap', cur, hvB, _, hB, hnc, hcm, hcs, htake⟩
  ·rw [h0] at hv; cases hv
  rw [hvB] at hv
  simp only [Value.slice.injEq, Option.some.injEq, true_and] at hv
  obtain ⟨rfl, rfl⟩ := hv
  let g' : G := .arr B cap sz
  have hnew : ¬ B < E.w.heap.size := fun hlt => by
   obtain ⟨b', g0, r1, _⟩ := h3.old t _ B q1 (by rw [hvB]; rfl) hlt
   rw [hent] at r1; cases r1
  have hblk : ∀ i gi, γ i = some gi → i = t := fun i gi hg => by
   by_cases hi : i = t
   ·exact hi
   ·rcases h2.names i with ⟨blk, gi', r1, _⟩ | ⟨_, r2⟩
    ·rw [hσ i hi] at r1; cases r1
    ·rw [r2] at hg; cases hg
  have hother : ∀ i, i ≠ t → upd γ t (some g') i = γ i := fun i hi => upd_other _ _ hi
  have hgi : ∀ i gi, upd γ t (some g') i = some gi → i = t ∧ gi = g' := fun i gi hg => by
   by_cases hi : i = t
   ·subst hi; rw [upd_same] at hg; cases hg; exact ⟨rfl, rfl⟩
   ·rw [hother i hi] at hg; exact absurd (hblk i gi hg) hi
  have hflen := flat_len es hsz
  have hMB : ∀ off, ¬ E.M.M B off := fun off hm => hnew (by
   have := h2.outer B off hm
   exact absurd hm (h2.apart t _ B off q1 (by rw [hvB]; rfl)))
  refine ⟨upd γ t (some g'), fun b g0 hg => (by rw [hent] at hg; cases hg), ⟨fun i => ?_, fun i i' gi gi' B' a1 a2 a3 a4 => ?_, h2.outer, fun i gi B' off a1 a2 => ?_, h2.inv, fun i gi B' a1 a2 => ?_, h2.big⟩, ?_, h4, h5.back (fun b g B q1' q2 => by obtain ⟨rfl, rfl⟩ := hgi _ _ q1'; exact ⟨b, _, q1, by rw [← q2, hvB]; rfl⟩), fun k => ?_⟩
  ·by_cases hi : i = t
   ·subst hi
    refine .inl ⟨.arr e es.flatten, g', by simp [lk], upd_same _ _ _, ?_⟩
    refine .arr cur e (0, 0) hB (by rw [hflen, hcs]; exact Nat.mul_le_mul_right _ hcap) (fun j u hj hu => ⟨?_, by simp [World.frozen?, hB]⟩) (fun j d u hd hu => ?_) ⟨rfl, hcs, hcm⟩
    ·have hjv : j < vs.length := by omega
     have := hcell j _ (List.getElem?_eq_getElem hjv)
     simp only [Nat.zero_add] at this
     have hc := this.1
     rw [cell_of_row w B j cur e _ hB, hu] at hc
     have : u = vs[j] := by simpa using hc
     rw [this]; exact (hcell j _ (List.getElem?_eq_getElem hjv)).2.2
    ·obtain ⟨x, r1, r2⟩ := flat_at es hsz j d hd
     have hjv : j < vs.length := by have := (List.getElem?_eq_some_iff.1 hd).1; omega
     have := hcell j _ (List.getElem?_eq_getElem hjv)
     simp only [Nat.zero_add] at this
     have hc := this.1
     rw [cell_of_row w B j cur e _ hB, hu] at hc
     have hu' : u = vs[j] := by simpa using hc
     have h7 := hr (j / sz) (j % sz) x d vs[j] r1 r2 (by rw [Nat.div_add_mod']; exact List.getElem?_eq_getElem hjv)
     rw [hu']
     exact (hes x (List.mem_of_getElem? r1) d (List.mem_of_getElem? r2)).rep hother h7
   ·refine .inr ⟨by simp [lk, hi], ?_⟩
    rw [hother i hi]
    exact h2.miss (hσ i hi)
  ·obtain ⟨rfl, _⟩ := hgi _ _ a1
   obtain ⟨rfl, _⟩ := hgi _ _ a2
   rfl
  ·obtain ⟨rfl, rfl⟩ := hgi _ _ a1
   simp only [g', G.block, Option.some.injEq] at a2
   subst a2
   exact hMB off
  ·obtain ⟨rfl, rfl⟩ := hgi _ _ a1
   simp only [g', G.block, Option.some.injEq] at a2
   subst a2
   exact h2.low i _ B q1 (by rw [hvB]; rfl)
  ·refine ⟨h3.os, h3.tape, h3.output, h3.size, h3.cell, fun B' off hm hlt => ?_, fun b g0 hg => (by rw [hent] at hg; cases hg), fun B' hlt hno => h3.block B' hlt hno, fun b g0 B' hg hgB hlt => ?_⟩
   ·rcases hm with hm | ⟨i, gi, hg, hw⟩
    ·exact h3.wr B' off (.inl hm) hlt
    ·obtain ⟨rfl, rfl⟩ := hgi _ _ hg
     have : B' = B := hw
     subst this
     exact absurd hlt hnew
   ·obtain ⟨rfl, rfl⟩ := hgi _ _ hg
    simp only [g', G.block, Option.some.injEq] at hgB
    subst hgB
    exact absurd hlt hnew
  ·have h0 := h6 k
   show Rep _ _ _ ((lk F' k).getD .junk) _
   cases hl : lk F' k with
   | none => exact .junk _
   | some d =>
    rcases hF _ (lk_mem _ _ _ hl) with ⟨rfl, rfl⟩ | ⟨r1, r2⟩
    ·rw [hv0]
     exact .arr (upd_same _ _ _) hcap
    ·dsimp only at r1 r2
     rw [r1] at h0
     exact r2.rep hother h0
end Go.Id
namespace Go.Id
open Go
theorem CallE.rows {P : Prg} {k : FuncId} {args : List D} {b : Nat} {T : TypeId} {cs cs' : List D} {rest : List (Nat × Blk)} {val : D} (hlen' : cs'.length = cs.length) (hb : Bodied P.prog k)
  (h : ∀ (M : Nat → Nat → Prop) (γ : Nat → Option G) (w : World) (vs : List Value) (B cap z : Nat) (us : Array Value), Store (P.base M) γ (lk ((b, .arr T cs) :: rest)) w → vs.length = args.length →
   (∀ (i : Nat) d v, args[i]? = some d → vs[i]? = some v → Rep (Mall (P.base M) γ) γ w d v) → γ b = some (.arr B cap z) → w.heap[B]? = some (.cells us T (0, 0)) → us.size = cap * z → cs.length ≤ us.size →
   (∀ (i : Nat) v, i < cs.length → us[i]? = some v → v.oneCell' = true ∧ w.frozen? ⟨B, i, none⟩ = false) → (∀ (i : Nat) d v, cs[i]? = some d → us[i]? = some v → Rep (Mall (P.base M) γ) γ w d v) →
   Calls P.prog k vs.toArray w fun e w' => ∃ v us', e = .returned v ∧ us'.size = us.size ∧ w'.heap[B]? = some (.cells us' T (0, 0)) ∧ (∀ k, k < w.heap.size → k ≠ B → w'.heap[k]? = w.heap[k]?) ∧ w.heap.size ≤ w'.heap.size ∧ (w'.os = w.os ∧ w'.tape = w.tape ∧ w'.output = w.output) ∧
    (∀ (i : Nat) v, i < cs.length → us'[i]? = some v → v.oneCell' = true) ∧ (∀ (i : Nat) d v, cs'[i]? = some d → us'[i]? = some v → Rep (Mall (P.base M) γ) γ w d v) ∧ Rep (Mall (P.base M) γ) γ w val v) :
  CallE P k args ((b, .arr T cs) :: rest) val ((b, .arr T cs') :: rest) := by
 refine ⟨hb, fun M γ w vs hst hl hr => ?_⟩
 have hlk : lk ((b, Blk.arr T cs) :: rest) b = some (.arr T cs) := by simp [lk]
 obtain ⟨g, h2, h3⟩ := hst.hit hlk
 cases h3 with
 | @arr _ B cap z us _ fz hB hlen h1 hrr hf =>
  obtain ⟨rfl, hsz, hcap⟩ := hf
  refine (h M γ w vs B cap z us hst hl hr h2 hB hsz hlen h1 hrr).mono ?_
  rintro e w' ⟨v, us', rfl, hus, hB', hother, hsize, ⟨ho1, ho2, ho3⟩, hu1, hu2, hv⟩
  have hM : ∀ o, Mall (P.base M) γ B o := fun o => .inr ⟨b, _, h2, rfl⟩
  have hev : Evolve (Mall (P.base M) γ) γ w (Mall (P.base M) γ) γ w' := by
   refine ⟨ho1, ho2, ho3, hsize, fun B' o x hn hu => ?_, fun _ _ h _ => h, fun _ g h => ⟨g, h, G.le_refl g⟩, fun B' hlt hn => hother B' hlt (fun e => hn b _ h2 (by rw [e]; rfl)), fun i gi _ h h' _ => ⟨i, gi, h, h'⟩⟩
   have : B' ≠ B := fun e => by subst e; exact hn (hM o)
   rw [World.cell?_of_block (w := w) (w' := w') (by simpa using hother B' (cell_lt hu) this)]; exact hu
  have hupd : upd γ b (some (.arr B cap z)) = γ := by funext i; by_cases hi : i = b <;> simp [upd, hi, h2]
  have hσ : upd (lk ((b, Blk.arr T cs) :: rest)) b (some (.arr T cs')) = lk ((b, Blk.arr T cs') :: rest) := by
   funext i
   by_cases hi : i = b <;> simp [upd, lk, hi]
  have hst' := hst.change b (.arr T cs') (.arr B cap z) w' (by rw [hupd]; exact hev) (fun i gi B2 hi hgi hgiB => hother B2 (hst.lt hgi hgiB) (fun e => hi (hst.dist i b gi _ B2 hgi h2 hgiB (by rw [e]; rfl)))) (fun B' hB' => .inr ⟨_, h2, hB'⟩) (by
   rw [hupd]
   refine .arr us' T (0, 0) hB' (by omega) (fun i x hi hx => ⟨hu1 i x (by omega) hx, ?_⟩) (fun i d x hd hx => (hu2 i d x hd hx).evolve hev) ⟨rfl, by rw [hus]; exact hsz, hcap⟩
   simp [World.frozen?, hB'])
  rw [hupd, hσ] at hst'
  exact ⟨v, γ, rfl, hst', hev, hv.evolve hev⟩
@[simp] theorem fr_ref_iff {t b off : Nat} : Fr t (.ref b off) ↔ b ≠ t := ⟨fun h => by cases h with | ref h => exact h, .ref⟩
@[simp] theorem fr_arr_iff {t b sz n : Nat} : Fr t (.arr b sz n) ↔ b ≠ t := ⟨fun h => by cases h with | arr h => exact h, .arr⟩
@[simp] theorem fr_nils {t sz : Nat} : Fr t (.slice sz true [] none) := .nilslice sz
def BFr (t : Nat) : Blk → Prop
 | .box _ cs | .arr _ cs => ∀ d ∈ cs, Fr t d
 | .map es _ => ∀ e ∈ es, Fr t e.2.1
 | .miter m _ _ _ => m ≠ t
 | _ => True
theorem BFr.rel {t : Nat} {M M' : Nat → Nat → Prop} {γ γ' : Nat → Option G} {w : World} (hγ : ∀ i, i ≠ t → γ' i = γ i) {blk : Blk} {g : G} (hb : BFr t blk) (h : BlkRel M γ w blk g) : BlkRel M' γ' w blk g := by
 cases h with
 | box vs e fz hB hl h1 hr => exact .box vs e fz hB hl h1 (fun i d v hd hv => (hb d (List.mem_of_getElem? hd)).rep hγ (hr i d v hd hv))
 | arr vs e fz hB hl h1 hr hf => exact .arr vs e fz hB hl h1 (fun i d v hd hv => (hb d (List.mem_of_getElem? hd)).rep hγ (hr i d v hd hv)) hf
 | iter hB => exact .iter hB
 | map en hB hl hk => exact .map en hB hl (fun i e k d n q1 q2 => let ⟨r1, r2, r3⟩ := hk i e k d n q1 q2; ⟨r1, r2, (hb _ (List.mem_of_getElem? q2)).rep hγ r3⟩)
 | miter hB hm => exact .miter hB ((hγ _ hb).trans hm)
 | dead hB => exact .dead hB
 | tip xs ho => exact .tip xs ho
end Go.Id
namespace Go.Id
open Go
def CapRep (m : Nat → Nat → Prop) (W : World) (d : D) (v : Value) : Prop :=
 Rep (fun _ _ => False) (fun _ => none) W d v ∧ ∀ cs a, d = .iptr cs → v = .pointer (some a) → ∀ (j : Nat) x u, cs[j]? = some x → W.cell? ⟨a.block, a.off + j, none⟩ = some u → Rep m (fun _ => none) W x u ∧ Clo (fun _ => False) x
def CapOk (σ : List (Nat × Blk)) (d d' : D) : Prop :=
 (d' = d ∧ Clo (fun _ => False) d) ∨ ∃ b t cs, d = .ref b 0 ∧ lk σ b = some (.box t cs) ∧ d' = .iptr cs ∧ ∀ x ∈ cs, Clo (fun _ => False) x
theorem Rep.alone {M : Nat → Nat → Prop} {γ : Nat → Option G} {w : World} {d : D} {v : Value} (h : Rep M γ w d v) (hc : Clo (fun _ => False) d) : Rep (fun _ _ => False) (fun _ => none) w d v :=
 (h.restrict (γ' := fun _ => none) (S := fun _ => False) (fun _ h => h.elim) hc).sub (fun _ _ h => h.elim)
theorem Rep.drp {M : Nat → Nat → Prop} {γ : Nat → Option G} {w : World} {d : D} {v : Value} (h : Rep M γ w d v) (hc : Clo (fun _ => False) d) : Rep M (fun _ => none) w d v :=
 h.restrict (γ' := fun _ => none) (S := fun _ => False) (fun _ h => h.elim) hc
theorem CapOk.rep {M₀ : Base} {γ : Nat → Option G} {σ : List (Nat × Blk)} {w : World} (h : Store M₀ γ (lk σ) w) {d d' : D} (hc : CapOk σ d d') {v : Value} (hr : Rep (Mall M₀ γ) γ w d v) : CapRep (Mall M₀ γ) w d' v := by
 rcases hc with ⟨rfl, hcl⟩ | ⟨b, t, cs, rfl, hb, rfl, hcl⟩
 ·refine ⟨hr.alone hcl, ?_⟩
  rintro cs a rfl rfl j x u hx hu
  cases hr with
  | iptr vs hvs hspot hc hr =>
   have hlt : j < vs.length := by rw [hvs]; exact (List.getElem?_eq_some_iff.1 hx).1
   have h1 := List.getElem?_eq_getElem hlt
   have h2 := (hc j _ h1).1
   rw [hu] at h2
   simp only [Option.some.injEq] at h2
   subst h2
   have hcx : Clo (fun _ => False) x := by
    cases hcl with
    | iptr h => exact h _ (List.mem_of_getElem? hx)
   exact ⟨(hr j x _ hx h1).drp hcx, hcx⟩
 ·obtain ⟨g, h1, h2⟩ := h.hit hb
  cases h2 with
  | @box _ B vs _ fz hB hl h3 h4 =>
   cases hr with
   | ref hg =>
    rcases hg with hg | ⟨_, _, hg⟩ | hg <;> rw [h1] at hg <;> cases hg
    refine ⟨.iptr vs.toList (by simpa using hl) rfl (fun j u hu => ?_) (fun j d u hd hu => ?_), ?_⟩
    ·have hu' : vs[j]? = some u := by simpa using hu
     refine ⟨?_, fun h => h, (h3 j u hu').1⟩
     simp only [Nat.zero_add]
     rw [cell_of_row w B j vs t _ hB]; exact hu'
    ·have hu' : vs[j]? = some u := by simpa using hu
     exact (h4 j d u hd hu').alone (hcl d (List.mem_of_getElem? hd))
    ·rintro cs' a e1 e2 j x u hx hu
     cases e1; cases e2
     simp only [Nat.zero_add] at hu
     rw [cell_of_row w B j vs t _ hB] at hu
     have hcx := hcl x (List.mem_of_getElem? hx)
     exact ⟨(h4 j x u hx hu).drp hcx, hcx⟩
theorem marks_put {strict : Prop} {γ : Nat → Option G} {T ds : List Deferred} {w : World} {n L : Nat} {o : Obj} (h : Marks strict T γ ds w n) (hL : ∀ o', w.heap[L]? = some o' → o' ≠ .deferred (some [])) : Marks strict T γ ds (w.putObj L o) n := by
 obtain ⟨Ds, h1, h2, h3⟩ := h
 refine ⟨Ds, h1, h2, fun D hD => ?_⟩
 obtain ⟨q1, q2, q3⟩ := h3 D hD
 exact ⟨q1, (World.putObj_heap_other (fun e => hL _ (e ▸ q2) rfl)).trans q2, q3⟩
structure RfCore (P : Prg) (E : Ent P) (F : Nat → D) (tv : Nat → Value) (capO : List D) (lb : Array Value) (ds : List Deferred) (L D0 : Nat) (γ : Nat → Option G) (T : List (Nat × Blk)) (W : World) : Prop where
 st : Store E.M γ (lk T) W
 ev : Evolve (Mall E.M E.γ) E.γ E.w (Mall E.M γ) γ W
 fr : ∀ t, Rep (Mall E.M γ) γ W (F t) (tv t)
 cp : ∀ (i : Nat) d v, capO[i]? = some d → lb[i]? = some v → Rep (Mall E.M γ) γ W d v
 mrk : Marks False E.tail γ ds W E.lo
 un : ∀ b g, γ b = some g → g.block ≠ some L ∧ g.block ≠ some D0
 dd : W.heap[D0]? = some (.deferred (some []))
section
variable {P : Prg} {E : Ent P} {F : Nat → D} {tv : Nat → Value} {capO : List D} {lb : Array Value} {ds : List Deferred} {L D0 : Nat} {γ γ2 : Nat → Option G} {T T2 : List (Nat × Blk)} {W W2 : World}
theorem RfCore.on (h : RfCore P E F tv capO lb ds L D0 γ T W) (h2 : Store E.M γ2 (lk T2) W2) (h3 : Evolve (Mall E.M γ) γ W (Mall E.M γ2) γ2 W2) (hL : L < W.heap.size) : RfCore P E F tv capO lb ds L D0 γ2 T2 W2 ∧ W2.heap[L]? = W.heap[L]? := by
 have hD : D0 < W.heap.size := (Array.getElem?_eq_some_iff.1 h.dd).1
 refine ⟨⟨h2, h.ev.trans h3, fun t => (h.fr t).evolve h3, fun i d v q1 q2 => (h.cp i d v q1 q2).evolve h3, h.mrk.evolve h3, fun b g hg => ⟨fun hB => ?_, fun hB => ?_⟩, (h3.block D0 hD (fun b g hg => (h.un b g hg).2)).trans h.dd⟩, h3.block L hL (fun b g hg => (h.un b g hg).1)⟩
 ·obtain ⟨b', g', r1, r2⟩ := h3.old b g L hg hB hL
  exact (h.un b' g' r1).1 r2
 ·obtain ⟨b', g', r1, r2⟩ := h3.old b g D0 hg hB hD
  exact (h.un b' g' r1).2 r2
theorem RfCore.put (h : RfCore P E F tv capO lb ds L D0 γ T W) {r : Loop} (hL : W.heap[L]? = some (.loop r)) (h1 : E.w.heap.size ≤ L) (h2 : P.n ≤ L) (hne : L ≠ D0) (o : Obj) :
  RfCore P E F tv capO lb ds L D0 γ T (W.putObj L o) ∧ ∀ d v, Rep (Mall E.M γ) γ W d v → Rep (Mall E.M γ) γ (W.putObj L o) d v := by
 obtain ⟨g1, g2, g3⟩ := put_other (o' := o) h.st h.ev h1 h2 hL rfl (fun b g hg => (h.un b g hg).1)
 exact ⟨⟨g1, g2, fun t => g3 _ _ (h.fr t), fun i d v q1 q2 => g3 _ _ (h.cp i d v q1 q2), marks_put h.mrk (fun o' q => by rw [hL] at q; cases q; simp), h.un, (World.putObj_heap_other (Ne.symm hne)).trans h.dd⟩, g3⟩
end
end Go.Id
namespace Go.Id
open Go
def KeepS (W : Nat → Bool) (a a' : Act) : Prop := a'.tmps.size = a.tmps.size ∧ ∀ t, W t = false → a'.tmps.getD t undef = a.tmps.getD t undef
theorem KeepS.refl (W : Nat → Bool) (a : Act) : KeepS W a a := ⟨rfl, fun _ _ => rfl⟩
theorem KeepS.trans {W : Nat → Bool} {a b c : Act} (h : KeepS W a b) (k : KeepS W b c) : KeepS W a c := ⟨k.1.trans h.1, fun t ht => (k.2 t ht).trans (h.2 t ht)⟩
theorem KeepS.put {W : Nat → Bool} (a : Act) (dst : Option Tmp) (v : Value) (h : ∀ t, dst = some t → W t = true) : KeepS W a (a.put dst v) := by
 cases dst with
 | none => exact .refl W a
 | some d =>
  refine ⟨by simp [Act.put], fun t ht => ?_⟩
  have : d ≠ t := fun e => by subst e; rw [h d rfl] at ht; cases ht
  simp [Act.put, Array.getD_eq_getD_getElem?, this]
theorem uponIn_keep {F : Fence} {n : Nat} {P : Program} {o : Oper} {a : Act} {W : Nat → Bool} (hd : ∀ t, o.dst = some t → W t = true) {next next' : Act → World → Prop} {Q Q' : Exit → Act → World → Prop} {r : Result Next}
  (hn : ∀ a' w', KeepS W a a' → next a' w' → next' a' w') (hq : ∀ e a' w', e ≠ .normal → Q e a' w' → Q' e a' w') (h : o.uponIn F n P a next Q r) : o.uponIn F n P a next' Q' r := by
 have kp : ∀ v, KeepS W a (a.put o.dst v) := fun v => .put a o.dst v hd
 have he : ∀ (e : Ending) (w'' : World), (match e with | .returned v => next (a.put o.dst v) w'' | .panicked chain => Q (.panic chain) a w'' | .outgrown => LetsOut Q) →
   (match e with | .returned v => next' (a.put o.dst v) w'' | .panicked chain => Q' (.panic chain) a w'' | .outgrown => LetsOut Q') := by
  intro e w'' h
  cases e with
  | returned v => exact hn _ _ (kp v) h
  | panicked chain => exact hq _ _ _ (by simp) h
  | outgrown => obtain ⟨a, w, h⟩ := h; exact ⟨a, w, hq _ _ _ (by simp) h⟩
 unfold Oper.uponIn at h ⊢
 split at h
 ·exact hn _ _ (kp _) h
 ·exact hn _ _ (kp _) h
 ·rename_i d w'
  refine hn _ _ ?_ h
  cases hdst : o.dst with
  | none => exact .refl W a
  | some t =>
   have := kp undef
   rw [hdst] at this
   exact this
 ·exact ⟨h.1, h.2.mono fun e w'' h => by
   have := he e w'' (by cases e <;> exact h)
   cases e <;> exact this⟩
 ·exact ⟨h.1, h.2.mono fun v w'' h => hn _ _ (kp v) h⟩
 ·exact ⟨h.1, h.2.mono fun e w'' h => by
   have := he e w'' (by cases e <;> exact h)
   cases e <;> exact this⟩
 ·exact hq _ _ _ (by simp) h
 ·exact h.elim
theorem wpOpsIn_split {F : Fence} {n : Nat} {P : Program} {ops : Array Oper} {Q : Exit → Act → World → Prop} (l2 : List Nat) : ∀ (l1 : List Nat) (a : Act) (w : World),
  wpOpsIn F n P ops (fun e a' w' => match e with | .normal => wpOpsIn F n P ops Q l2 a' w' | e => Q e a' w') l1 a w → wpOpsIn F n P ops Q (l1 ++ l2) a w
 | [], a, w, h => h
 | i :: l, a, w, h => by
  simp only [List.cons_append, wpOpsIn] at h ⊢
  cases ho : ops[i]? with
  | none => rw [ho] at h; exact wpOpsIn_split l2 l a w h
  | some o =>
   rw [ho] at h
   dsimp only at h ⊢
   split at h
   ·rename_i hw
    rw [if_pos hw]
    exact ⟨h.1, uponIn_keep (W := fun _ => true) (fun _ _ => rfl) (fun a' w' _ h => wpOpsIn_split l2 l a' w' h) (fun e a' w' he h => by cases e <;> first | exact absurd rfl he | exact h) h.2⟩
   ·rename_i hw
    rw [if_neg hw]
    exact ⟨h.1, wpOpsIn_split l2 l _ w h.2⟩
def wrOf (os : List Oper) (t : Nat) : Bool := os.any fun o => o.dst == some t
section
variable {P : Prg} {ent : List Nat} {N : Nat} {E : Ent P}
theorem Chain.wpOps_le {Fe : Fence} (hF : OpenF Fe) {nf : Nat} {ops : Array Oper} (hd : dstsOk N ops = true) (Wr : Nat → Bool) (a0 : Act) (Q : Exit → Act → World → Prop) : ∀ {os : List Oper} {st st' : St} {rs : List RecX}, Chain P ops os st rs st' → ∀ (k : Nat) (os2 : List Oper), ops.toList.drop k = os ++ os2 →
  (∀ o ∈ os, ∀ t, o.dst = some t → Wr t = true) → ∀ (a : Act) (w : World), KeepS Wr a0 a ∧ a.defers = a0.defers → Rel E ent N st.get (lk st.σ) a w → (∀ a' w', Rel E ent N st'.get (lk st'.σ) a' w' → KeepS Wr a0 a' ∧ a'.defers = a0.defers → Q .normal a' w') → wpOpsIn Fe nf P.prog ops Q (List.range' k os.length) a w := by
 intro os st st' rs h
 induction h with
 | nil st => intro k os2 hk _ a w hks hr hq; exact hq a w hr hks
 | @ran o os st st' d r rs hw ho hc ih =>
  intro k os2 hk hW a w hks hr hq
  have hko : ops[k]? = some o := by
   have : (ops.toList.drop k)[0]? = some o := by rw [hk]; rfl
   simpa [List.getElem?_drop] using this
  have hmem : o ∈ ops := Array.mem_of_getElem? hko
  simp only [List.length_cons, List.range'_succ, Go.wpOpsIn, hko, wanted_of hr hw, if_true]
  refine ho.wp hF hr (dstsOk_spec hd hmem) _ _ (fun v w' hr' => ih (k + 1) os2 ?_ (fun o ho => hW o (List.mem_cons_of_mem _ ho)) _ w' ⟨hks.1.trans (KeepS.put a o.dst v (hW o (by simp))), by rw [put_defers]; exact hks.2⟩ ?_ hq)
  ·have : ops.toList.drop (k + 1) = (ops.toList.drop k).drop 1 := by rw [List.drop_drop]
   rw [this, hk]; rfl
  ·rw [lay_get, get_put, lay_σ, put_σ]; exact hr'
 | @skip o os st st' rs hw hc ih =>
  intro k os2 hk hW a w hks hr hq
  have hko : ops[k]? = some o := by
   have : (ops.toList.drop k)[0]? = some o := by rw [hk]; rfl
   simpa [List.getElem?_drop] using this
  have hmem : o ∈ ops := Array.mem_of_getElem? hko
  simp only [List.length_cons, List.range'_succ, Go.wpOpsIn, hko, wanted_of hr hw, Bool.false_eq_true, if_false]
  refine ⟨fun f _ => hF.fn f, ih (k + 1) os2 ?_ (fun o ho => hW o (List.mem_cons_of_mem _ ho)) _ _ ⟨hks.1.trans (KeepS.put a o.dst undef (hW o (by simp))), by rw [put_defers]; exact hks.2⟩ ?_ hq⟩
  ·have : ops.toList.drop (k + 1) = (ops.toList.drop k).drop 1 := by rw [List.drop_drop]
   rw [this, hk]; rfl
  ·rw [get_put, put_σ]; exact hr.skip (dstsOk_spec hd hmem)
theorem region_pre {Fe : Fence} (hF : OpenF Fe) {nf : Nat} {a : Act} {w : World} {id : Nat} {ops : Array Oper} (hd : dstsOk N ops = true) (os os2 : List Oper) (hos : ops.toList = os ++ os2) {st : St} {Q : St → Prop} {QQ : Exit → Act → World → Prop}
  (h : ∀ K : St → List RecX → Prop, (∀ st' rs, Q st' → K st' rs) → runOps P ops os st [] K) (hr : Rel E ent N st.get (lk st.σ) a w)
  (hq : ∀ st' a' w', Q st' → Rel E ent N st'.get (lk st'.σ) a' w' → KeepS (wrOf os) a a' ∧ a'.defers = a.defers → wpOpsIn Fe nf P.prog ops QQ (List.range' os.length os2.length) a' w') : (Code.region id ops false).wpIn Fe nf P.prog QQ a w := by
 obtain ⟨rs, st', hc, hk⟩ := runOps.chain _ _ _ _ (h (fun st' _ => Q st') (fun _ _ h => h))
 refine wpIn_region ?_
 have hsz : ops.size = os.length + os2.length := by rw [← Array.length_toList, hos, List.length_append]
 have hrg : List.range ops.size = List.range' 0 os.length ++ List.range' os.length os2.length := by
  rw [List.range_eq_range', hsz]
  have := List.range'_append (s := 0) (m := os.length) (n := os2.length) (step := 1)
  simpa using this.symm
 rw [hrg]
 refine wpOpsIn_split _ _ _ _ ?_
 exact Chain.wpOps_le hF hd (wrOf os) a _ hc 0 os2 (by simpa using hos) (fun o ho t ht => List.any_eq_true.2 ⟨o, ho, by simp [ht]⟩) a w ⟨.refl _ _, rfl⟩ hr (fun a' w' hr' hks => hq st' a' w' hk hr' hks)
theorem ops_from {Fe : Fence} (hF : OpenF Fe) {nf : Nat} {a : Act} {w : World} {ops : Array Oper} (hd : dstsOk N ops = true) (k : Nat) (os : List Oper) (hos : ops.toList.drop k = os) {st : St} {Q : St → Prop} {QQ : Exit → Act → World → Prop}
  (h : ∀ K : St → List RecX → Prop, (∀ st' rs, Q st' → K st' rs) → runOps P ops os st [] K) (hr : Rel E ent N st.get (lk st.σ) a w)
  (hq : ∀ st' a' w', Q st' → Rel E ent N st'.get (lk st'.σ) a' w' → KeepS (wrOf os) a a' ∧ a'.defers = a.defers → QQ .normal a' w') : wpOpsIn Fe nf P.prog ops QQ (List.range' k os.length) a w := by
 obtain ⟨rs, st', hc, hk⟩ := runOps.chain _ _ _ _ (h (fun st' _ => Q st') (fun _ _ h => h))
 exact Chain.wpOps_le hF hd (wrOf os) a _ hc k [] (by simpa using hos) (fun o ho t ht => List.any_eq_true.2 ⟨o, ho, by simp [ht]⟩) a w ⟨.refl _ _, rfl⟩ hr (fun a' w' hr' hks => hq st' a' w' hk hr' hks)
theorem ops_hand {Fe : Fence} {n : Nat} {Pg : Program} {ops : Array Oper} {Q : Exit → Act → World → Prop} {i : Nat} {is : List Nat} {o : Oper} {a : Act} {W : World} (ho : ops[i]? = some o) (hg : o.guard = none) (h : o.wpIn Fe n Pg a W (fun a' w' => wpOpsIn Fe n Pg ops Q is a' w') Q) :
  wpOpsIn Fe n Pg ops Q (i :: is) a W := by
 rw [wpOpsIn, ho]
 dsimp only
 rw [if_pos (by simp [Region.wanted, hg])]
 exact h
end
end Go.Id
namespace Go.Id
open Go Go.ChangeMaps
def leftM (es : List (List UInt8 × D × Nat)) (seen : List Nat) : List (List UInt8 × D × Nat) := es.filter fun e => !(seen.contains e.2.2)
section
variable {P : Prg} {ent : List Nat} {N : Nat} {Q : Exit → St → Prop} {st : St}
theorem Rel.putD {E : Ent P} {F : Nat → D} {σ : Nat → Option Blk} {a : Act} {w : World} (h : Rel E ent N F σ a w) {dst : Option Tmp} (hd : ∀ t, dst = some t → t < N) {d : D} {v : Value} (hv : ∀ M γ w, Rep M γ w d v) : Rel E ent N (updO F dst d) σ (a.put dst v) w := by
 obtain ⟨γ, h1, h2, h3, h4, h5, h6⟩ := h
 exact ⟨γ, h1, h2, h3, by rw [put_size]; exact h4, by rw [put_defers]; exact h5, updO_rep (by rw [h4]; exact hd) (hv _ _ _) h6⟩
theorem WP.regionNext {id : Nat} {ops : Array Oper} {x : Operand} {o : Oper} {os : List Oper} {b m since last clock : Nat} {seen : List Nat} {es : List (List UInt8 × D × Nat)} (hd : dstsOk N ops = true) (hos : ops.toList = o :: os) (hop : o.op = .next x false) (hg : o.guard = none)
  (hx : evalD st.get x = .ref b 0) (hb : lk st.σ b = some (.miter m since seen last)) (hm : lk st.σ m = some (.map es clock)) (hold : ∀ e ∈ es, e.2.2 < since) (hsc : since ≤ last)
  (h0 : leftM es seen = [] → ∀ K : St → List RecX → Prop, (∀ st' rs, Q .normal st' → K st' rs) → runOps P ops os (st.put o.dst (.tup [.bool false])) [] K)
  (h1 : ∀ e ∈ leftM es seen, ∀ K : St → List RecX → Prop, (∀ st' rs, Q .normal st' → K st' rs) → runOps P ops os ((st.put o.dst (.tup [.bool true, .str e.1, e.2.1])).lay [(b, .miter m since (seen ++ [e.2.2]) clock)]) [] K) :
  WP P ent N (.region id ops false) Q st := by
 intro Fe nf hF E a w hr
 have hko : ops[0]? = some o := by
  have : ops.toList[0]? = some o := by rw [hos]; rfl
  simpa using this
 have hmem : o ∈ ops := Array.mem_of_getElem? hko
 have hsz : ops.size = os.length + 1 := by rw [← Array.length_toList, hos]; rfl
 refine wpIn_region ?_
 rw [hsz, List.range_eq_range', List.range'_succ, wpOpsIn, hko]
 dsimp only
 rw [if_pos (by simp [Region.wanted, hg])]
 have hdst := dstsOk_spec hd hmem
 have go : ∀ (st1 : St) (a' : Act) (w' : World), (∀ K : St → List RecX → Prop, (∀ st' rs, Q .normal st' → K st' rs) → runOps P ops os st1 [] K) → Rel E ent N st1.get (lk st1.σ) a' w' →
   wpOpsIn Fe nf P.prog ops (fun e a' w' => ∃ st', Q e st' ∧ Rel E ent N st'.get (lk st'.σ) a' w') (List.range' (0 + 1) os.length) a' w' := by
  intro st1 a' w' h hr'
  obtain ⟨rs, st', hc, hk⟩ := runOps.chain _ _ _ _ (h (fun st' _ => Q .normal st') (fun _ _ h => h))
  exact hc.wpOps hF.1 (nf := nf) hd _ 1 (by rw [hos]; rfl) a' w' hr' (fun a'' w'' hr'' => ⟨st', hk, hr''⟩)
 have hr0 := hr
 obtain ⟨γ, q1, q2, q3, q4, q5, q6⟩ := hr
 have hev := eval_rep q6 x
 rw [hx] at hev
 generalize hv : a.eval x = v at hev
 obtain ⟨g, r2, r3⟩ := q2.hit hb
 obtain ⟨g', r4, r5⟩ := q2.hit hm
 cases r3 with
 | @miter _ _ _ B Bm _ hB hmB =>
  rw [r4] at hmB; cases hmB
  cases r5 with
  | @map _ _ _ en hBm hl hk =>
   cases hev with
   | @ref _ B' _ hγ =>
    obtain rfl : B' = B := by
     rcases hγ with hγ | ⟨_, _, hγ⟩ | hγ <;> rw [r2] at hγ <;> cases hγ
     rfl
    have hborn : ∀ e ∈ en.toList, ∃ k d n, (k, d, n) ∈ es ∧ e.key = .string ⟨k.toArray⟩ ∧ e.born = n ∧ Rep (Mall E.M γ) γ w d e.val := by
     intro e he
     obtain ⟨i, hi, rfl⟩ := List.mem_iff_getElem.1 he
     have hi' : i < en.size := by simpa using hi
     have hi2 : i < es.length := by omega
     obtain ⟨p1, p2, p3⟩ := hk i en[i] es[i].1 es[i].2.1 es[i].2.2 (Array.getElem?_eq_getElem hi') (List.getElem?_eq_getElem hi2)
     exact ⟨_, _, _, List.getElem_mem hi2, by simpa using p1, by simpa using p2, by simpa using p3⟩
    have hrun := run_next_at (P := P.prog) w o.type B' Bm since last seen.toArray en clock hB hBm (fun e he => by obtain ⟨k, d, n, p1, _, p3, _⟩ := hborn e he; rw [p3]; exact hold _ p1) hsc
    unfold Oper.wpIn
    refine ⟨fun f _ => hF.1.fn f, ?_⟩
    rw [Oper.semAt_plain Fe _ _ (by rw [hop]; intro c hc'; cases hc')]
    rcases hrun with ⟨hz, hrun⟩ | ⟨e, he, w1, hw1, hrun⟩
    ·simp [execOp, hop, hv, hrun, Result.andThen]
     refine go _ _ _ (h0 ?_) (by rw [get_put, put_σ]; exact hr0.putD hdst (fun _ _ _ => .tup rfl (fun i d v h1 h2 => by
      match i with
      | 0 => simp at h1 h2; subst h1; subst h2; exact .bool _
      | i + 1 => simp at h1)))
     unfold leftM
     rw [List.filter_eq_nil_iff]
     intro y hy hs
     obtain ⟨i, hi, rfl⟩ := List.mem_iff_getElem.1 hy
     have hi' : i < en.size := by omega
     obtain ⟨p1, p2, p3⟩ := hk i en[i] es[i].1 es[i].2.1 es[i].2.2 (Array.getElem?_eq_getElem hi') (List.getElem?_eq_getElem hi)
     have hz' : leftOf en seen.toArray = #[] := Array.eq_empty_of_size_eq_zero hz
     have : en[i] ∈ leftOf en seen.toArray := by
      unfold leftOf
      rw [Array.mem_filter]
      exact ⟨Array.getElem_mem hi', by rw [p2]; simpa using hs⟩
     rw [hz'] at this
     simp at this
    ·simp [execOp, hop, hv, hrun, Result.andThen]
     have he' : e ∈ en.toList ∧ seen.contains e.born = false := by
      unfold leftOf at he
      simp only [Array.toList_filter, List.mem_filter] at he
      exact ⟨he.1, by simpa using he.2⟩
     obtain ⟨k, d, n, p1, p2, p3, p4⟩ := hborn e he'.1
     have hmemL : (k, d, n) ∈ leftM es seen := by
      unfold leftM
      rw [List.mem_filter]
      exact ⟨p1, by rw [← p3]; simpa using he'.2⟩
     have hr1 : Rel E ent N st.get (lk st.σ) a w1 := by rcases hw1 with rfl | rfl; exact hr0; exact hr0.drew
     have hh : w1.heap = w.heap := by rcases hw1 with rfl | rfl <;> rfl
     refine go _ _ _ (h1 (k, d, n) hmemL) ?_
     rw [lay_get, get_put, lay_σ, put_σ]
     have hq1 : Store E.M γ (lk st.σ) w1 ∧ Evolve (Mall E.M γ) γ w (Mall E.M γ) γ w1 := by
      have hev : Evolve (Mall E.M γ) γ w (Mall E.M γ) γ w1 := by
       rcases hw1 with rfl | rfl
       ·exact .refl _ _ _
       ·exact ⟨rfl, rfl, rfl, Nat.le_refl _, fun _ _ _ _ h => h, fun _ _ h _ => h, fun _ g h => ⟨g, h, G.le_refl g⟩, fun _ _ _ => rfl, fun b g _ h h' _ => ⟨b, g, h, h'⟩⟩
      refine ⟨⟨fun b => ?_, q2.dist, fun B off hm => by rw [hh]; exact q2.outer B off hm, q2.apart, E.M.stable _ _ q2.inv (fun _ _ => by rw [hh]), q2.low, by rw [hh]; exact q2.big⟩, hev⟩
      rcases q2.names b with ⟨blk, g, s1, s2, s3⟩ | s
      ·exact .inl ⟨blk, g, s1, s2, s3.keep hev (fun _ _ => by rw [hh])⟩
      ·exact .inr s
     obtain ⟨t2, t3⟩ := hq1
     have hB1 : w1.heap[B']? = some (.mapIter (some Bm) since seen.toArray last) := by rw [hh]; exact hB
     have hlt : B' < w1.heap.size := (Array.getElem?_eq_some_iff.1 hB1).1
     generalize hw' : setBlock w1 B' (.mapIter (some Bm) since (seen ++ [e.born]).toArray clock) = w'
     have hB' : w'.heap[B']? = some (.mapIter (some Bm) since (seen ++ [n]).toArray clock) := by simp [← hw', setBlock, hlt, p3]
     have hother : ∀ k, k ≠ B' → w'.heap[k]? = w1.heap[k]? := fun k hk => by simp [← hw', setBlock, Ne.symm hk]
     have hsize : w'.heap.size = w1.heap.size := by simp [← hw', setBlock]
     have hM : ∀ o, Mall E.M γ B' o := fun o => .inr ⟨b, _, r2, rfl⟩
     have hev : Evolve (Mall E.M γ) γ w1 (Mall E.M γ) γ w' := by
      refine ⟨by rw [← hw']; rfl, by rw [← hw']; rfl, by rw [← hw']; rfl, by omega, fun B2 o u hn hu => ?_, fun _ _ h _ => h, fun _ g h => ⟨g, h, G.le_refl g⟩, fun B2 _ hn => hother B2 (fun e => hn b _ r2 (by rw [e]; rfl)), fun i gi _ h h' _ => ⟨i, gi, h, h'⟩⟩
      have : B2 ≠ B' := fun e => by subst e; exact hn (hM o)
      rw [World.cell?_of_block (w := w1) (w' := w') (by simpa using hother B2 this)]; exact hu
     have hupd : upd γ b (some (.iter B')) = γ := by funext i; by_cases hi : i = b <;> simp [upd, hi, r2]
     have hst := t2.change b (.miter m since (seen ++ [n]) clock) (.iter B') w' (by rw [hupd]; exact hev) (fun i gi B2 hi hgi hgiB => hother B2 (fun e => hi (t2.dist i b gi _ B2 hgi r2 hgiB (by rw [e]; rfl)))) (fun B2 hB2 => .inr ⟨_, r2, hB2⟩)
      (.miter hB' (by rw [hupd]; exact r4))
     rw [hupd] at hst
     have hσ : laid (lk st.σ) [(b, Blk.miter m since (seen ++ [n]) clock)] = upd (lk st.σ) b (some (.miter m since (seen ++ [n]) clock)) := by
      rw [← updAll_laid]; rfl
     refine ⟨γ, q1, by rw [hσ]; exact hst, (q3.trans t3).trans hev, by rw [put_size]; exact q4, by rw [put_defers]; exact (q5.evolve t3).evolve hev, updO_rep (by rw [q4]; exact hdst) ?_ (fun t => ((q6 t).evolve t3).evolve hev)⟩
     refine .tup rfl (fun i d' v' z1 z2 => ?_)
     match i with
     | 0 => simp at z1 z2; subst z1; subst z2; exact .bool _
     | 1 => simp at z1 z2; subst z1; subst z2; rw [p2]; have := Rep.str (M := Mall E.M γ) (γ := γ) (w := w') ⟨k.toArray⟩; simpa using this
     | 2 => simp at z1 z2; subst z1; subst z2; exact (p4.evolve t3).evolve hev
     | i + 3 => simp at z1
theorem ren_clo (f : Nat → Nat) {d : D} (hd : Clo (fun _ => False) d) : renD f d = d := by
 induction hd with
 | @slice sz nil es tip h ht ih =>
  have : tip = none := by cases tip with
   | none => rfl
   | some t => exact (ht t rfl).elim
  subst this
  simp only [renD, renLL_map, Option.map_none]
  congr 1
  exact (List.map_congr_left fun e he => (List.map_congr_left fun d hd => ih e he d hd).trans (List.map_id _)).trans (List.map_id _)
 | arr hb => exact hb.elim
 | view hb => exact hb.elim
 | ref hb => exact hb.elim
 | iptr _ ih => simp only [renD, renL_map]; congr 1; exact (List.map_congr_left fun d hd => ih d hd).trans (List.map_id _)
 | fn _ _ ih ih' =>
  simp only [renD, renL_map]
  congr 1
  ·exact (List.map_congr_left fun d hd => ih d hd).trans (List.map_id _)
  ·exact (List.map_congr_left fun d hd => ih' d hd).trans (List.map_id _)
 | agg _ ih => simp only [renD, renL_map]; congr 1; exact (List.map_congr_left fun d hd => ih d hd).trans (List.map_id _)
 | tup _ ih => simp only [renD, renL_map]; congr 1; exact (List.map_congr_left fun d hd => ih d hd).trans (List.map_id _)
 | iface _ ih => simp only [renD, ih]
 | map hb => exact hb.elim
 | _ => rfl
theorem ren_cloL (f : Nat → Nat) {l : List D} (h : ∀ d ∈ l, Clo (fun _ => False) d) : renL f l = l := by
 rw [renL_map]; exact (List.map_congr_left fun d hd => ren_clo f (h d hd)).trans (List.map_id _)
theorem CapOk.box {σ : List (Nat × Blk)} (b : Nat) (t : TypeId) (cs : List D) (h : lk σ b = some (.box t cs)) (hc : ∀ x ∈ cs, Clo (fun _ => False) x) : CapOk σ (.ref b 0) (.iptr cs) := .inr ⟨b, t, cs, rfl, h, rfl, hc⟩
end
end Go.Id
namespace Go.Id
open Go
section
variable {H : Type} {enc : TypeId × Value → H} {P : Program} {w : World} {M : Nat → Nat → Prop} {γ : Nat → Option G} {base : Nat} {spare : Nat → Bool} {held : Bool}
def CRep (M : Nat → Nat → Prop) (γ : Nat → Option G) (w : World) (ds : List D) (cs : List Value) : Prop :=
 cs.length = ds.length ∧ ∀ (i : Nat) d v, ds[i]? = some d → cs[i]? = some v → v.oneCell' = true ∧ Rep M γ w d v
theorem CRep.nil : CRep M γ w [] [] := ⟨rfl, fun i d v h => by simp at h⟩
theorem CRep.one {d : D} {v : Value} (h : v.oneCell' = true) (h' : Rep M γ w d v) : CRep M γ w [d] [v] :=
 ⟨rfl, fun i d' v' h1 h2 => by
  match i with
  | 0 => simp at h1 h2; subst h1; subst h2; exact ⟨h, h'⟩
  | i + 1 => simp at h1⟩
theorem CRep.append {ds es : List D} {cs bs : List Value} (h : CRep M γ w ds cs) (k : CRep M γ w es bs) : CRep M γ w (ds ++ es) (cs ++ bs) := by
 refine ⟨by simp [h.1, k.1], fun i d v h1 h2 => ?_⟩
 by_cases hi : i < ds.length
 ·rw [List.getElem?_append_left hi] at h1
  rw [List.getElem?_append_left (by rw [h.1]; exact hi)] at h2
  exact h.2 i d v h1 h2
 ·rw [List.getElem?_append_right (by omega)] at h1
  rw [List.getElem?_append_right (by rw [h.1]; omega), h.1] at h2
  exact k.2 _ d v h1 h2
def Rd (enc : TypeId × Value → H) (P : Program) (w : World) (M : Nat → Nat → Prop) (γ : Nat → Option G) (base : Nat) (spare : Nat → Bool) (held : Bool) (t : TypeId) (A : List D → Prop) : Prop :=
 ∀ n cs x, DataW.trod enc P w base spare held n t cs = some x → ∃ ds, A ds ∧ CRep M γ w ds cs
theorem Rd.mono {t : TypeId} {A B : List D → Prop} (h : Rd enc P w M γ base spare held t A) (hAB : ∀ ds, A ds → B ds) : Rd enc P w M γ base spare held t B :=
 fun n cs x hx => let ⟨ds, ha, hc⟩ := h n cs x hx; ⟨ds, hAB ds ha, hc⟩
theorem rd_int {t : TypeId} {k : IntKind} (ht : P.underlying t = some (.int k)) : Rd enc P w M γ base spare held t (fun ds => ∃ n, ds = [.int k n] ∧ (Lit.int k n).wf = true) := by
 intro n cs x h
 obtain ⟨b, rfl, _, hw⟩ := DataW.trod_int ht h
 exact ⟨_, ⟨b, rfl, hw⟩, .one rfl (.int k b)⟩
theorem rd_str {t : TypeId} (ht : P.underlying t = some .string) : Rd enc P w M γ base spare held t (fun ds => ∃ s, ds = [.str s] ∧ s.length ≤ maxLen) := by
 intro n cs x h
 obtain ⟨b, rfl, _, hw⟩ := DataW.trod_string ht h
 exact ⟨_, ⟨_, rfl, by simpa using hw⟩, .one rfl (.str b)⟩
theorem cell_spot {a : Addr} {i : Nat} {v : Value} {w : World} (h : w.cell? (a.add i) = some v) : (a.add i).spot = none := by
 cases hsp : (a.add i).spot with
 | none => rfl
 | some s =>
  simp only [World.cell?] at h
  split at h
  ·simp [hsp] at h
  ·cases h
theorem add_eq {a : Addr} {i : Nat} (h : (a.add i).spot = none) : a.add i = ⟨a.block, a.off + i, none⟩ := by
 unfold Addr.add at h ⊢
 split
 ·rename_i h0
  subst h0
  rw [if_pos rfl] at h
  cases a
  simp_all
 ·rfl
theorem cells_each {a : Addr} {n : Nat} {cs : List Value} (h : w.cells? base a n = some cs) : cs.length = n ∧ ∀ (j : Nat) v, cs[j]? = some v → w.cell? ⟨a.block, a.off + j, none⟩ = some v := by
 unfold World.cells? at h
 split at h
 ·have hl : cs.length = n := by simpa using mapM_some_length h
  refine ⟨hl, fun j v hv => ?_⟩
  have hj : j < n := by rw [← hl]; exact (List.getElem?_eq_some_iff.1 hv).1
  have e : w.cell? (a.add j) = some v := by
   rw [mapM_some_get h j j (List.getElem?_range hj), hv]
  rw [add_eq (cell_spot e)] at e
  exact e
 ·cases h
theorem rd_slice {t e : TypeId} {A : List D → Prop} (ht : P.underlying t = some (.slice e)) (hp : 0 < P.cellsOf e) (hM : ∀ B off, ¬ M B off) (he : Rd enc P w M γ base spare held e A) :
  Rd enc P w M γ base spare held t (fun ds => ∃ nl es, ds = [.slice (P.cellsOf e) nl es none] ∧ (nl = true → es = []) ∧ es.length ≤ maxLen ∧ ∀ x ∈ es, A x) := by
 intro n cs x h
 rcases DataW.trod_slice ht h with ⟨rfl, _⟩ | ⟨a, len, cap, elems, rest, m, _, rfl, _, hb, hl, hm, hlen, hel, _, _⟩
 ·exact ⟨_, ⟨true, [], rfl, fun _ => rfl, Nat.zero_le _, by simp⟩, .one rfl (.nilslice (TipOk.none _ _ _))⟩
 ·have each : ∀ k, k ≤ len → ∃ (es : List (List D)) (vs : List Value), es.length = k ∧ (∀ x ∈ es, A x ∧ x.length = P.cellsOf e) ∧ vs.length = k * P.cellsOf e ∧
    (∀ (j : Nat) v, vs[j]? = some v → w.cell? ⟨a.block, a.off + j, none⟩ = some v ∧ v.oneCell' = true) ∧
    ∀ (i j : Nat) x d v, es[i]? = some x → x[j]? = some d → vs[i * P.cellsOf e + j]? = some v → Rep M γ w d v := by
   intro k
   induction k with
   | zero => intro _; exact ⟨[], [], rfl, by simp, by simp, by simp, by simp⟩
   | succ k ih =>
    intro hk
    obtain ⟨es, vs, h1, h2, h3, h4, h5⟩ := ih (by omega)
    have hx : ∃ y, elems[k]? = some y := ⟨elems[k], List.getElem?_eq_getElem (by omega)⟩
    obtain ⟨y, hy⟩ := hx
    have hk' := hel k (by omega)
    rw [hy, Option.bind_eq_some_iff] at hk'
    obtain ⟨cs, hcs, htr⟩ := hk'
    obtain ⟨ds, hA, hc, hr⟩ := he m cs y htr
    obtain ⟨hcl, hcc⟩ := cells_each hcs
    have hdl : ds.length = P.cellsOf e := hc.symm.trans hcl
    have hadd : 0 < cs.length → a.add (k * P.cellsOf e) = ⟨a.block, a.off + k * P.cellsOf e, none⟩ := by
     intro h0
     refine add_eq ?_
     have hg := hcs
     unfold World.cells? at hg
     split at hg
     ·have := mapM_some_get hg 0 0 (List.getElem?_range hp)
      rw [List.getElem?_eq_getElem h0] at this
      have h7 := cell_spot this
      have h8 : (a.add (k * P.cellsOf e)).add 0 = a.add (k * P.cellsOf e) := by simp [Addr.add]
      rw [h8] at h7
      exact h7
     ·cases hg
    have hA' := hadd (by omega)
    rw [hA'] at hcc
    refine ⟨es ++ [ds], vs ++ cs, by simp [h1], ?_, by rw [List.length_append, h3, hcl, Nat.add_mul, Nat.one_mul], ?_, ?_⟩
    ·intro x hx
     rcases List.mem_append.1 hx with hx | hx
     ·exact h2 x hx
     ·rw [List.mem_singleton.1 hx]; exact ⟨hA, hdl⟩
    ·intro j v hv
     by_cases hj : j < vs.length
     ·rw [List.getElem?_append_left hj] at hv
      exact h4 j v hv
     ·rw [List.getElem?_append_right (by omega)] at hv
      have hj2 : j - vs.length < cs.length := (List.getElem?_eq_some_iff.1 hv).1
      have h9 := hcc _ _ hv
      have e9 : a.off + k * P.cellsOf e + (j - vs.length) = a.off + j := by omega
      rw [e9] at h9
      exact ⟨h9, (hr (j - vs.length) ds[j - vs.length] v (List.getElem?_eq_getElem (by omega)) hv).1⟩
    ·intro i j x d v hi hj hv
     by_cases hik : i < k
     ·rw [List.getElem?_append_left (by omega)] at hi
      have hxl := (h2 x (List.mem_of_getElem? hi)).2
      have hjl : j < x.length := (List.getElem?_eq_some_iff.1 hj).1
      have : i * P.cellsOf e + j < vs.length := by
       rw [h3]
       calc i * P.cellsOf e + j < i * P.cellsOf e + P.cellsOf e := by omega
        _ = (i + 1) * P.cellsOf e := by rw [Nat.add_mul, Nat.one_mul]
        _ ≤ k * P.cellsOf e := Nat.mul_le_mul_right _ hik
      rw [List.getElem?_append_left this] at hv
      exact h5 i j x d v hi hj hv
     ·rw [List.getElem?_append_right (by omega)] at hi
      have hi0 : i - es.length = 0 := by
       have := (List.getElem?_eq_some_iff.1 hi).1
       simp at this
       omega
      rw [hi0] at hi
      simp at hi
      subst hi
      have hik2 : i = k := by omega
      subst hik2
      rw [List.getElem?_append_right (by omega)] at hv
      have : i * P.cellsOf e + j - vs.length = j := by omega
      rw [this] at hv
      exact (hr j d v hj hv).2
  obtain ⟨es, vs, h1, h2, h3, h4, h5⟩ := each len (Nat.le_refl _)
  have hspot : 0 < len → a.spot = none := by
   intro h0
   have hx : ∃ y, elems[0]? = some y := ⟨elems[0], List.getElem?_eq_getElem (by omega)⟩
   obtain ⟨y, hy⟩ := hx
   have hk' := hel 0 h0
   rw [hy, Option.bind_eq_some_iff] at hk'
   obtain ⟨cs, hcs, _⟩ := hk'
   unfold World.cells? at hcs
   split at hcs
   ·have := mapM_some_get hcs 0 0 (List.getElem?_range hp)
    have h0' : 0 < cs.length := by
     have : cs.length = P.cellsOf e := by simpa using mapM_some_length hcs
     omega
    rw [List.getElem?_eq_getElem h0'] at this
    have h7 := cell_spot this
    simpa [Addr.add] using h7
   ·cases hcs
  subst h1
  have key := @Rep.slice M γ w (P.cellsOf e) es none a cap vs (fun x hx => (h2 x hx).2) h3 (fun h0 => hspot (List.length_pos_iff.2 h0)) (fun j v hv => ⟨(h4 j v hv).1, hM _ _, (h4 j v hv).2⟩) h5 hl (TipOk.none _ _ _)
  exact ⟨_, ⟨false, es, rfl, nofun, Nat.le_trans hl hm, fun x hx => (h2 x hx).1⟩, .one rfl key⟩
def AllF : List (List D → Prop) → List D → Prop
 | [], ds => ds = []
 | A :: As, ds => ∃ d e, A d ∧ AllF As e ∧ ds = d ++ e
def FOk (enc : TypeId × Value → H) (P : Program) (w : World) (M : Nat → Nat → Prop) (γ : Nat → Option G) (base : Nat) (spare : Nat → Bool) (held : Bool) : List Field → List (List D → Prop) → Nat → Nat → Prop
 | [], [], off, n => off = n
 | f :: fs, A :: As, off, n => f.offset = off ∧ Rd enc P w M γ base spare held f.type A ∧ FOk enc P w M γ base spare held fs As (off + P.cellsOf f.type) n
 | _, _, _, _ => False
theorem rd_fields {m n : Nat} {cs : List Value} (hcs : cs.length = n) : ∀ (fs : List Field) (As : List (List D → Prop)) (off : Nat) (xs : List (DataW H × List MemPlace)), FOk enc P w M γ base spare held fs As off n →
  (∀ (i : Nat) (f : Field), fs[i]? = some f → DataW.trod enc P w base spare held m f.type ((cs.drop f.offset).take (P.cellsOf f.type)) = xs[i]?) → xs.length = fs.length → ∃ ds, AllF As ds ∧ CRep M γ w ds (cs.drop off)
 | [], [], off, xs, h, _, _ => by
  have h : off = n := h
  rw [List.drop_eq_nil_of_le (by omega)]
  exact ⟨[], rfl, .nil⟩
 | f :: fs, A :: As, off, [], h, _, hl => by simp at hl
 | f :: fs, A :: As, off, x :: xs, h, hx, hl => by
  obtain ⟨h1, h2, h3⟩ := h
  have h4 := hx 0 f rfl
  rw [h1] at h4
  obtain ⟨d, hA, hc⟩ := h2 m _ x h4
  obtain ⟨e, hE, he⟩ := rd_fields hcs fs As (off + P.cellsOf f.type) xs h3 (fun i g hg => hx (i + 1) g hg) (by simpa using hl)
  refine ⟨d ++ e, ⟨d, e, hA, hE, rfl⟩, ?_⟩
  have := hc.append he
  rwa [← List.drop_drop, List.take_append_drop] at this
theorem rd_struct {t : TypeId} {fs : Array Field} {As : List (List D → Prop)} (ht : P.underlying t = some (.struct fs)) (hf : FOk enc P w M γ base spare held fs.toList As 0 (P.cellsOf t)) :
  Rd enc P w M γ base spare held t (AllF As) := by
 intro n cs x h
 obtain ⟨xs, m, _, _, hl, hxl, hx⟩ := DataW.trod_struct ht h
 obtain ⟨ds, h1, h2⟩ := rd_fields hl fs.toList As 0 xs hf (fun i f hf => hx i f (by simpa using hf)) (by simpa using hxl)
 exact ⟨ds, h1, by simpa using h2⟩
theorem list_form {α : Type} {f : α → List D} {g : α → Prop} : ∀ (es : List (List D)), (∀ e ∈ es, ∃ a, g a ∧ e = f a) → ∃ l : List α, es = l.map f ∧ ∀ a ∈ l, g a
 | [], _ => ⟨[], rfl, by simp⟩
 | e :: es, h => by
  obtain ⟨a, ha, rfl⟩ := h e (by simp)
  obtain ⟨l, rfl, hl⟩ := list_form es fun e he => h e (by simp [he])
  exact ⟨a :: l, rfl, fun b hb => (List.mem_cons.1 hb).elim (fun e => e ▸ ha) (hl b)⟩
theorem rd_arg {t : TypeId} {A : List D → Prop} {v : Value} {d : DataW H} {ps : List MemPlace} (hr : Rd enc P w M γ base spare held t A) (h : DataW.Trod enc P w base spare held t v d ps) (hv : ∀ cs, v ≠ .agg cs) {D' : D → Prop} (hA : ∀ ds, A ds → ∃ e, ds = [e] ∧ D' e) :
  ∃ e, D' e ∧ Rep M γ w e v := by
 obtain ⟨n, hn⟩ := h
 obtain ⟨ds, h1, h2⟩ := hr _ _ _ hn
 obtain ⟨e, rfl, h3⟩ := hA ds h1
 have : v.cells.toList = [v] := by
  cases v with
  | agg cs => exact absurd rfl (hv cs)
  | _ => rfl
 rw [this] at h2
 exact ⟨e, h3, (h2.2 0 e v rfl rfl).2⟩
end
section
variable {H : Type} {enc : TypeId × Value → H} {P : Program}
theorem trodAll_keep {W W' : World} {T : TypeId → Prop} (K : Kids P T) (hz : ∀ t e, T t → P.underlying t = some (.slice e) → 0 < P.cellsOf e) (hb : Go.RowKit.Below W.heap.size W W') :
  ∀ {ts : List TypeId} {vs : List Value} {ds : List (DataW H)} {ps : List MemPlace}, (∀ t ∈ ts, T t) → DataW.TrodAll enc P W 0 (fun _ => true) true ts vs ds ps → (∀ p ∈ ps, p.block < W.heap.size) → ∀ sp : Nat → Bool, (∀ x ∈ ps, sp x.block = true) → DataW.TrodAll enc P W' 0 sp true ts vs ds ps := by
 intro ts vs ds ps hT h hl sp hs
 have h' : DataW.TrodAll enc P W' 0 (fun _ => true) true ts vs ds ps := by
  clear hs hT
  induction ts generalizing vs ds ps with
  | nil =>
   match vs, ds, h with
   | [], [], h => exact h
  | cons t ts ih =>
   match vs, ds, h with
   | v :: vs, d :: ds, ⟨p, q, ⟨n, hn⟩, h2, e⟩ =>
    subst e
    exact ⟨p, q, ⟨n, DataW.trod_carry n _ _ _ hn fun x hx => hb.same (hl x (List.mem_append_left _ hx))⟩, ih h2 (fun x hx => hl x (List.mem_append_right _ hx)), rfl⟩
 exact h'.respare K hz hT hs
end
end Go.Id
namespace Go.Id
open Go
inductive Sh (t : Nat) : D → Prop
 | junk : Sh t .junk
 | bool (b : Bool) : Sh t (.bool b)
 | int (k : IntKind) (n : Int) : Sh t (.int k n)
 | str (s : List UInt8) : Sh t (.str s)
 | slice {sz : Nat} {nil : Bool} {es : List (List D)} {tip : Option Nat} (h : ∀ e ∈ es, ∀ d ∈ e, Sh t d) (h0 : ∀ e, es[0]? = some e → ∃ s, e[0]? = some (.str s)) (ht : tip ≠ some t) : Sh t (.slice sz nil es tip)
 | arr {b sz n : Nat} (h : b ≠ t) : Sh t (.arr b sz n)
 | view {b off sz n : Nat} (h : b ≠ t) : Sh t (.view b off sz n)
 | ref {b off : Nat} (h : b ≠ t) : Sh t (.ref b off)
 | nilptr : Sh t .nilptr
 | fn {f : Fn} {a b : List D} (h : ∀ d ∈ a, Sh t d) (h' : ∀ d ∈ b, Sh t d) : Sh t (.fn f a b)
 | nilfn : Sh t .nilfn
 | agg {cs : List D} (h : ∀ d ∈ cs, Sh t d) : Sh t (.agg cs)
 | tup {cs : List D} (h : ∀ d ∈ cs, Sh t d) : Sh t (.tup cs)
 | niliface : Sh t .niliface
 | val (v : Value) : Sh t (.val v)
 | nilmap : Sh t .nilmap
 | map {b : Nat} (h : b ≠ t) : Sh t (.map b)
section
variable {t : Nat}
theorem Sh.rep {M M' : Nat → Nat → Prop} {γ γ' : Nat → Option G} {w : World} {B : Nat} (hγ : ∀ i, i ≠ t → γ' i = γ i) (hM : ∀ B' off, M' B' off → M B' off ∨ B' = B) (hB : ∀ off s, w.cell? ⟨B, off, none⟩ = some (.string s) → M B off) {d : D} (hd : Sh t d) {v : Value} (h : Rep M γ w d v) : Rep M' γ' w d v := by
 induction h with
 | junk v => exact .junk v
 | bool b => exact .bool b
 | int k n => exact .int k n
 | str s => exact .str s
 | @nilslice sz tip ht =>
  cases hd with
  | slice h h0 hn =>
   refine .nilslice fun t' e => ?_
   have : t' ≠ t := fun q => hn (by rw [e, q])
   rw [hγ _ this]; exact ht t' e
 | @slice sz es tip a cap vs hsz hvs hspot hc hr hcap ht ih =>
  cases hd with
  | slice h h0 hn =>
   have hne : ∀ (j : Nat) (v : Value), vs[j]? = some v → a.block ≠ B := by
    intro j v hj e
    have hj' := (List.getElem?_eq_some_iff.1 hj).1
    cases es with
    | nil => have h00 : vs.length = 0 := by rw [hvs]; simp
             omega
    | cons x es =>
     obtain ⟨s, hs⟩ := h0 x rfl
     have hl := hsz x (by simp)
     have hx0 : 0 < x.length := (List.getElem?_eq_some_iff.1 hs).1
     have h0' : 0 < vs.length := by omega
     have hv0 := List.getElem?_eq_getElem h0'
     have hr0 := hr 0 0 x _ vs[0] rfl hs (by simpa using hv0)
     obtain ⟨q1, q2, _⟩ := hc 0 _ hv0
     generalize vs[0] = u at hr0 q1
     cases hr0 with
     | str s' => rw [e] at q1 q2; exact q2 (hB _ _ q1)
   refine .slice vs hsz hvs hspot (fun j v hj => ?_) (fun i j e d v q1 q2 q3 => ih i j e d v q1 q2 q3 (h e (List.mem_of_getElem? q1) d (List.mem_of_getElem? q2))) hcap (fun t' e => ?_)
   ·obtain ⟨q1, q2, q3⟩ := hc j v hj
    exact ⟨q1, fun q => (hM _ _ q).elim q2 (hne j v hj), q3⟩
   ·have : t' ≠ t := fun q => hn (by rw [e, q])
    rw [hγ _ this]; exact ht t' e
 | arr hb hn => cases hd with | arr h => exact .arr ((hγ _ h).trans hb) hn
 | view hb ha hn => cases hd with | view h => exact .view ((hγ _ h).trans hb) ha hn
 | ref hb =>
  cases hd with
  | ref h =>
   refine .ref ?_
   rw [hγ _ h]
   exact hb
 | iptr => cases hd
 | nilptr => exact .nilptr
 | fn hf hk _ _ ih1 ih2 =>
  cases hd with
  | fn h h' => exact .fn hf hk (fun i d v a b => ih1 i d v a b (h d (List.mem_of_getElem? a))) (fun i d v a b => ih2 i d v a b (h' d (List.mem_of_getElem? a)))
 | nilfn => exact .nilfn
 | agg hl h1 _ ih => cases hd with | agg h => exact .agg hl h1 (fun i d v a b => ih i d v a b (h d (List.mem_of_getElem? a)))
 | tup hl _ ih => cases hd with | tup h => exact .tup hl (fun i d v a b => ih i d v a b (h d (List.mem_of_getElem? a)))
 | iface _ ih => cases hd
 | niliface => exact .niliface
 | val v => exact .val v
 | nilmap => exact .nilmap
 | map hb => cases hd with | map h => exact .map ((hγ _ h).trans hb)
end
def NS : D → Prop
 | .int _ _ | .bool _ | .slice _ _ _ _ => True
 | _ => False
theorem NS.not {M : Nat → Nat → Prop} {γ : Nat → Option G} {w : World} {d : D} {s : ByteArray} (h : NS d) (hr : Rep M γ w d (.string s)) : False := by
 cases hr <;> exact h
def TpD (t sz : Nat) (es : List (List D)) (d d' : D) : Prop := (d' = d ∧ Sh t d) ∨ (d = .slice sz false es (some t) ∧ d' = .arr t sz es.length)
def TpL (t sz : Nat) (es : List (List D)) : List D → List D → Prop
 | [], [] => True
 | d :: l, d' :: l' => TpD t sz es d d' ∧ TpL t sz es l l'
 | _, _ => False
def BSh (t : Nat) : Blk → Prop
 | .box _ cs | .arr _ cs => ∀ d ∈ cs, Sh t d
 | .map es _ => ∀ e ∈ es, Sh t e.2.1
 | .miter m _ _ _ => m ≠ t
 | _ => True
theorem TpL.at {t sz : Nat} {es : List (List D)} : ∀ {l l' : List D}, TpL t sz es l l' → l'.length = l.length ∧ ∀ (i : Nat) d', l'[i]? = some d' → ∃ d, l[i]? = some d ∧ TpD t sz es d d'
 | [], [], _ => ⟨rfl, fun i d h => by simp at h⟩
 | d :: l, d' :: l', h => by
  obtain ⟨h1, h2⟩ := TpL.at h.2
  refine ⟨by simp [h1], fun i x hx => ?_⟩
  cases i with
  | zero => simp at hx; subst hx; exact ⟨d, rfl, h.1⟩
  | succ i => simp at hx; simpa using h2 i x hx
 | [], _ :: _, h => h.elim
 | _ :: _, [], h => h.elim
theorem BSh.rel {t : Nat} {M M' : Nat → Nat → Prop} {γ γ' : Nat → Option G} {w : World} {B : Nat} (hγ : ∀ i, i ≠ t → γ' i = γ i) (hM : ∀ B' off, M' B' off → M B' off ∨ B' = B) (hB : ∀ off s, w.cell? ⟨B, off, none⟩ = some (.string s) → M B off) {blk : Blk} {g : G} (hb : BSh t blk) (h : BlkRel M γ w blk g) : BlkRel M' γ' w blk g := by
 cases h with
 | box vs e fz hB' hl h1 hr => exact .box vs e fz hB' hl h1 (fun i d v hd hv => (hb d (List.mem_of_getElem? hd)).rep hγ hM hB (hr i d v hd hv))
 | arr vs e fz hB' hl h1 hr hf => exact .arr vs e fz hB' hl h1 (fun i d v hd hv => (hb d (List.mem_of_getElem? hd)).rep hγ hM hB (hr i d v hd hv)) hf
 | iter hB' => exact .iter hB'
 | map en hB' hl hk => exact .map en hB' hl (fun i e k d n q1 q2 => let ⟨r1, r2, r3⟩ := hk i e k d n q1 q2; ⟨r1, r2, (hb _ (List.mem_of_getElem? q2)).rep hγ hM hB r3⟩)
 | miter hB' hm => exact .miter hB' ((hγ _ hb).trans hm)
 | dead hB' => exact .dead hB'
 | tip xs ho => exact .tip xs ho
end Go.Id
namespace Go.Id
open Go
theorem Weak.blk {ent : List Nat} {st : St} {σ' : List (Nat × Blk)} (b : Nat) (x x' : Blk) (hb : lk st.σ b = some x) (hσb : lk σ' b = some x') (hσ : ∀ i, i ≠ b → lk σ' i = lk st.σ i) (h : ∀ M γ w g, BlkRel M γ w x g → BlkRel M γ w x' g) : Weak ent st ⟨st.F, σ'⟩ := by
 rintro P E N a w ⟨γ, h1, h2, h3, h4, h5, h6⟩
 refine ⟨γ, h1, ⟨fun i => ?_, h2.dist, h2.outer, h2.apart, h2.inv, h2.low, h2.big⟩, h3, h4, h5, h6⟩
 by_cases hi : i = b
 ·subst hi
  obtain ⟨g, q1, q2⟩ := h2.hit hb
  exact .inl ⟨x', g, hσb, q1, h _ _ _ _ q2⟩
 ·show (∃ blk g, lk σ' i = some blk ∧ _) ∨ (lk σ' i = none ∧ _)
  rw [hσ i hi]
  exact h2.names i
theorem UpL.refl (t sz : Nat) : ∀ l : List D, UpL t sz l l
 | [] => trivial
 | _ :: l => ⟨.inl rfl, UpL.refl t sz l⟩
theorem UpB.refl (t sz : Nat) (x : Blk) : UpB t sz x x := by
 cases x with
 | box T cs => exact ⟨rfl, .refl t sz cs⟩
 | arr T cs => exact ⟨rfl, .refl t sz cs⟩
 | _ => exact rfl
theorem UpS.refl (t sz : Nat) : ∀ l : List (Nat × Blk), UpS t sz l l
 | [] => trivial
 | p :: l => ⟨rfl, .refl t sz p.2, UpS.refl t sz l⟩
theorem UpF.refl (t sz : Nat) : ∀ l : List (Nat × D), UpF t sz l l
 | [] => trivial
 | p :: l => ⟨rfl, .inl rfl, UpF.refl t sz l⟩
def FzD (b sz : Nat) (es : List (List D)) (d d' : D) : Prop := (d' = d ∧ Clo (fun i => i ≠ b) d) ∨ (d = .arr b sz es.length ∧ d' = .slice sz false es none)
def FzL (b sz : Nat) (es : List (List D)) : List D → List D → Prop
 | [], [] => True
 | d :: l, d' :: l' => FzD b sz es d d' ∧ FzL b sz es l l'
 | _, _ => False
def FzB (b sz : Nat) (es : List (List D)) : Blk → Blk → Prop
 | .box T cs, .box T' cs' => T' = T ∧ FzL b sz es cs cs'
 | x, x' => x' = x ∧ BClo (fun i => i ≠ b) x
theorem FzL.at {b sz : Nat} {es : List (List D)} : ∀ {l l' : List D}, FzL b sz es l l' → l'.length = l.length ∧ ∀ (i : Nat) d', l'[i]? = some d' → ∃ d, l[i]? = some d ∧ FzD b sz es d d'
 | [], [], _ => ⟨rfl, fun i d h => by simp at h⟩
 | d :: l, d' :: l', h => by
  obtain ⟨h1, h2⟩ := FzL.at h.2
  refine ⟨by simp [h1], fun i x hx => ?_⟩
  cases i with
  | zero => simp at hx; subst hx; exact ⟨d, rfl, h.1⟩
  | succ i => simp at hx; simpa using h2 i x hx
 | [], _ :: _, h => h.elim
 | _ :: _, [], h => h.elim
theorem Weak.freeze {st st' : St} (b : Nat) (e : TypeId) (sz : Nat) (es : List (List D)) (hb : lk st.σ b = some (.arr e es.flatten)) (hsz : ∀ x ∈ es, x.length = sz) (h0 : 0 < sz) (hσb : lk st'.σ b = none) (hec : ∀ x ∈ es, ∀ d ∈ x, Clo (fun i => i ≠ b) d)
  (hF : ∀ p ∈ st'.F, FzD b sz es (st.get p.1) p.2) (hσ : ∀ i, i ≠ b → (lk st.σ i = none ∧ lk st'.σ i = none) ∨ ∃ x x', lk st.σ i = some x ∧ lk st'.σ i = some x' ∧ FzB b sz es x x') : Weak [] st st' := by
 rintro P E N a w ⟨γ, h1, h2, h3, h4, h5, h6⟩
 have hent : ∀ b, E.γ b = none := fun b => by
  cases h : E.γ b with
  | none => rfl
  | some g => exact absurd (h1 b g h) (by simp)
 obtain ⟨g, q1, q2⟩ := h2.hit hb
 have hflen := flat_len es hsz
 cases q2 with
 | @arr _ B cap z vs _ fz hB hl hh hr hf =>
  obtain ⟨rfl, hf2, hf3⟩ := hf
  let γ' : Nat → Option G := fun i => if i = b then none else γ i
  have hγ' : ∀ i g, γ' i = some g → i ≠ b ∧ γ i = some g := by
   intro i g hg
   simp only [γ'] at hg
   split at hg
   ·cases hg
   ·exact ⟨by assumption, hg⟩
  have hS : ∀ i, i ≠ b → γ' i = γ i := fun i hi => by simp [γ', hi]
  have hM : ∀ B off, Mall E.M γ' B off → Mall E.M γ B off := by
   rintro B off (hm | ⟨i, g, hg, hw⟩)
   ·exact .inl hm
   ·exact .inr ⟨i, g, (hγ' i g hg).2, hw⟩
  have hMB : ∀ off, ¬ Mall E.M γ' B off := by
   rintro off (hm | ⟨i, g, hg, hw⟩)
   ·exact h2.apart b _ B off q1 rfl hm
   ·obtain ⟨r1, r2⟩ := hγ' i g hg
    exact r1 (h2.dist i b g _ B r2 q1 (G.wr_block hw) rfl)
  have keep : ∀ d v, Rep (Mall E.M γ) γ w d v → Clo (fun i => i ≠ b) d → Rep (Mall E.M γ') γ' w d v := fun d v hr hc => (hr.restrict hS hc).sub hM
  have turn : ∀ d d' v, FzD b sz es d d' → Rep (Mall E.M γ) γ w d v → Rep (Mall E.M γ') γ' w d' v := by
   rintro d d' v (⟨rfl, hc⟩ | ⟨rfl, rfl⟩) hrv
   ·exact keep _ _ hrv hc
   ·cases hrv with
    | @arr _ B2 _ _ cap2 hg hn =>
     rw [q1] at hg; cases hg
     have hle : es.length * sz ≤ vs.size := by omega
     have htl : (vs.toList.take (es.length * sz)).length = es.length * sz := by rw [List.length_take]; exact Nat.min_eq_left (by simpa using hle)
     refine rep_row hB hsz (vs.toList.take (es.length * sz)) htl rfl (fun u hu => ?_) (fun off _ => hMB off) (fun i j x d u r1 r2 r3 => ?_) hn (TipOk.none _ _ _)
     ·obtain ⟨i, hi, rfl⟩ := List.mem_iff_getElem.1 hu
      rw [List.getElem_take]
      exact (hh i _ (by omega) (by rw [← Array.getElem?_toList]; exact List.getElem?_eq_getElem (by simp at hi ⊢; omega))).1
     ·have hd := flat_get es hsz i j x d r1 r2
      have hu : vs[i * sz + j]? = some u := by
       rw [List.getElem?_take] at r3
       split at r3
       ·simpa using r3
       ·cases r3
      exact keep _ _ (hr _ d u hd hu) (hec x (List.mem_of_getElem? r1) d (List.mem_of_getElem? r2))
  refine ⟨γ', fun i g hg => (by rw [hent] at hg; cases hg), ⟨fun i => ?_, fun i i' g g' B' a1 a2 a3 a4 => h2.dist i i' g g' B' (hγ' _ _ a1).2 (hγ' _ _ a2).2 a3 a4, h2.outer, fun i g B' off a1 a2 => h2.apart i g B' off (hγ' _ _ a1).2 a2, h2.inv, fun i g B' a1 a2 => h2.low i g B' (hγ' _ _ a1).2 a2, h2.big⟩, ?_, h4, h5.sub (fun i g hg => (hγ' i g hg).2), fun k => ?_⟩
  ·by_cases hi : i = b
   ·subst hi; exact .inr ⟨hσb, by simp [γ']⟩
   ·rw [hS i hi]
    rcases hσ i hi with ⟨a1, a2⟩ | ⟨x, x', a1, a2, a3⟩
    ·exact .inr ⟨a2, h2.miss a1⟩
    ·obtain ⟨gi, c1, c2⟩ := h2.hit a1
     refine .inl ⟨x', gi, a2, c1, ?_⟩
     have gen : x' = x ∧ BClo (fun i => i ≠ b) x → BlkRel (Mall E.M γ') γ' w x' gi := by
      rintro ⟨rfl, h⟩
      exact (c2.restrict hS h).evo ⟨fun _ _ _ _ h => h, fun B off h _ => hM B off h, fun _ g h => ⟨g, h, G.le_refl g⟩⟩ (fun _ _ => rfl)
     cases x with
     | box T cs =>
      cases x' with
      | box T' cs' =>
       obtain ⟨rfl, hu⟩ := a3
       obtain ⟨hlen, hat⟩ := hu.at
       cases c2 with
       | box ws _ fz hB' hl' hh' hr' =>
        refine .box ws _ fz hB' (by omega) hh' (fun j x v hx hv => ?_)
        obtain ⟨d0, s1, s2⟩ := hat j x hx
        exact turn _ _ _ s2 (hr' j d0 v s1 hv)
      | _ => exact absurd a3.1 (by simp)
     | _ => cases x' <;> exact gen a3
  ·refine ⟨h3.os, h3.tape, h3.output, h3.size, h3.cell, fun B' off hm hlt => h3.wr B' off (hM _ _ hm) hlt, fun b g0 hg => (by rw [hent] at hg; cases hg), fun B' hlt hno => h3.block B' hlt hno, fun i g0 B' hg hgB' hlt => h3.old i g0 B' (hγ' _ _ hg).2 hgB' hlt⟩
  ·show Rep _ _ _ ((lk st'.F k).getD .junk) _
   cases hl' : lk st'.F k with
   | none => exact .junk _
   | some d => exact turn _ _ _ (hF _ (lk_mem _ _ _ hl')) (h6 k)
end Go.Id
namespace Go.Id
open Go Go.ChangeMaps
section
variable {P : Prg} {ent : List Nat} {N : Nat} {Q : Exit → St → Prop} {st : St}
theorem WP.regionEntry {id : Nat} {ops : Array Oper} {x : Operand} {o : Oper} {os : List Oper} {b m since clock n : Nat} {seen : List Nat} {es : List (List UInt8 × D × Nat)} {k : List UInt8} {d : D} (hd : dstsOk N ops = true) (hos : ops.toList = o :: os) (hop : o.op = .entry x) (hg : o.guard = none)
  (hx : evalD st.get x = .ref b 0) (hb : lk st.σ b = some (.miter m since (seen ++ [n]) clock)) (hm : lk st.σ m = some (.map es clock)) (he : (k, d, n) ∈ es) (hn : (es.map (·.2.2)).Nodup)
  (h1 : ∀ K : St → List RecX → Prop, (∀ st' rs, Q .normal st' → K st' rs) → runOps P ops os (st.put o.dst (.tup [.str k, d])) [] K) :
  WP P ent N (.region id ops false) Q st := by
 intro Fe nf hF E a w hr
 have hko : ops[0]? = some o := by
  have : ops.toList[0]? = some o := by rw [hos]; rfl
  simpa using this
 have hmem : o ∈ ops := Array.mem_of_getElem? hko
 have hsz : ops.size = os.length + 1 := by rw [← Array.length_toList, hos]; rfl
 refine wpIn_region ?_
 rw [hsz, List.range_eq_range', List.range'_succ, wpOpsIn, hko]
 dsimp only
 rw [if_pos (by simp [Region.wanted, hg])]
 have hdst := dstsOk_spec hd hmem
 have go : ∀ (st1 : St) (a' : Act) (w' : World), (∀ K : St → List RecX → Prop, (∀ st' rs, Q .normal st' → K st' rs) → runOps P ops os st1 [] K) → Rel E ent N st1.get (lk st1.σ) a' w' →
   wpOpsIn Fe nf P.prog ops (fun e a' w' => ∃ st', Q e st' ∧ Rel E ent N st'.get (lk st'.σ) a' w') (List.range' (0 + 1) os.length) a' w' := by
  intro st1 a' w' h hr'
  obtain ⟨rs, st', hc, hk⟩ := runOps.chain _ _ _ _ (h (fun st' _ => Q .normal st') (fun _ _ h => h))
  exact hc.wpOps hF.1 (nf := nf) hd _ 1 (by rw [hos]; rfl) a' w' hr' (fun a'' w'' hr'' => ⟨st', hk, hr''⟩)
 have hr0 := hr
 obtain ⟨γ, q1, q2, q3, q4, q5, q6⟩ := hr
 have hev := eval_rep q6 x
 rw [hx] at hev
 generalize hv : a.eval x = v at hev
 obtain ⟨g, r2, r3⟩ := q2.hit hb
 obtain ⟨g', r4, r5⟩ := q2.hit hm
 cases r3 with
 | @miter _ _ _ B Bm _ hB hmB =>
  rw [r4] at hmB; cases hmB
  cases r5 with
  | @map _ _ _ en hBm hl hk =>
   cases hev with
   | @ref _ B' _ hγ =>
    obtain rfl : B' = B := by
     rcases hγ with hγ | ⟨_, _, hγ⟩ | hγ <;> rw [r2] at hγ <;> cases hγ
     rfl
    obtain ⟨i, hi, hie⟩ := List.mem_iff_getElem.1 he
    have hi' : i < en.size := by omega
    obtain ⟨p1, p2, p3⟩ := hk i en[i] es[i].1 es[i].2.1 es[i].2.2 (Array.getElem?_eq_getElem hi') (List.getElem?_eq_getElem hi)
    rw [hie] at p1 p2 p3
    have hborn : en.toList.map (·.born) = es.map (·.2.2) := by
     apply List.ext_getElem (by simpa using hl)
     intro j hj1 hj2
     simp only [List.length_map] at hj1 hj2
     have hj : j < en.size := by simpa using hj1
     obtain ⟨_, s2, _⟩ := hk j en[j] es[j].1 es[j].2.1 es[j].2.2 (Array.getElem?_eq_getElem hj) (List.getElem?_eq_getElem hj2)
     simpa using s2
    have hB1 : w.heap[B']? = some (.mapIter (some Bm) since (seen.toArray.push en[i].born) clock) := by
     rw [hB]
     have : en[i].born = n := p2
     rw [this]; simp
    have hrun := run_entry_at (P := P.prog) w B' Bm since seen.toArray en clock en[i] hB1 hBm (by simp) (by rw [hborn]; exact hn)
    unfold Oper.wpIn
    refine ⟨fun f _ => hF.1.fn f, ?_⟩
    rw [Oper.semAt_plain Fe _ _ (by rw [hop]; intro c hc'; cases hc')]
    simp [execOp, hop, hv, hrun, Result.andThen]
    refine go _ _ _ h1 ?_
    rw [get_put, put_σ]
    refine ⟨γ, q1, q2, q3, by rw [put_size]; exact q4, by rw [put_defers]; exact q5, updO_rep (by rw [q4]; exact hdst) ?_ q6⟩
    refine .tup rfl (fun i' d' v' z1 z2 => ?_)
    match i' with
    | 0 => simp at z1 z2; subst z1; subst z2; rw [p1]; have := Rep.str (M := Mall E.M γ) (γ := γ) (w := w) ⟨k.toArray⟩; simpa using this
    | 1 => simp at z1 z2; subst z1; subst z2; exact p3
    | i + 2 => simp at z1
end
end Go.Id
namespace Go.Id
open Go
def CallXK (P : Prg) (x : Value) (fo : D) (args : List D) (st : St) (K : List (Nat × Blk) → Prop) : Prop :=
 ∃ k first cap ins ws, fo = .fn (.func k) first cap ∧ CallT P (some x) k ((first ++ args ++ cap).map fg) ins .junk ws ∧
  (∀ b blk, lk ins b = some blk → lk st.σ b = some blk ∧ BClo (fun i => (lk ins i).isSome = true) blk) ∧ (∀ b, (lk ws b).isSome = true → (lk ins b).isSome = true ∨ lk st.σ b = none) ∧
  (∀ d ∈ (first ++ args ++ cap).map fg, Clo (fun i => (lk ins i).isSome = true) d) ∧ K ws
section
variable {P : Prg} {ent : List Nat} {N : Nat} {Q : Exit → St → Prop} {st : St}
theorem WP.callX {id : Nat} {ops : Array Oper} (n : Nat) {o : Oper} {os2 : List Oper} {x : Value} {fo : Operand} {args : Array Operand} {ts : Array TypeId} (hd : dstsOk N ops = true) (hos : ops.toList.drop n = o :: os2) (hg : o.guard = none)
  (hop : o.op = .call { callee := .value fo, args := args, argTypes := ts })
  (h : ∀ K : St → List RecX → Prop, (∀ st' rs, CallXK P x (evalD st'.get fo) (args.toList.map (evalD st'.get)) st' (fun ws => Q (.panic [{ v := x, recovered := false }]) (st'.lay ws)) → K st' rs) → runOps P ops (ops.toList.take n) st [] K) :
  WP P ent N (.region id ops false) Q st := by
 intro Fe nf hF E a w hr
 have hlt : n < ops.toList.length := by
  rcases Nat.lt_or_ge n ops.toList.length with h | h
  ·exact h
  ·rw [List.drop_eq_nil_of_le h] at hos; cases hos
 have htk : (ops.toList.take n).length = n := by rw [List.length_take]; omega
 refine region_pre hF.1 hd (ops.toList.take n) (o :: os2) (by rw [← hos, List.take_append_drop]) h hr ?_
 rintro st' a' w' ⟨k, first, cap, ins, ws, h1, h2, h3, h4, h5, h6⟩ hr' hk
 rw [htk]
 have hko : ops[n]? = some o := by
  have : (ops.toList.drop n)[0]? = some o := by rw [hos]; rfl
  simpa [List.getElem?_drop] using this
 rw [List.length_cons, List.range'_succ]
 refine ops_hand hko hg ?_
 refine CallT.op hF.1 hr' hop h1 h2 h3 h4 h5 (dstsOk_spec hd (Array.mem_of_getElem? hko)) _ _ (fun e => by cases e) (fun y e w'' hr'' => ?_)
 cases e
 exact ⟨_, h6, by rw [lay_get, lay_σ]; exact hr''⟩
theorem WP.panicX {id : Nat} {ops : Array Oper} (n : Nat) {o : Oper} {os2 : List Oper} {t : TypeId} {x : Value} {y : Operand} (hd : dstsOk N ops = true) (hos : ops.toList.drop n = o :: os2) (hg : o.guard = none) (hop : o.op = .panic y)
  (h : ∀ K : St → List RecX → Prop, (∀ st' rs, (∀ (M : Nat → Nat → Prop) (γ : Nat → Option G) (w : World) (v : Value), Rep M γ w (evalD st'.get y) v → v = .iface t x) → Q (.panic [{ v := .iface t x, recovered := false }]) st' → K st' rs) → runOps P ops (ops.toList.take n) st [] K) :
  WP P ent N (.region id ops false) Q st := by
 intro Fe nf hF E a w hr
 have hlt : n < ops.toList.length := by
  rcases Nat.lt_or_ge n ops.toList.length with h | h
  ·exact h
  ·rw [List.drop_eq_nil_of_le h] at hos; cases hos
 have htk : (ops.toList.take n).length = n := by rw [List.length_take]; omega
 refine region_pre hF.1 hd (ops.toList.take n) (o :: os2) (by rw [← hos, List.take_append_drop]) (Q := fun st' => (∀ (M : Nat → Nat → Prop) (γ : Nat → Option G) (w : World) (v : Value), Rep M γ w (evalD st'.get y) v → v = .iface t x) ∧ Q (.panic [{ v := .iface t x, recovered := false }]) st')
  (fun K hK => h K fun st' rs h1 h2 => hK st' rs ⟨h1, h2⟩) hr ?_
 rintro st' a' w' ⟨h1, h2⟩ hr' hk
 rw [htk]
 have hko : ops[n]? = some o := by
  have : (ops.toList.drop n)[0]? = some o := by rw [hos]; rfl
  simpa [List.getElem?_drop] using this
 rw [List.length_cons, List.range'_succ]
 refine ops_hand hko hg ⟨fun f _ => hF.1.fn f, ?_⟩
 rw [Oper.semAt_plain Fe _ _ (by rw [hop]; intro c hc; cases hc)]
 have hv : a'.eval y = .iface t x := by
  obtain ⟨γ, r1, r2, r3, r4, r5, r6⟩ := hr'
  exact h1 _ _ _ _ (eval_rep r6 y)
 have hrun : (execOp a'.eval o).run P.prog w' = .halt (.panic (.iface t x)) w' := by
  simp [execOp, hop, hv, Instr.panic]
 rw [hrun]
 exact ⟨st', h2, hr'⟩
end
end Go.Id
namespace Go.Id
open Go
theorem Rel.junk {P : Prg} {E : Ent P} {ent : List Nat} {N : Nat} {st : St} {a : Act} {w : World} (h : Rel E ent N st.get (lk st.σ) a w) {t : Nat} (ht : t < N) (v : Value) {d : D} (hv : ∀ (M : Nat → Nat → Prop) (γ : Nat → Option G), Rep M γ w d v) :
  Rel E ent N (st.put (some t) d).get (lk (st.put (some t) d).σ) (a.put (some t) v) w := by
 obtain ⟨γ, h1, h2, h3, h4, h5, h6⟩ := h
 rw [get_put, put_σ]
 exact ⟨γ, h1, h2, h3, by rw [put_size]; exact h4, by rw [put_defers]; exact h5, updO_rep (by rw [h4]; intro t' e; cases e; exact ht) (hv _ _) h6⟩
section
variable {P : Prg} {ent : List Nat} {N : Nat} {Q : Exit → St → Prop} {st : St}
theorem WP.boxStr {id : Nat} {ops : Array Oper} {t src dst e : TypeId} {tx t1 t2 : Tmp} {o1 o2 : Oper} {os : List Oper} {n b by' : Nat} {T : TypeId} {s : List UInt8} (hd : dstsOk N ops = true) (hos : ops.toList = o1 :: o2 :: os)
  (g1 : o1.guard = none) (g2 : o2.guard = none) (p1 : o1.op = .slice t (.tmp tx) none none none) (p2 : o2.op = .convert src dst (.tmp t1)) (d1 : o1.dst = some t1) (d2 : o2.dst = some t2)
  (ha : arrD P.prog t = some (n, 1)) (hs : isStr P.prog dst = true) (he : elemD P.prog src = some (e, 1, by')) (hk : kindD P.prog e = some .u8) (hx : st.get tx = .ref b 0) (hb : lk st.σ b = some (.box T (s.map fun c => .int .u8 c.toNat))) (hn : s.length = n)
  (h : ∀ K : St → List RecX → Prop, (∀ st' rs, Q .normal st' → K st' rs) → runOps P ops os ((st.put (some t1) .junk).put (some t2) (.str s)) [] K) : WP P ent N (.region id ops false) Q st := by
 intro Fe nf hF E a w hr
 have hsz : ops.size = 2 + os.length := by rw [← Array.length_toList, hos]; simp; omega
 have k0 : ops[0]? = some o1 := by
  have : ops.toList[0]? = some o1 := by rw [hos]; rfl
  simpa using this
 have k1 : ops[1]? = some o2 := by
  have : ops.toList[1]? = some o2 := by rw [hos]; rfl
  simpa using this
 have l1 := dstsOk_spec hd (Array.mem_of_getElem? k0) t1 d1
 have l2 := dstsOk_spec hd (Array.mem_of_getElem? k1) t2 d2
 refine wpIn_region ?_
 rw [hsz, List.range_eq_range', show 2 + os.length = os.length + 1 + 1 by omega, List.range'_succ, List.range'_succ]
 have hr0 := hr
 obtain ⟨γ, h1, h2, h3, h4, h5, h6⟩ := hr0
 obtain ⟨g, q1, q2⟩ := h2.hit hb
 cases q2 with
 | @box _ B vs _ fz hB hl hc hrr =>
 have hxv := h6 tx
 rw [hx] at hxv
 have hav : a.tmps.getD tx undef = .pointer (some ⟨B, 0, none⟩) := by
  generalize a.tmps.getD tx undef = v at hxv
  cases hxv with
  | ref hb' =>
   rcases hb' with hb' | ⟨c, z, hb'⟩ | hb' <;> rw [q1] at hb' <;> cases hb'
   rfl
 obtain ⟨el, ti, u1, u2, u3⟩ := arrD_spec ha
 have hsize : (sizeOf el).run P.prog w = .ok 1 w := by simp [sizeOf, typeInfo, u2, u3]
 have hlen : vs.size = n := by rw [hl, List.length_map, hn]
 refine ops_hand k0 g1 ⟨fun f _ => hF.1.fn f, ?_⟩
 rw [Oper.semAt_plain Fe _ _ (by rw [p1]; intro c hc; cases hc)]
 have hrun1 : (execOp a.eval o1).run P.prog w = .ok (.value (.slice (some ⟨B, 0, none⟩) n n)) w := by
  have hbn := run_sliceBounds_no (P := P.prog) (w := w) false n n none none 0 n (.inl ⟨rfl, rfl⟩) (.inl ⟨rfl, rfl⟩) (Nat.zero_le _) (Nat.le_refl _)
  simp only [execOp, p1, Act.eval, hav, Instr.sliceAt, Instr.sureAddr, Sem.run_bind, run_underlying u1, Result.andThen_ok, Sem.run_pure, Option.map_none, hbn, hsize]
  simp [Addr.add_lit]
 rw [hrun1]
 show wpOpsIn _ _ _ _ _ _ _ _
 rw [d1]
 have hr1 := hr.junk l1 (.slice (some ⟨B, 0, none⟩) n n) (d := .junk) (fun _ _ => .junk _)
 have he1 : (a.put (some t1) (.slice (some ⟨B, 0, none⟩) n n)).eval (.tmp t1) = .slice (some ⟨B, 0, none⟩) n n := by
  show (a.put (some t1) _).tmps.getD t1 undef = _
  rw [put_get (by rw [h4]; intro t' e; cases e; exact l1), if_pos rfl]
 have hsl : Rep (fun _ _ => False) γ w (.slice 1 false (u8s s) none) (.slice (some ⟨B, 0, none⟩) (u8s s).length n) := by
  refine .slice vs.toList (by simp [u8s]) (by simp [u8s, hlen, hn]) (fun _ => rfl) (fun j v hv => ⟨?_, fun h => h, ?_⟩) (fun i j e d v he hdd hv => ?_) (by simp [u8s, hn]) (fun t e => by cases e)
  ·have hv' : vs[j]? = some v := by simpa using hv
   simp [World.cell?, hB, hv']
  ·have hv' : vs[j]? = some v := by simpa using hv
   exact (hc j v hv').1
  ·simp only [u8s, List.getElem?_map] at he
   obtain ⟨c, hcc, rfl⟩ := Option.map_eq_some_iff.1 he
   match j with
   | 0 =>
    simp at hdd; subst hdd
    have hv' : vs[i]? = some v := by simpa using hv
    have := hrr i (.int .u8 c.toNat) v (by simp [List.getElem?_map, hcc]) hv'
    rw [int_inj this]
    exact .int _ _
   | j + 1 => simp at hdd
 have hcv : cvtD P.prog src dst (.slice 1 false (u8s s) none) = some (.str s) := by
  unfold cvtD
  simp [hs, he, hk, bytesOf_u8s]
 obtain ⟨r, hrn, hrr2⟩ := cvtD_spec hcv hsl
 have hlu : (u8s s).length = n := by simp [u8s, hn]
 rw [hlu] at hrn
 refine ops_hand k1 g2 ⟨fun f _ => hF.1.fn f, ?_⟩
 rw [Oper.semAt_plain Fe _ _ (by rw [p2]; intro c hc; cases hc)]
 have hrun2 : (execOp (a.put (some t1) (.slice (some ⟨B, 0, none⟩) n n)).eval o2).run P.prog w = .ok (.value r) w := by
  simp only [execOp, p2, he1, Sem.run_bind, hrn, Result.andThen_ok, Sem.run_pure]
 rw [hrun2]
 show wpOpsIn _ _ _ _ _ _ _ _
 rw [d2]
 have hr2 := hr1.junk l2 r (d := .str s) (fun M γ' => by
  obtain ⟨b', e1, e2⟩ := str_inj hrr2
  rw [e1, ← e2]
  exact .str _)
 refine ops_from hF.1 hd 2 os (by rw [hos]; rfl) (Q := fun st' => Q .normal st') h hr2 (fun st' a' w' hq hr' _ => ⟨st', hq, hr'⟩)
end
end Go.Id
namespace Go.Id
open Go
theorem CallXK.imp {P : Prg} {x : Value} {fo : D} {args : List D} {st : St} {K : List (Nat × Blk) → Prop} {k : FuncId} {first cap as : List D} {ins outs : List (Nat × Blk)} (h : CallT P (some x) k as ins .junk outs) (hfo : fo = .fn (.func k) first cap) (has : as = (first ++ args ++ cap).map fg)
  (hin : ∀ p ∈ ins, lk st.σ p.1 = some p.2 ∧ BClo (fun i => (lk ins i).isSome = true) p.2) (hout : ∀ p ∈ outs, (lk ins p.1).isSome = true ∨ lk st.σ p.1 = none)
  (hcl : ∀ d ∈ as, Clo (fun i => (lk ins i).isSome = true) d) (hk : K outs) : CallXK P x fo args st K := by
 refine ⟨k, first, cap, ins, outs, hfo, by rw [← has]; exact h, ?_, ?_, by rw [← has]; exact hcl, hk⟩
 ·intro b blk hb
  exact hin (b, blk) (lk_some_mem hb)
 ·intro b hb
  obtain ⟨x, hx⟩ := Option.isSome_iff_exists.1 hb
  exact hout (b, x) (lk_some_mem hx)
theorem EndsT.panic {P : Prg} {fn : Func} {ins outs : List (Nat × Blk)} {x : Option Value} {y : Value} {val : D} {st : St} (hx : x = some y) (hv : val = .junk) (hout : ∀ p ∈ outs, lk st.σ p.1 = some p.2 ∧ BClo (fun i => (lk outs i).isSome = true) p.2) (hin : ∀ p ∈ ins, (lk outs p.1).isSome = true) :
  EndsT P fn ins x val outs (.panic [{ v := y, recovered := false }]) st := by
 subst hx; exact ⟨rfl, hv, hout, hin⟩
theorem EndsT.ret {P : Prg} {fn : Func} {ins outs : List (Nat × Blk)} {x : Option Value} {val : D} {e : Exit} {st : St} (hx : x = none) (h : Ends P fn ins val outs e st) : EndsT P fn ins x val outs e st := by
 subst hx; exact h
theorem CallT.junkOut {P : Prg} {x : Option Value} {k : FuncId} {args : List D} {ins : List (Nat × Blk)} {val : D} {b : Nat} {T : TypeId} {cs cs' : List D} (h : CallT P x k args ins val [(b, .box T cs)]) (hle : Les cs cs') : CallT P x k args ins val [(b, .box T cs')] := by
 refine ⟨h.1, fun M γ w vs hst hl hr => (h.2 M γ w vs hst hl hr).mono ?_⟩
 rintro e w' ⟨v, γ', he, hst', hev, hv⟩
 refine ⟨v, γ', he, ⟨fun i => ?_, hst'.dist, hst'.outer, hst'.apart, hst'.inv, hst'.low, hst'.big⟩, hev, hv⟩
 rcases hst'.names i with ⟨blk, g, q1, q2, q3⟩ | ⟨q1, q2⟩
 ·simp only [lk] at q1
  split at q1
  ·rename_i e; subst e
   cases q1
   refine .inl ⟨.box T cs', g, by simp [lk], q2, ?_⟩
   cases q3 with
   | @box _ B us _ fz hB hl h1 hrr =>
    obtain ⟨l1, l2⟩ := hle.at
    refine .box us T fz hB (hl.trans l1) h1 (fun j d u hd hu => ?_)
    have hj : j < cs.length := by rw [l1]; exact (List.getElem?_eq_some_iff.1 hd).1
    exact l2 j _ _ (List.getElem?_eq_getElem hj) hd _ _ _ _ (hrr j _ u (List.getElem?_eq_getElem hj) hu)
  ·cases q1
 ·refine .inr ⟨?_, q2⟩
  simp only [lk] at q1 ⊢
  split at q1
  ·cases q1
  ·rename_i hne; rw [if_neg hne]
theorem Weak.boxN {ent : List Nat} {st : St} (b : Nat) (e : TypeId) (cs cs' : List D) (hb : lk st.σ b = some (.box e cs)) (h : Les cs cs') : Weak ent st ⟨st.F, (b, .box e cs') :: dl st.σ b⟩ :=
 Weak.blk b (.box e cs) (.box e cs') hb (by simp [lk]) (fun i hi => by simp [lk, lk_dl, hi]) fun M γ w g hg => by
  obtain ⟨l1, l2⟩ := h.at
  cases hg with
  | @box _ B us _ fz hB hl h1 hrr =>
   refine .box us e fz hB (hl.trans l1) h1 (fun j d u hd hu => ?_)
   have hj : j < cs.length := by rw [l1]; exact (List.getElem?_eq_some_iff.1 hd).1
   exact l2 j _ _ (List.getElem?_eq_getElem hj) hd _ _ _ _ (hrr j _ u (List.getElem?_eq_getElem hj) hu)
end Go.Id
namespace Go.Id
open Go
section
variable {P : Prg} {ent : List Nat} {N : Nat} {E : Ent P}
end
inductive Recovers : FrameMode → Value → FrameMode → Prop
 | no : Recovers .returning .nilIface .returning
 | yes (y : Value) : Recovers (.panicking [{ v := y, recovered := false }]) y (.panicking [{ v := y, recovered := true }])
theorem deferred_clos {P : Prg} {g : FuncId} {gfn : Func} {N2 r0 n : Nat} {ops0 : Array Oper} {o1 o2 : Oper} {ta tb : Tmp} {gc : Code} (hf : P.prog.funcs[g]? = some gfn) (hb : gfn.body = some (.seq (.region r0 ops0 false) gc)) (hN : gfn.ntmps = N2) (hres : gfn.results = #[])
  (hops : ops0 = #[o1, o2]) (g1 : o1.guard = none) (g2 : o2.guard = none) (d1 : o1.dst = some ta) (d2 : o2.dst = some tb) (p2 : o2.op = .assign (.tmp ta))
  {c1 : Call} (p1 : o1.op = .call c1) (pc : c1.callee = .builtin .recover) (pa : c1.args = #[])
  {u u' : FrameMode} {x : D} {xv : Value} (hrec : Recovers u xv u') (hx : ∀ (M : Nat → Nat → Prop) (γ : Nat → Option G) (w : World), Rep M γ w x xv)
  {m : Nat → Nat → Prop} {γ : Nat → Option G} {σl : List (Nat × Blk)} {w : World} (hst : Store (P.base m) γ (lk σl) w) {cs : List D} {vs : Array Value} (hlen : vs.size = cs.length) (ha : cs.length ≤ ta) (hNl : cs.length ≤ N2) (ha2 : ta < N2) (hb2 : tb < N2) (hab : ta ≠ tb)
  (hr : ∀ (i : Nat) d v, cs[i]? = some d → vs[i]? = some v → Rep (Mall (P.base m) γ) γ w d v) {Q : List (Nat × Blk) → Prop}
  (hwp : WP P (MS :: σl.map (·.1)) N2 gc (fun e st' => (e = .normal ∨ e = .ret) ∧ Q st'.σ) ⟨(tb, x) :: frameOf 0 cs, σl⟩)
  {R : Ending → FrameMode → World → Prop} (hR : ∀ w' γ' σ', Store (P.base m) γ' (lk σ') w' → Evolve (Mall (P.base m) γ) γ w (Mall (P.base m) γ') γ' w' → Q σ' → ∀ v, R (.returned v) u' w') :
  CallsDIn Fence.wide n P.prog g vs u w R := by
 subst hops
 refine callsDIn_of_wpSIn hf hb trivial fun c₀ fs hu => ?_
 refine wpSIn_seq (wpSIn_region ?_)
 have hrng : List.range (#[o1, o2] : Array Oper).size = [0, 1] := rfl
 rw [hrng]
 have hsem1 : ∀ (a : Act) (w : World), (execOp a.eval o1).run P.prog w = .ok .recover w := by
  intro a w
  obtain ⟨cal, ars, tys⟩ := c1
  simp only at pc pa
  subst pc; subst pa
  simp only [execOp, p1, resolve, invoke, Sem.run_bind, Sem.run_pure, Result.andThen_ok]
  rfl
 have hsem2 : ∀ (a : Act) (w : World), (execOp a.eval o2).run P.prog w = .ok (.value (a.eval (.tmp ta))) w := by
  intro a w
  simp only [execOp, p2, Sem.run_pure]
 let a0 : Act := { tmps := vs ++ Array.replicate (gfn.ntmps - vs.size) undef, defers := [] }
 have hsz0 : a0.tmps.size = N2 := by simp [a0, hN]; omega
 let a1 := a0.put (some ta) xv
 let a2 := a1.put (some tb) xv
 have hev : a1.eval (.tmp ta) = xv := by
  show (a0.put (some ta) xv).tmps.getD ta undef = _
  rw [put_get (by intro t e; cases e; rw [hsz0]; exact ha2), if_pos rfl]
 have hrel : Rel (⟨m, γ, w, 0, Nat.zero_le _, []⟩ : Ent P) (MS :: σl.map (·.1)) N2 (St.get ⟨(tb, x) :: frameOf 0 cs, σl⟩) (lk σl) a2 w := by
  refine ⟨γ, fun b g' hg => ?_, hst, Evolve.refl _ _ _, by rw [put_size, put_size]; exact hsz0, Marks.nil _ _ _ _, fun t => ?_⟩
  ·rcases hst.names b with ⟨blk, g'', q1, _⟩ | ⟨_, q1⟩
   ·exact List.mem_cons_of_mem _ (List.mem_map.2 ⟨(b, blk), lk_mem _ _ _ q1, rfl⟩)
   ·have hg' : γ b = some g' := hg
    rw [hg'] at q1; cases q1
  ·rw [put_get (by intro t' e; cases e; rw [put_size, hsz0]; exact hb2)]
   by_cases htb : tb = t
   ·subst htb
    rw [if_pos rfl]
    simp only [St.get, lk, if_true, Option.getD_some]
    exact hx _ _ _
   ·rw [if_neg (by simpa using htb), put_get (by intro t' e; cases e; rw [hsz0]; exact ha2)]
    have hget : St.get ⟨(tb, x) :: frameOf 0 cs, σl⟩ t = (cs[t]?).getD .junk := by
     simp only [St.get, lk, lk_frameOf, Nat.zero_le, if_true, Nat.sub_zero]
     rw [if_neg (fun e => htb e.symm)]
    rw [hget]
    by_cases hta : ta = t
    ·subst hta
     rw [List.getElem?_eq_none (by omega)]
     exact .junk _
    ·rw [if_neg (by simpa using hta)]
     by_cases ht : t < cs.length
     ·have h1 : a0.tmps.getD t undef = vs[t]'(by omega) := by
       simp only [a0, Array.getD_eq_getD_getElem?]
       rw [Array.getElem?_append_left (by omega), Array.getElem?_eq_getElem (by omega)]
       rfl
      rw [h1, List.getElem?_eq_getElem ht]
      exact hr t _ _ (List.getElem?_eq_getElem ht) (Array.getElem?_eq_getElem (by omega))
     ·rw [List.getElem?_eq_none (by omega)]
      exact .junk _
 have hthen : ∀ fs', fs' = { c₀ with mode := u' } :: fs → Exit.thenS (gc.wpSIn Fence.wide n P.prog (bodyPostS P.prog gfn c₀ fs R)) (bodyPostS P.prog gfn c₀ fs R) .normal a2 fs' w := by
  rintro fs' rfl
  show gc.wpSIn Fence.wide n P.prog (bodyPostS P.prog gfn c₀ fs R) a2 _ w
  refine wpSIn_of_wpIn rfl (wpIn_mono (hwp Fence.wide n (.wide _) _ _ _ hrel) ?_)
  rintro e a' w' ⟨st', ⟨he, hq⟩, γ', h1, h2, h3, h4, h5, h6⟩
  have hresult : (results gfn a'.tmps).run P.prog w' = .ok (.tuple #[]) w' := by
   unfold results
   rw [hres]
   simp
  have hnil : a'.defers = [] := by
   obtain ⟨Ds, ⟨k1, k2⟩, _⟩ := h5
   rw [k1, k2 (by simp)]; rfl
  have hfin : bodyPostS P.prog gfn c₀ fs R .normal a' ({ c₀ with mode := u' } :: fs) w' :=
   ⟨hnil, u', rfl, _, hresult, hR w' γ' st'.σ h2 h3 hq _⟩
  rcases he with rfl | rfl <;> exact hfin
 have hop1 : ∀ (a : Act) (w : World), o1.about P.prog w a.eval = none ∨ ∀ f : FuncId, Fence.wide.fn f := fun _ _ => .inr fun _ => trivial
 unfold wpOpsSIn
 rw [show (#[o1, o2] : Array Oper)[0]? = some o1 from rfl]
 dsimp only
 refine ⟨fun f _ => trivial, ?_⟩
 rw [if_pos (by simp [Region.wanted, g1]), hsem1]
 dsimp only
 have tail : ∀ fs', fs' = { c₀ with mode := u' } :: fs → wpOpsSIn Fence.wide n P.prog #[o1, o2] (Exit.thenS (gc.wpSIn Fence.wide n P.prog (bodyPostS P.prog gfn c₀ fs R)) (bodyPostS P.prog gfn c₀ fs R)) [1] (a0.put o1.dst xv) fs' w := by
  intro fs' hfs
  unfold wpOpsSIn
  rw [show (#[o1, o2] : Array Oper)[1]? = some o2 from rfl]
  dsimp only
  refine ⟨fun f _ => trivial, ?_⟩
  rw [if_pos (by simp [Region.wanted, g2]), hsem2]
  dsimp only
  rw [d1, d2, hev]
  exact hthen fs' hfs
 cases hrec with
 | no =>
  have : recoverD (c₀ :: fs) = none := by simp [recoverD, hu]
  rw [this]
  exact tail _ (by rw [← hu])
 | yes y =>
  have : recoverD (c₀ :: fs) = some (xv, { c₀ with mode := .panicking [{ v := xv, recovered := true }] } :: fs) := by simp [recoverD, hu]
  rw [this]
  exact tail _ rfl
structure DEnd (P : Prg) (fn : Func) (N2 : Nat) (tb : Tmp) (gc : Code) (cs : List D) (val : D) (e : Exit) (st : St) (u u' : FrameMode) (x : D) (xv : Value) : Prop where
 rcv : Recovers u xv u'
 how : ((e = .normal ∨ e = .ret) ∧ u = .returning) ∨ (e = .panic [{ v := xv, recovered := false }] ∧ u = .panicking [{ v := xv, recovered := false }])
 rep : ∀ (M : Nat → Nat → Prop) (γ : Nat → Option G) (w : World), Rep M γ w x xv
 wp : WP P (MS :: st.σ.map (·.1)) N2 gc (fun e st' => (e = .normal ∨ e = .ret) ∧ ∃ d, resD P.prog fn ⟨st.F, st'.σ⟩ = some d ∧ Le d val) ⟨(tb, x) :: frameOf 0 cs, st.σ⟩
theorem rel_enter {P : Prg} {fn : Func} {args : List D} {ent : List Nat} {N : Nat} {m : Nat → Nat → Prop} {γ : Nat → Option G} {w : World} {vs : List Value} (hN : fn.ntmps = N) (hle : args.length ≤ N) (hst : Store (P.base m) γ (lk []) w) (hl : vs.length = args.length)
  (hr : ∀ (i : Nat) d v, args[i]? = some d → vs[i]? = some v → Rep (Mall (P.base m) γ) γ w d v) :
  Rel (⟨m, γ, w, max w.heap.size P.n, Nat.le_refl _, []⟩ : Ent P) ent N (St.get ⟨frameOf 0 args, []⟩) (lk []) { tmps := vs.toArray ++ Array.replicate (fn.ntmps - vs.toArray.size) undef, defers := [] } w := by
 refine ⟨γ, fun b g hg => ?_, hst, Evolve.refl _ _ _, ?_, Marks.nil _ _ _ _, fun t => ?_⟩
 ·rcases hst.names b with ⟨blk, g', q1, _⟩ | ⟨_, q1⟩
  ·cases q1
  ·have hg' : γ b = some g := hg
   rw [hg'] at q1; cases q1
 ·simp [hl]; omega
 ·simp only [St.get, lk_frameOf, Nat.zero_le, if_true, Nat.sub_zero]
  rw [Array.getD_eq_getD_getElem?]
  by_cases ht : t < vs.length
  ·have h1 : (vs.toArray ++ Array.replicate (fn.ntmps - vs.toArray.size) undef)[t]? = vs[t]? := by
    rw [Array.getElem?_append_left (by simpa using ht)]; simp
   have h2 : t < args.length := by omega
   rw [h1, List.getElem?_eq_getElem ht, List.getElem?_eq_getElem h2]
   exact hr t _ _ (List.getElem?_eq_getElem h2) (List.getElem?_eq_getElem ht)
  ·rw [List.getElem?_eq_none (by omega : args.length ≤ t)]
   exact .junk _
theorem CallP.of_defer {P : Prg} {k : FuncId} {fn : Func} {c0 c1 rest : Code} {r3 : Nat} {q1 q2 : Oper} {t9 : Tmp} {caps : Array Operand} {args : List D} {val : D} {N : Nat}
  {g : FuncId} {gfn : Func} {N2 r0 : Nat} {ops0 : Array Oper} {o1 o2 : Oper} {ta tb : Tmp} {gc : Code} {call1 call2 : Call}
  (hf : P.prog.funcs[k]? = some fn) (hb : fn.body = some (.seq c0 (.seq c1 (.seq (.region r3 #[q1, q2] false) rest)))) (hn : (fn.name == "runtime.NumGoroutine") = false) (hN : fn.ntmps = N) (hle : args.length ≤ N)
  (e1 : q1.op = .makeFunc (.func g) #[] caps) (e2 : q2.op = .defer call2) (ec : call2.callee = .value (.tmp t9)) (ea : call2.args = #[]) (eg1 : q1.guard = none) (eg2 : q2.guard = none) (ed1 : q1.dst = some t9) (ed2 : q2.dst = none) (h9 : t9 < N)
  (gf : P.prog.funcs[g]? = some gfn) (gb : gfn.body = some (.seq (.region r0 ops0 false) gc)) (gN : gfn.ntmps = N2) (gres : gfn.results = #[]) (gname : (gfn.name == "runtime.NumGoroutine") = false)
  (hops : ops0 = #[o1, o2]) (g1 : o1.guard = none) (g2 : o2.guard = none) (d1 : o1.dst = some ta) (d2 : o2.dst = some tb) (p2 : o2.op = .assign (.tmp ta)) (p1 : o1.op = .call call1) (pc : call1.callee = .builtin .recover) (pa : call1.args = #[])
  (ha : caps.size ≤ ta) (hNl : caps.size ≤ N2) (ha2 : ta < N2) (hb2 : tb < N2) (hab : ta ≠ tb) (st1 : St) (hj : st1.get t9 = .junk) (hcl : Clo (fun _ => False) val)
  (h01 : WP P [MS] N c0 (fun e st' => e = .normal ∧ WP P [MS] N c1 (fun e st'' => e = .normal ∧ Weak [MS] st'' st1) st') ⟨frameOf 0 args, []⟩)
  (hrest : WP P (st1.σ.map (·.1)) N rest (fun e st => ∃ u u' x xv, DEnd P fn N2 tb gc (caps.toList.map (evalD st1.get)) val e st u u' x xv) st1) : CallP P k args val := by
 refine ⟨⟨fn, hf, hn, by simp [hb]⟩, fun m γ w vs hst hl hr => ?_⟩
 refine callsIn_wide.1 (callsIn_of_wp_marks (n := 0) hf hb trivial ?_ rfl)
 have hrel0 := rel_enter (P := P) (fn := fn) (ent := [MS]) hN hle hst hl hr
 refine wpIn_seq (wpIn_mono (h01 Fence.wide 0 (OkF.wide _) _ _ _ hrel0) ?_)
 rintro e a1 w1 ⟨st', ⟨rfl, h1⟩, hr1⟩
 show Code.wpIn _ _ _ _ _ _ _
 refine wpIn_seq (wpIn_mono (h1 Fence.wide 0 (OkF.wide _) _ _ _ hr1) ?_)
 rintro e a2 w2 ⟨st'', ⟨rfl, hw⟩, hr2⟩
 show Code.wpIn _ _ _ _ _ _ _
 obtain ⟨γ2, k1, k2, k3, k4, k5, k6⟩ := hw P _ N a2 w2 hr2
 have hdf : a2.defers = [] := by
  obtain ⟨Ds, ⟨x1, x2⟩, _⟩ := k5
  rw [x1, x2 (by simp)]; rfl
 refine wpIn_seq (wpIn_region ?_)
 rw [show List.range (#[q1, q2] : Array Oper).size = [0, 1] from rfl]
 refine ops_hand (o := q1) rfl eg1 ⟨fun f _ => trivial, ?_⟩
 rw [Oper.semAt_plain Fence.wide _ _ (by rw [e1]; intro c hc; cases hc)]
 have hrun1 : (execOp a2.eval q1).run P.prog w2 = .ok (.value (.func (.func g) #[] (caps.map a2.eval))) w2 := by
  simp [execOp, e1, Instr.makeFunc]
 rw [hrun1]
 show wpOpsIn _ _ _ _ _ _ _ _
 refine ops_hand (o := q2) rfl eg2 ⟨fun f _ => trivial, ?_⟩
 rw [show Oper.semAt Fence.wide.round = Oper.semAt none from rfl, Oper.semAt_none, ed1]
 have he9 : (a2.put (some t9) (.func (.func g) #[] (caps.map a2.eval))).eval (.tmp t9) = .func (.func g) #[] (caps.map a2.eval) := by
  show (a2.put (some t9) _).tmps.getD t9 undef = _
  rw [put_get (by intro t' e; cases e; rw [k4]; exact h9), if_pos rfl]
 have hrun2 : (execOp (a2.put (some t9) (.func (.func g) #[] (caps.map a2.eval))).eval q2).run P.prog w2 = .ok (.defer { target := .fn (.func g) (caps.map a2.eval), args := #[] }) w2 := by
  obtain ⟨cal, ars, tys⟩ := call2
  simp only at ec ea
  subst ec; subst ea
  simp only [execOp, e2, resolve, he9, Deferred.ofValue, Sem.run_bind, Sem.run_pure, Result.andThen_ok]
  simp
 rw [hrun2]
 rw [Oper.uponIn_defer, ed2]
 show Code.wpIn _ _ _ _ _ _ _
 have hrel3 : Rel (⟨m, γ2, w2, max w2.heap.size P.n, Nat.le_refl _, [{ target := .fn (.func g) (caps.map a2.eval), args := #[] }]⟩ : Ent P) (st1.σ.map (·.1)) N st1.get (lk st1.σ)
   (Act.put { (a2.put (some t9) (.func (.func g) #[] (caps.map a2.eval))) with defers := { target := .fn (.func g) (caps.map a2.eval), args := #[] } :: (a2.put (some t9) (.func (.func g) #[] (caps.map a2.eval))).defers } none undef) w2 := by
  refine ⟨γ2, fun b g' hg => ?_, k2, Evolve.refl _ _ _, ?_, ?_, fun t => ?_⟩
  ·rcases k2.names b with ⟨blk, g'', y1, _⟩ | ⟨_, y1⟩
   ·exact List.mem_map.2 ⟨(b, blk), lk_mem _ _ _ y1, rfl⟩
   ·have hg' : γ2 b = some g' := hg
    rw [hg'] at y1; cases y1
  ·rw [put_size]
   show (a2.put (some t9) _).tmps.size = N
   rw [put_size]; exact k4
  ·have : (Act.put { (a2.put (some t9) (.func (.func g) #[] (caps.map a2.eval))) with defers := { target := .fn (.func g) (caps.map a2.eval), args := #[] } :: (a2.put (some t9) (.func (.func g) #[] (caps.map a2.eval))).defers } none undef).defers = [{ target := .fn (.func g) (caps.map a2.eval), args := #[] }] := by
    rw [put_defers]
    show _ :: (a2.put (some t9) _).defers = _
    rw [put_defers, hdf]
   rw [this]
   exact Marks.nil _ _ _ _
  ·show Rep _ _ _ _ ((a2.put (some t9) _).tmps.getD t undef)
   rw [put_get (by intro t' e; cases e; rw [k4]; exact h9)]
   by_cases ht : t9 = t
   ·subst ht
    rw [hj]; exact .junk _
   ·rw [if_neg (by simpa using ht)]
    exact k6 t
 refine wpIn_mono (hrest Fence.wide 0 (OkF.wide _) _ _ _ hrel3) ?_
 rintro e a' w' ⟨st, ⟨u, u', x, xv, hd⟩, γ', r1, r2, r3, r4, r5, r6⟩
 obtain ⟨Ds, ⟨z1, _⟩, z2, z3⟩ := r5
 have hune : u ≠ .run := by
  have := hd.rcv
  cases this <;> simp
 have hset : settle u' = .returning := by
  have := hd.rcv
  cases this <;> simp [settle]
 have key := leaves_marks (P := P) (E := ⟨m, γ2, w2, max w2.heap.size P.n, Nat.le_refl _, [{ target := .fn (.func g) (caps.map a2.eval), args := #[] }]⟩) (fn := fn) (tmps := a'.tmps) (F := st.get) (σ := lk st.σ) (γ := γ2) (γ' := γ') (w := w2)
  (T := [{ target := .fn (.func g) (caps.map a2.eval), args := #[] }]) (n := max w2.heap.size P.n) (by omega) (u := u) hune
  (R := fun e w' => ∃ v γ', e = .returned v ∧ Store (P.base m) γ' (lk []) w' ∧ Evolve (Mall (P.base m) γ) γ w (Mall (P.base m) γ') γ' w' ∧ Rep (Mall (P.base m) γ') γ' w' val v)
  (fun w4 g2' g3' g6' => by
   refine ⟨hune, .inr ⟨(fun e => by cases e), .func g, caps.map a2.eval, g, #[] ++ caps.map a2.eval, rfl, ?_, fun _ _ => trivial, ?_⟩⟩
   ·simp only [invoke, callFunc, Sem.run_bind, run_program, Result.andThen_ok, gf, gname]
    simp [gb]
   ·refine deferred_clos (cs := caps.toList.map (evalD st1.get)) (Q := fun σ' => ∃ d, resD P.prog fn ⟨st.F, σ'⟩ = some d ∧ Le d val) gf gb gN gres hops g1 g2 d1 d2 p2 p1 pc pa hd.rcv hd.rep g2' (by simp) (by simpa using ha) (by simpa using hNl) ha2 hb2 hab (fun i d v hi hv => ?_) hd.wp ?_
    ·have hi' : i < caps.size := by
      have := (List.getElem?_eq_some_iff.1 hi).1
      simpa using this
     rw [List.getElem?_map] at hi
     obtain ⟨o, ho, rfl⟩ := Option.map_eq_some_iff.1 hi
     have hv' : v = a2.eval o := by
      have ho' : caps[i]? = some o := by simpa using ho
      rw [Array.empty_append, Array.getElem?_map, ho'] at hv
      simpa using hv.symm
     rw [hv']
     exact (eval_rep k6 o).evolve g3'
    ·rintro w5 γ5 σ5 s5 ev5 ⟨dd, hdd, hle'⟩ v
     show LeavesInM _ _ _ _ _ _ [] (settle u') w5
     rw [hset]
     show ∃ v, _
     obtain ⟨v', y1, y2⟩ := resD_spec (E := (⟨m, γ2, w2, max w2.heap.size P.n, Nat.le_refl _, []⟩ : Ent P)) (st := ⟨st.F, σ5⟩) s5 (a := a') (fun t => (g6' t).evolve ev5) hdd
     have evAll : Evolve (Mall (P.base m) γ) γ w (Mall (P.base m) γ5) γ5 w5 := (k3.trans g3').trans ev5
     obtain ⟨γ6, m1, m2, m3⟩ := Store.forget s5 evAll (l := []) (by simp) (by simp) (fun b g' hg => by
      have := k1 b g' hg
      rcases hst.names b with ⟨blk, g'', y1, _⟩ | ⟨_, y1⟩
      ·cases y1
      ·rw [hg] at y1; cases y1)
     exact ⟨v', y1, v', γ6, rfl, m1, m2, m3 _ _ (hle' _ _ _ _ y2) (hcl.mono fun _ h => h.elim)⟩) (by omega) Ds a'.defers w' z1 z2 z3 r2 r3 r6
 rcases hd.how with ⟨he, rfl⟩ | ⟨rfl, rfl⟩
 ·rcases he with rfl | rfl <;> exact key
 ·exact key
section
variable {P : Prg} {f g : Nat → Nat} {m : Nat → Nat → Prop}
theorem CallT.rename (h : ∀ n, g (f n) = n) {k : FuncId} {args : List D} {ins outs : List (Nat × Blk)} {val : D} {x0 : Option Value} (hc : CallT P x0 k args ins val outs) : CallT P x0 k (args.map (renD f)) (renS f ins) (renD f val) (renS f outs) := by
 refine ⟨hc.1, fun M γ' w vs hst hl hr => ?_⟩
 have hb := fun {c x} (q : γ' c = some x) => back_of h hst q
 refine (hc.2 M (fun b => γ' (f b)) w vs (hst.back h) (by simpa using hl) (fun i d v hd hv => ?_)).mono ?_
 ·have := ((hr i (renD f d) v (by rw [List.getElem?_map, hd]; rfl) hv).ren (γ' := fun b => γ' (f b)) (f := g) (fun c y hy => by show γ' (f (g c)) = some y; rw [hb hy]; exact hy)).same (fun B off => mall_back h hst B off)
  rw [renD_back h] at this
  exact this
 ·rintro e w' ⟨v, γ₂, rfl, q1, q2, q3⟩
  refine ⟨v, fwd f g γ₂, rfl, q1.forth h, ?_, ?_⟩
  ·refine ⟨q2.os, q2.tape, q2.output, q2.size, fun B off u hm hu => q2.cell B off u (fun q => hm ((mall_back h hst B off).1 q)) hu, fun B off hm hlt => (mall_back h hst B off).1 (q2.wr B off ((mall_fwd h γ₂ B off).1 hm) hlt), fun c x hx => ?_, fun B hB hn => q2.block B hB (fun b x hx => hn (f b) x hx), fun c x B hx hB hlt => ?_⟩
   ·obtain ⟨x', r1, r2⟩ := q2.names (g c) x (by show γ' (f (g c)) = some x; rw [hb hx]; exact hx)
    exact ⟨x', by rw [← hb hx, fwd_at h]; exact r1, r2⟩
   ·obtain ⟨b', x', r1, r2⟩ := q2.old (g c) x B (fwd_inv hx).2 hB hlt
    exact ⟨f b', x', r1, r2⟩
  ·exact (q3.ren (γ' := fwd f g γ₂) (f := f) (fun b y hy => (fwd_at h γ₂ b).trans hy)).same (fun B off => mall_fwd h γ₂ B off)
end
end Go.Id
namespace Go.Id
open Go
def Fixd : Blk → Prop
 | .box .. | .arr .. | .map .. => True
 | _ => False
theorem ent_fixed {P : Prg} {E : Ent P} {ent : List Nat} {σ : Nat → Option Blk} {γ : Nat → Option G} {w : World} {t : Nat} (h1 : ∀ b g, E.γ b = some g → b ∈ ent) (h2 : Store E.M γ σ w) (h3 : Evolve (Mall E.M E.γ) E.γ E.w (Mall E.M γ) γ w)
  (hent : ∀ b ∈ ent, b ≠ t ∧ ∃ blk, σ b = some blk ∧ Fixd blk) : ∀ b g, E.γ b = some g → b ≠ t ∧ γ b = some g := by
 intro b g hg
 obtain ⟨hne, blk, hb, hf⟩ := hent b (h1 b g hg)
 obtain ⟨g', hg', hle⟩ := h3.names b g hg
 refine ⟨hne, ?_⟩
 cases g with
 | tip sz e v n =>
  obtain ⟨v', n', rfl, _⟩ := hle
  obtain ⟨g2, q1, q2⟩ := h2.hit hb
  rw [hg'] at q1; cases q1
  cases q2 <;> exact hf.elim
 | _ => rw [hg']; exact congrArg some hle
theorem Weak.tipArrE {ent : List Nat} {st : St} (t : Nat) (e : TypeId) (sz : Nat) (es : List (List D)) (k0 : Nat) {F' : List (Nat × D)} {σ' : List (Nat × Blk)} (hk : st.get k0 = .slice sz false es (some t)) (hb : lk st.σ t = some (.tip e sz es.length)) (hes : ∀ x ∈ es, ∀ d ∈ x, Fr t d)
  (hσt : lk σ' t = some (.arr e es.flatten)) (hσ : ∀ b, b ≠ t → lk σ' b = lk st.σ b) (hσc : ∀ p ∈ st.σ, p.1 ≠ t → BFr t p.2) (hF : ∀ p ∈ F', (p.1 = k0 ∧ p.2 = .arr t sz es.length) ∨ (st.get p.1 = p.2 ∧ Fr t p.2)) (hent : ∀ b ∈ ent, b ≠ t ∧ ∃ blk, lk st.σ b = some blk ∧ Fixd blk) : Weak ent st ⟨F', σ'⟩ := by
 rintro P E N a w ⟨γ, h1, h2, h3, h4, h5, h6⟩
 have hE := ent_fixed h1 h2 h3 hent
 obtain ⟨g, q1, q2⟩ := h2.hit hb
 have hsl := h6 k0
 rw [hk] at hsl
 generalize hv0 : a.tmps.getD k0 undef = v0 at hsl
 rcases rep_slice_cells hsl with ⟨_, _, hn⟩ | ⟨ad, cap, vs, rfl, _, hspot, hvs, hcap, hsz, hcell, hr, htip⟩
 ·cases hn
 cases q2 with
 | @tip _ _ _ v xs ho =>
  obtain ⟨_, _, v', n', p1, p2, p3⟩ := htip t rfl
  rw [q1] at p1
  simp only [Option.some.injEq, G.tip.injEq] at p1
  obtain ⟨rfl, rfl, rfl, rfl⟩ := p1
  have hv := p3 rfl
  rcases ho.2 with ⟨h0, _⟩ | ⟨B, cap', cur, hvB, _, hB, hnc, hcm, hcs, htake⟩
  ·rw [h0] at hv; cases hv
  rw [hvB] at hv
  simp only [Value.slice.injEq, Option.some.injEq, true_and] at hv
  obtain ⟨rfl, rfl⟩ := hv
  let g' : G := .arr B cap sz
  have hnew : ¬ B < E.w.heap.size := fun hlt => by
   obtain ⟨b', g0, r1, r2⟩ := h3.old t _ B q1 (by rw [hvB]; rfl) hlt
   obtain ⟨hne, hg⟩ := hE b' g0 r1
   exact hne (h2.dist b' t g0 _ B hg q1 r2 (by rw [hvB]; rfl))
  have hgB : (G.tip sz e v es.length).block = some B := by rw [hvB]; rfl
  have hother : ∀ i, i ≠ t → upd γ t (some g') i = γ i := fun i hi => upd_other _ _ hi
  have hback : ∀ i gi, upd γ t (some g') i = some gi → ∃ g0, γ i = some g0 ∧ g0.block = gi.block := by
   intro i gi hg
   by_cases hi : i = t
   ·subst hi; rw [upd_same] at hg; cases hg; exact ⟨_, q1, hgB⟩
   ·rw [hother i hi] at hg; exact ⟨gi, hg, rfl⟩
  have hflen := flat_len es hsz
  have hMB : ∀ off, ¬ E.M.M B off := fun off hm => h2.apart t _ B off q1 hgB hm
  refine ⟨upd γ t (some g'), h1, ⟨fun i => ?_, fun i i' gi gi' B' a1 a2 a3 a4 => ?_, h2.outer, fun i gi B' off a1 a2 => ?_, h2.inv, fun i gi B' a1 a2 => ?_, h2.big⟩, ?_, h4, h5.back (fun b g B q1 q2 => by obtain ⟨g0, r1, r2⟩ := hback _ _ q1; exact ⟨b, g0, r1, r2.trans q2⟩), fun k => ?_⟩
  ·by_cases hi : i = t
   ·subst hi
    refine .inl ⟨.arr e es.flatten, g', hσt, upd_same _ _ _, ?_⟩
    refine .arr cur e (0, 0) hB (by rw [hflen, hcs]; exact Nat.mul_le_mul_right _ hcap) (fun j u hj hu => ⟨?_, by simp [World.frozen?, hB]⟩) (fun j d u hd hu => ?_) ⟨rfl, hcs, hcm⟩
    ·have hjv : j < vs.length := by omega
     have := hcell j _ (List.getElem?_eq_getElem hjv)
     simp only [Nat.zero_add] at this
     have hc := this.1
     rw [cell_of_row w B j cur e _ hB, hu] at hc
     have : u = vs[j] := by simpa using hc
     rw [this]; exact (hcell j _ (List.getElem?_eq_getElem hjv)).2.2
    ·obtain ⟨x, r1, r2⟩ := flat_at es hsz j d hd
     have hjv : j < vs.length := by have := (List.getElem?_eq_some_iff.1 hd).1; omega
     have := hcell j _ (List.getElem?_eq_getElem hjv)
     simp only [Nat.zero_add] at this
     have hc := this.1
     rw [cell_of_row w B j cur e _ hB, hu] at hc
     have hu' : u = vs[j] := by simpa using hc
     have h7 := hr (j / sz) (j % sz) x d vs[j] r1 r2 (by rw [Nat.div_add_mod']; exact List.getElem?_eq_getElem hjv)
     rw [hu']
     exact (hes x (List.mem_of_getElem? r1) d (List.mem_of_getElem? r2)).rep hother h7
   ·show (∃ blk g, lk σ' i = some blk ∧ _) ∨ (lk σ' i = none ∧ _)
    rw [hσ i hi, hother i hi]
    rcases h2.names i with ⟨blk, gi, a1, a2, a3⟩ | ⟨a1, a2⟩
    ·exact .inl ⟨blk, gi, a1, a2, (hσc _ (lk_mem _ _ _ a1) hi).rel hother a3⟩
    ·exact .inr ⟨a1, a2⟩
  ·obtain ⟨g1, b1, b2⟩ := hback _ _ a1
   obtain ⟨g2, b3, b4⟩ := hback _ _ a2
   exact h2.dist i i' g1 g2 B' b1 b3 (b2.trans a3) (b4.trans a4)
  ·obtain ⟨g1, b1, b2⟩ := hback _ _ a1
   exact h2.apart i g1 B' off b1 (b2.trans a2)
  ·obtain ⟨g1, b1, b2⟩ := hback _ _ a1
   exact h2.low i g1 B' b1 (b2.trans a2)
  ·refine ⟨h3.os, h3.tape, h3.output, h3.size, h3.cell, fun B' off hm hlt => ?_, fun b g0 hg => ⟨g0, by rw [hother b (hE b g0 hg).1]; exact (hE b g0 hg).2, G.le_refl g0⟩, fun B' hlt hno => h3.block B' hlt hno, fun b g0 B' hg hgB' hlt => ?_⟩
   ·rcases hm with hm | ⟨i, gi, hg, hw⟩
    ·exact h3.wr B' off (.inl hm) hlt
    ·by_cases hi : i = t
     ·subst hi; rw [upd_same] at hg; cases hg
      have : B' = B := hw
      subst this
      exact absurd hlt hnew
     ·rw [hother i hi] at hg; exact h3.wr B' off (.inr ⟨i, gi, hg, hw⟩) hlt
   ·obtain ⟨g1, b1, b2⟩ := hback _ _ hg
    exact h3.old b g1 B' b1 (b2.trans hgB') hlt
  ·have h0 := h6 k
   show Rep _ _ _ ((lk F' k).getD .junk) _
   cases hl : lk F' k with
   | none => exact .junk _
   | some d =>
    rcases hF _ (lk_mem _ _ _ hl) with ⟨rfl, rfl⟩ | ⟨r1, r2⟩
    ·rw [hv0]
     exact .arr (upd_same _ _ _) hcap
    ·dsimp only at r1 r2
     rw [r1] at h0
     exact r2.rep hother h0
end Go.Id
namespace Go.Id
open Go
def withV (es : List (List UInt8 × D × Nat)) (vs : List Value) : List (List UInt8 × D × Nat) := (es.zip vs).map fun p => (p.1.1, .val p.2, p.1.2.2)
theorem withV_len {es : List (List UInt8 × D × Nat)} {vs : List Value} (h : vs.length = es.length) : (withV es vs).length = es.length := by simp [withV, h]
theorem withV_at {es : List (List UInt8 × D × Nat)} {vs : List Value} {j : Nat} {k : List UInt8} {d : D} {n : Nat} {v : Value} (h1 : es[j]? = some (k, d, n)) (h2 : vs[j]? = some v) : (withV es vs)[j]? = some (k, .val v, n) := by
 unfold withV
 rw [List.getElem?_map, (List.getElem?_zip_eq_some (z := ((k, d, n), v))).2 ⟨h1, h2⟩]
 rfl
theorem withV_of {es : List (List UInt8 × D × Nat)} {vs : List Value} {j : Nat} {k : List UInt8} {d : D} {n : Nat} (h : (withV es vs)[j]? = some (k, d, n)) : ∃ d0 v, es[j]? = some (k, d0, n) ∧ vs[j]? = some v ∧ d = .val v := by
 unfold withV at h
 rw [List.getElem?_map, Option.map_eq_some_iff] at h
 obtain ⟨⟨⟨k0, d0, n0⟩, v⟩, h1, h2⟩ := h
 rw [List.getElem?_zip_eq_some] at h1
 simp only [Prod.mk.injEq] at h2
 obtain ⟨rfl, rfl, rfl⟩ := h2
 exact ⟨d0, v, h1.1, h1.2, rfl⟩
theorem CallE.mapVals {P : Prg} {k : FuncId} {args : List D} {val : D} {b : Nat} {es : List (List UInt8 × D × Nat)} {c : Nat} {rest : List (Nat × Blk)}
  (h : ∀ vs : List Value, vs.length = es.length → CallE P k args ((b, .map (withV es vs) c) :: rest) val ((b, .map (withV es vs) c) :: rest)) : CallE P k args ((b, .map es c) :: rest) val ((b, .map es c) :: rest) := by
 refine ⟨(h (List.replicate es.length undef) (by simp)).1, fun M γ w as hst hl hr => ?_⟩
 have hlk : ∀ (x : Blk) (i : Nat), lk ((b, x) :: rest) i = if b = i then some x else lk rest i := fun x i => by simp only [lk]; by_cases h : b = i <;> simp [h, eq_comm]
 obtain ⟨g, q1, q2⟩ := hst.hit (b := b) (show lk ((b, .map es c) :: rest) b = some (.map es c) by rw [hlk, if_pos rfl])
 cases q2 with
 | @map _ _ B en hB hlen hk =>
  have hvl : (en.toList.map (·.val)).length = es.length := by simpa using hlen
  have hst' : Store (P.base M) γ (lk ((b, .map (withV es (en.toList.map (·.val))) c) :: rest)) w := by
   refine ⟨fun i => ?_, hst.dist, hst.outer, hst.apart, hst.inv, hst.low, hst.big⟩
   by_cases hi : b = i
   ·subst hi
    refine .inl ⟨_, _, by rw [hlk, if_pos rfl], q1, .map en hB (by rw [withV_len hvl]; exact hlen) fun j e k d n he hd => ?_⟩
    obtain ⟨d0, v, h1, h2, rfl⟩ := withV_of hd
    obtain ⟨r1, r2, r3⟩ := hk j e k d0 n he h1
    rw [List.getElem?_map, Array.getElem?_toList, he] at h2
    simp only [Option.map_some, Option.some.injEq] at h2
    subst h2
    exact ⟨r1, r2, .val _⟩
   ·have := hst.names i
    rw [hlk, if_neg hi] at this
    rw [hlk, if_neg hi]
    exact this
  refine ((h _ hvl).2 M γ w as hst' hl hr).mono ?_
  rintro e w' ⟨v, γ', rfl, s1, ev, rv⟩
  refine ⟨v, γ', rfl, ⟨fun i => ?_, s1.dist, s1.outer, s1.apart, s1.inv, s1.low, s1.big⟩, ev, rv⟩
  by_cases hi : b = i
  ·subst hi
   obtain ⟨g', r1, r2⟩ := s1.hit (b := b) (show lk ((b, .map (withV es (en.toList.map (·.val))) c) :: rest) b = some _ by rw [hlk, if_pos rfl])
   refine .inl ⟨_, g', by rw [hlk, if_pos rfl], r1, ?_⟩
   cases r2 with
   | @map _ _ B' en' hB' hlen' hk' =>
    rw [withV_len hvl] at hlen'
    refine .map en' hB' hlen' fun j e k d n he hd => ?_
    have hj : j < en.size := by rw [hlen]; exact (List.getElem?_eq_some_iff.1 hd).1
    have hv : (en.toList.map (·.val))[j]? = some (en[j].val) := by
     rw [List.getElem?_map, Array.getElem?_toList, Array.getElem?_eq_getElem hj]; rfl
    obtain ⟨a1, a2, a3⟩ := hk' j e k _ n he (withV_at hd hv)
    obtain ⟨_, _, b3⟩ := hk j en[j] k d n (Array.getElem?_eq_getElem hj) hd
    have hval : e.val = en[j].val := by
     generalize e.val = u at a3
     cases a3; rfl
    rw [hval]
    exact ⟨a1, a2, b3.evolve ev⟩
  ·have := s1.names i
   rw [hlk, if_neg hi] at this
   rw [hlk, if_neg hi]
   exact this
end Go.Id
namespace Go.Id
open Go
inductive Kd where
 | s | i | l | b
 deriving DecidableEq
def kdD : D → Option Kd
 | .str _ => some .s
 | .int _ _ => some .i
 | .slice _ _ _ _ => some .l
 | .bool _ => some .b
 | _ => none
def kdV : Value → Option Kd
 | .string _ => some .s
 | .int _ _ => some .i
 | .slice _ _ _ => some .l
 | .bool _ => some .b
 | _ => none
theorem kd_rep {M : Nat → Nat → Prop} {γ : Nat → Option G} {w : World} {d : D} {v : Value} (h : Rep M γ w d v) {k : Kd} (hk : kdD d = some k) : kdV v = some k := by
 cases h <;> simp_all [kdD, kdV]
def clash (pat : List Kd) (row : List (Option Kd)) : Bool :=
 (List.range pat.length).all fun φ => (List.range row.length).any fun j => match row[j]?, pat[(φ + j) % pat.length]? with
  | some (some k), some k' => decide (k ≠ k')
  | _, _ => false
theorem clash_at {pat : List Kd} {row : List (Option Kd)} (h : clash pat row = true) {o : Nat} (h0 : 0 < pat.length) : ∃ j k k', row[j]? = some (some k) ∧ pat[(o + j) % pat.length]? = some k' ∧ k ≠ k' := by
 unfold clash at h
 rw [List.all_eq_true] at h
 have h1 := h (o % pat.length) (List.mem_range.2 (Nat.mod_lt _ h0))
 rw [List.any_eq_true] at h1
 obtain ⟨j, _, hj⟩ := h1
 rw [Nat.mod_add_mod] at hj
 split at hj
 ·rename_i k k' e1 e2
  exact ⟨j, k, k', e1, e2, by simpa using hj⟩
 ·cases hj
inductive ShG (t : Nat) (pat : List Kd) : D → Prop
 | junk : ShG t pat .junk
 | bool (b : Bool) : ShG t pat (.bool b)
 | int (k : IntKind) (n : Int) : ShG t pat (.int k n)
 | str (s : List UInt8) : ShG t pat (.str s)
 | slice {sz : Nat} {nil : Bool} {es : List (List D)} {tip : Option Nat} (h : ∀ e ∈ es, ∀ d ∈ e, ShG t pat d) (h0 : ∀ e, es[0]? = some e → clash pat (e.map kdD) = true) (ht : tip ≠ some t) : ShG t pat (.slice sz nil es tip)
 | arr {b sz n : Nat} (h : b ≠ t) : ShG t pat (.arr b sz n)
 | view {b off sz n : Nat} (h : b ≠ t) : ShG t pat (.view b off sz n)
 | ref {b off : Nat} (h : b ≠ t) : ShG t pat (.ref b off)
 | nilptr : ShG t pat .nilptr
 | fn {f : Fn} {a b : List D} (h : ∀ d ∈ a, ShG t pat d) (h' : ∀ d ∈ b, ShG t pat d) : ShG t pat (.fn f a b)
 | nilfn : ShG t pat .nilfn
 | agg {cs : List D} (h : ∀ d ∈ cs, ShG t pat d) : ShG t pat (.agg cs)
 | tup {cs : List D} (h : ∀ d ∈ cs, ShG t pat d) : ShG t pat (.tup cs)
 | niliface : ShG t pat .niliface
 | val (v : Value) : ShG t pat (.val v)
 | nilmap : ShG t pat .nilmap
 | map {b : Nat} (h : b ≠ t) : ShG t pat (.map b)
section
variable {t : Nat} {pat : List Kd}
theorem ShG.rep {M M' : Nat → Nat → Prop} {γ γ' : Nat → Option G} {w : World} {B : Nat} (hγ : ∀ i, i ≠ t → γ' i = γ i) (hM : ∀ B' off, M' B' off → M B' off ∨ B' = B) (hp : 0 < pat.length) (hB : ∀ off u, w.cell? ⟨B, off, none⟩ = some u → ¬ M B off → ∃ k, pat[off % pat.length]? = some k ∧ kdV u = some k) {d : D} (hd : ShG t pat d) {v : Value} (h : Rep M γ w d v) : Rep M' γ' w d v := by
 induction h with
 | junk v => exact .junk v
 | bool b => exact .bool b
 | int k n => exact .int k n
 | str s => exact .str s
 | @nilslice sz tip ht =>
  cases hd with
  | slice h h0 hn =>
   refine .nilslice fun t' e => ?_
   have : t' ≠ t := fun q => hn (by rw [e, q])
   rw [hγ _ this]; exact ht t' e
 | @slice sz es tip a cap vs hsz hvs hspot hc hr hcap ht ih =>
  cases hd with
  | slice h h0 hn =>
   have hne : ∀ (j : Nat) (v : Value), vs[j]? = some v → a.block ≠ B := by
    intro j v hj e
    have hj' := (List.getElem?_eq_some_iff.1 hj).1
    cases es with
    | nil => have h00 : vs.length = 0 := by rw [hvs]; simp
             omega
    | cons x es =>
     obtain ⟨j0, k, k', e1, e2, e3⟩ := clash_at (h0 x rfl) (o := a.off) hp
     rw [List.getElem?_map] at e1
     obtain ⟨d0, e4, e5⟩ := Option.map_eq_some_iff.1 e1
     have hl := hsz x (by simp)
     have hx0 : j0 < x.length := (List.getElem?_eq_some_iff.1 e4).1
     have h0' : j0 < vs.length := by
      have : sz ≤ vs.length := by rw [hvs, List.length_cons, Nat.add_mul]; omega
      omega
     have hv0 := List.getElem?_eq_getElem h0'
     have hr0 := hr 0 j0 x d0 vs[j0] rfl e4 (by simpa using hv0)
     obtain ⟨q1, q2, _⟩ := hc j0 _ hv0
     rw [e] at q1 q2
     obtain ⟨k2, e6, e7⟩ := hB _ _ q1 q2
     rw [e2] at e6; cases e6
     rw [kd_rep hr0 e5] at e7; cases e7
     exact e3 rfl
   refine .slice vs hsz hvs hspot (fun j v hj => ?_) (fun i j e d v q1 q2 q3 => ih i j e d v q1 q2 q3 (h e (List.mem_of_getElem? q1) d (List.mem_of_getElem? q2))) hcap (fun t' e => ?_)
   ·obtain ⟨q1, q2, q3⟩ := hc j v hj
    exact ⟨q1, fun q => (hM _ _ q).elim q2 (hne j v hj), q3⟩
   ·have : t' ≠ t := fun q => hn (by rw [e, q])
    rw [hγ _ this]; exact ht t' e
 | arr hb hn => cases hd with | arr h => exact .arr ((hγ _ h).trans hb) hn
 | view hb ha hn => cases hd with | view h => exact .view ((hγ _ h).trans hb) ha hn
 | ref hb =>
  cases hd with
  | ref h =>
   refine .ref ?_
   rw [hγ _ h]
   exact hb
 | iptr => cases hd
 | nilptr => exact .nilptr
 | fn hf hk _ _ ih1 ih2 =>
  cases hd with
  | fn h h' => exact .fn hf hk (fun i d v a b => ih1 i d v a b (h d (List.mem_of_getElem? a))) (fun i d v a b => ih2 i d v a b (h' d (List.mem_of_getElem? a)))
 | nilfn => exact .nilfn
 | agg hl h1 _ ih => cases hd with | agg h => exact .agg hl h1 (fun i d v a b => ih i d v a b (h d (List.mem_of_getElem? a)))
 | tup hl _ ih => cases hd with | tup h => exact .tup hl (fun i d v a b => ih i d v a b (h d (List.mem_of_getElem? a)))
 | iface _ ih => cases hd
 | niliface => exact .niliface
 | val v => exact .val v
 | nilmap => exact .nilmap
 | map hb => cases hd with | map h => exact .map ((hγ _ h).trans hb)
end
def TgD (t : Nat) (pat : List Kd) (sz : Nat) (es : List (List D)) (d d' : D) : Prop := (d' = d ∧ ShG t pat d) ∨ (d = .slice sz false es (some t) ∧ d' = .arr t sz es.length)
def TgL (t : Nat) (pat : List Kd) (sz : Nat) (es : List (List D)) : List D → List D → Prop
 | [], [] => True
 | d :: l, d' :: l' => TgD t pat sz es d d' ∧ TgL t pat sz es l l'
 | _, _ => False
def BShG (t : Nat) (pat : List Kd) : Blk → Prop
 | .box _ cs | .arr _ cs => ∀ d ∈ cs, ShG t pat d
 | .map es _ => ∀ e ∈ es, ShG t pat e.2.1
 | .miter m _ _ _ => m ≠ t
 | _ => True
def TgB (t : Nat) (pat : List Kd) (sz : Nat) (es : List (List D)) : Blk → Blk → Prop
 | .box T cs, .box T' cs' => T' = T ∧ TgL t pat sz es cs cs'
 | b, b' => b' = b ∧ BShG t pat b
theorem TgL.at {t : Nat} {pat : List Kd} {sz : Nat} {es : List (List D)} : ∀ {l l' : List D}, TgL t pat sz es l l' → l'.length = l.length ∧ ∀ (i : Nat) d', l'[i]? = some d' → ∃ d, l[i]? = some d ∧ TgD t pat sz es d d'
 | [], [], _ => ⟨rfl, fun i d h => by simp at h⟩
 | d :: l, d' :: l', h => by
  obtain ⟨h1, h2⟩ := TgL.at h.2
  refine ⟨by simp [h1], fun i x hx => ?_⟩
  cases i with
  | zero => simp at hx; subst hx; exact ⟨d, rfl, h.1⟩
  | succ i => simp at hx; simpa using h2 i x hx
 | [], _ :: _, h => h.elim
 | _ :: _, [], h => h.elim
theorem BShG.rel {t : Nat} {pat : List Kd} {M M' : Nat → Nat → Prop} {γ γ' : Nat → Option G} {w : World} {B : Nat} (hγ : ∀ i, i ≠ t → γ' i = γ i) (hM : ∀ B' off, M' B' off → M B' off ∨ B' = B) (hp : 0 < pat.length) (hB : ∀ off u, w.cell? ⟨B, off, none⟩ = some u → ¬ M B off → ∃ k, pat[off % pat.length]? = some k ∧ kdV u = some k) {blk : Blk} {g : G} (hb : BShG t pat blk) (h : BlkRel M γ w blk g) : BlkRel M' γ' w blk g := by
 cases h with
 | box vs e fz hB' hl h1 hr => exact .box vs e fz hB' hl h1 (fun i d v hd hv => (hb d (List.mem_of_getElem? hd)).rep hγ hM hp hB (hr i d v hd hv))
 | arr vs e fz hB' hl h1 hr hf => exact .arr vs e fz hB' hl h1 (fun i d v hd hv => (hb d (List.mem_of_getElem? hd)).rep hγ hM hp hB (hr i d v hd hv)) hf
 | iter hB' => exact .iter hB'
 | map en hB' hl hk => exact .map en hB' hl (fun i e k d n q1 q2 => let ⟨r1, r2, r3⟩ := hk i e k d n q1 q2; ⟨r1, r2, (hb _ (List.mem_of_getElem? q2)).rep hγ hM hp hB r3⟩)
 | miter hB' hm => exact .miter hB' ((hγ _ hb).trans hm)
 | dead hB' => exact .dead hB'
 | tip xs ho => exact .tip xs ho
theorem Weak.tipArrG {st st' : St} (t : Nat) (pat : List Kd) (e : TypeId) (sz : Nat) (es : List (List D)) (b0 : Nat) (T0 : TypeId) (cs0 : List D) (i0 : Nat) (hk : lk st.σ b0 = some (.box T0 cs0)) (hi : cs0[i0]? = some (.slice sz false es (some t))) (hb : lk st.σ t = some (.tip e sz es.length)) (hpz : 0 < pat.length) (hps : pat.length = sz) (hes : ∀ x ∈ es, x.map kdD = pat.map some ∧ ∀ d ∈ x, ShG t pat d)
  (hF : ∀ p ∈ st'.F, st.get p.1 = p.2 ∧ ShG t pat p.2) (hσt : lk st'.σ t = some (.arr e es.flatten)) (hσ : ∀ b, b ≠ t → (lk st.σ b = none ∧ lk st'.σ b = none) ∨ ∃ x x', lk st.σ b = some x ∧ lk st'.σ b = some x' ∧ TgB t pat sz es x x') : Weak [] st st' := by
 rintro P E N a w ⟨γ, h1, h2, h3, h4, h5, h6⟩
 have hent : ∀ b, E.γ b = none := fun b => by
  cases h : E.γ b with
  | none => rfl
  | some g => exact absurd (h1 b g h) (by simp)
 obtain ⟨g, q1, q2⟩ := h2.hit hb
 obtain ⟨g0, qb1, qb2⟩ := h2.hit hk
 have hsl : ∃ u, Rep (Mall E.M γ) γ w (.slice sz false es (some t)) u := by
  cases qb2 with
  | box vs T fz hB hl hh hr =>
   have hlt : i0 < vs.size := by rw [hl]; exact (List.getElem?_eq_some_iff.1 hi).1
   exact ⟨_, hr i0 _ _ hi (Array.getElem?_eq_getElem hlt)⟩
 obtain ⟨v0, hsl⟩ := hsl
 rcases rep_slice_cells hsl with ⟨_, _, hn⟩ | ⟨ad, cap, vs, rfl, _, hspot, hvs, hcap, hsz, hcell, hr, htip⟩
 ·cases hn
 cases q2 with
 | @tip _ _ _ v xs ho =>
  obtain ⟨_, _, v', n', p1, p2, p3⟩ := htip t rfl
  rw [q1] at p1
  simp only [Option.some.injEq, G.tip.injEq] at p1
  obtain ⟨rfl, rfl, rfl, rfl⟩ := p1
  have hv := p3 rfl
  rcases ho.2 with ⟨h0, _⟩ | ⟨B, cap', cur, hvB, _, hB, hnc, hcm, hcs, htake⟩
  ·rw [h0] at hv; cases hv
  have hadr : ad = ⟨B, 0, none⟩ ∧ cap = cap' := by
   rw [hvB] at hv
   simp only [Value.slice.injEq, Option.some.injEq, true_and] at hv
   exact hv
  obtain ⟨rfl, rfl⟩ := hadr
  let g' : G := .arr B cap sz
  have hnew : ¬ B < E.w.heap.size := fun hlt => by
   obtain ⟨b', g0, r1, _⟩ := h3.old t _ B q1 (by rw [hvB]; rfl) hlt
   rw [hent] at r1; cases r1
  have hgB : (G.tip sz e v es.length).block = some B := by rw [hvB]; rfl
  have hother : ∀ i, i ≠ t → upd γ t (some g') i = γ i := fun i hi => upd_other _ _ hi
  have hback : ∀ i gi, upd γ t (some g') i = some gi → ∃ g0, γ i = some g0 ∧ g0.block = gi.block := by
   intro i gi hg
   by_cases hi : i = t
   ·subst hi; rw [upd_same] at hg; cases hg; exact ⟨_, q1, hgB⟩
   ·rw [hother i hi] at hg; exact ⟨gi, hg, rfl⟩
  have hflen := flat_len es hsz
  have hMB : ∀ off, ¬ E.M.M B off := fun off hm => h2.apart t _ B off q1 hgB hm
  have hM' : ∀ B' off, Mall E.M (upd γ t (some g')) B' off → Mall E.M γ B' off ∨ B' = B := by
   rintro B' off (hm | ⟨i, gi, hg, hw⟩)
   ·exact .inl (.inl hm)
   ·by_cases hi : i = t
    ·subst hi; rw [upd_same] at hg; cases hg; exact .inr hw
    ·rw [hother i hi] at hg; exact .inl (.inr ⟨i, gi, hg, hw⟩)
  have hat : ∀ j u, j < es.length * sz → cur[j]? = some u → ∃ d x, es.flatten[j]? = some d ∧ x ∈ es ∧ x[j % sz]? = some d ∧ Rep (Mall E.M γ) γ w d u ∧ u.oneCell' = true := by
   intro j u hj hu
   have hjv : j < vs.length := by omega
   have hc := hcell j _ (List.getElem?_eq_getElem hjv)
   simp only [Nat.zero_add] at hc
   have hc1 := hc.1
   rw [cell_of_row w B j cur e _ hB, hu] at hc1
   have hu' : u = vs[j] := by simpa using hc1
   have hjf : j < es.flatten.length := by omega
   obtain ⟨x, r1, r2⟩ := flat_at es hsz j _ (List.getElem?_eq_getElem hjf)
   refine ⟨es.flatten[j], x, List.getElem?_eq_getElem hjf, List.mem_of_getElem? r1, r2, ?_, by rw [hu']; exact hc.2.2⟩
   rw [hu']
   exact hr (j / sz) (j % sz) x _ vs[j] r1 r2 (by rw [Nat.div_add_mod']; exact List.getElem?_eq_getElem hjv)
  have hBs : ∀ off u, w.cell? ⟨B, off, none⟩ = some u → ¬ Mall E.M γ B off → ∃ k, pat[off % pat.length]? = some k ∧ kdV u = some k := by
   intro off s hs hnm
   rw [cell_of_row w B off cur e _ hB] at hs
   by_cases ho : off < es.length * sz
   ·obtain ⟨d, x, _, hx, hd, hrd, _⟩ := hat off _ ho hs
    have hk := (hes x hx).1
    have hj : (x.map kdD)[off % sz]? = some (kdD d) := by rw [List.getElem?_map, hd]; rfl
    rw [hk, List.getElem?_map] at hj
    obtain ⟨k, e1, e2⟩ := Option.map_eq_some_iff.1 hj
    rw [hps]
    exact ⟨k, e1, kd_rep hrd e2.symm⟩
   ·exact (hnm (.inr ⟨t, _, q1, by rw [hvB]; exact ⟨rfl, by omega⟩⟩)).elim
  refine ⟨upd γ t (some g'), fun b g0 hg => (by rw [hent] at hg; cases hg), ⟨fun i => ?_, fun i i' gi gi' B' a1 a2 a3 a4 => ?_, h2.outer, fun i gi B' off a1 a2 => ?_, h2.inv, fun i gi B' a1 a2 => ?_, h2.big⟩, ?_, h4, h5.back (fun b g B q1 q2 => by obtain ⟨g0, r1, r2⟩ := hback _ _ q1; exact ⟨b, g0, r1, r2.trans q2⟩), fun k => ?_⟩
  ·by_cases hit : i = t
   ·subst hit
    refine .inl ⟨.arr e es.flatten, g', hσt, upd_same _ _ _, ?_⟩
    refine .arr cur e (0, 0) hB (by rw [hflen, hcs]; exact Nat.mul_le_mul_right _ hcap) (fun j u hj hu => ⟨?_, by simp [World.frozen?, hB]⟩) (fun j d u hd hu => ?_) ⟨rfl, hcs, hcm⟩
    ·obtain ⟨_, _, _, _, _, _, h7⟩ := hat j u (by omega) hu
     exact h7
    ·have hjl := (List.getElem?_eq_some_iff.1 hd).1
     obtain ⟨d', x, hd', hx, hdx, h7, _⟩ := hat j u (by omega) hu
     rw [hd] at hd'; cases hd'
     exact ((hes x hx).2 d (List.mem_of_getElem? hdx)).rep hother hM' hpz hBs h7
   ·show (∃ blk g, lk st'.σ i = some blk ∧ _) ∨ (lk st'.σ i = none ∧ _)
    rw [hother i hit]
    rcases hσ i hit with ⟨a1, a2⟩ | ⟨x, x', a1, a2, a3⟩
    ·exact .inr ⟨a2, h2.miss a1⟩
    ·obtain ⟨gi, c1, c2⟩ := h2.hit a1
     refine .inl ⟨x', gi, a2, c1, ?_⟩
     have gen : x' = x ∧ BShG t pat x → BlkRel (Mall E.M (upd γ t (some g'))) (upd γ t (some g')) w x' gi := by
      rintro ⟨rfl, h⟩; exact h.rel hother hM' hpz hBs c2
     cases x with
     | box T cs =>
      cases x' with
      | box T' cs' =>
       obtain ⟨rfl, hu⟩ := a3
       obtain ⟨hlen, hat'⟩ := hu.at
       cases c2 with
       | box ws _ fz hB' hl' hh' hr' =>
        refine .box ws _ fz hB' (by omega) hh' (fun j x v hx hv => ?_)
        obtain ⟨d0, s1, s2⟩ := hat' j x hx
        have hrep := hr' j d0 v s1 hv
        rcases s2 with ⟨rfl, hs⟩ | ⟨rfl, rfl⟩
        ·exact hs.rep hother hM' hpz hBs hrep
        ·rcases rep_slice_cells hrep with ⟨_, _, hn⟩ | ⟨ad2, cap2, vs2, rfl, _, _, _, hcap2, _, _, _, htip2⟩
         ·cases hn
         ·obtain ⟨_, _, v2, n2, p1, p2, p3⟩ := htip2 t rfl
          rw [q1] at p1
          simp only [Option.some.injEq, G.tip.injEq] at p1
          obtain ⟨_, _, rfl, rfl⟩ := p1
          have hv2 := p3 rfl
          rw [hvB] at hv2
          simp only [Value.slice.injEq, Option.some.injEq, true_and] at hv2
          obtain ⟨rfl, rfl⟩ := hv2
          exact .arr (upd_same _ _ _) hcap
      | _ => exact absurd a3.1 (by simp)
     | _ => cases x' <;> exact gen a3
  ·obtain ⟨g1, b1, b2⟩ := hback _ _ a1
   obtain ⟨g2, b3, b4⟩ := hback _ _ a2
   exact h2.dist i i' g1 g2 B' b1 b3 (b2.trans a3) (b4.trans a4)
  ·obtain ⟨g1, b1, b2⟩ := hback _ _ a1
   exact h2.apart i g1 B' off b1 (b2.trans a2)
  ·obtain ⟨g1, b1, b2⟩ := hback _ _ a1
   exact h2.low i g1 B' b1 (b2.trans a2)
  ·refine ⟨h3.os, h3.tape, h3.output, h3.size, h3.cell, fun B' off hm hlt => ?_, fun b g0 hg => (by rw [hent] at hg; cases hg), fun B' hlt hno => h3.block B' hlt hno, fun b g0 B' hg hgB' hlt => ?_⟩
   ·rcases hM' B' off hm with hm | rfl
    ·exact h3.wr B' off hm hlt
    ·exact absurd hlt hnew
   ·obtain ⟨g1, b1, b2⟩ := hback _ _ hg
    exact h3.old b g1 B' b1 (b2.trans hgB') hlt
  ·have h0 := h6 k
   show Rep _ _ _ ((lk st'.F k).getD .junk) _
   cases hl : lk st'.F k with
   | none => exact .junk _
   | some d =>
    obtain ⟨r1, r2⟩ := hF _ (lk_mem _ _ _ hl)
    dsimp only at r1 r2
    rw [r1] at h0
    exact r2.rep hother hM' hpz hBs h0
end Go.Id
namespace Go.Id
open Go
def ArL (b sz : Nat) (es : List (List D)) : List D → List D → Prop
 | [], [] => True
 | d :: l, d' :: l' => ArD b sz es d d' ∧ ArL b sz es l l'
 | _, _ => False
theorem ArL.at {b sz : Nat} {es : List (List D)} : ∀ {l l' : List D}, ArL b sz es l l' → l'.length = l.length ∧ ∀ (i : Nat) d', l'[i]? = some d' → ∃ d, l[i]? = some d ∧ ArD b sz es d d'
 | [], [], _ => ⟨rfl, fun i d h => by simp at h⟩
 | d :: l, d' :: l', h => by
  obtain ⟨h1, h2⟩ := ArL.at h.2
  refine ⟨by simp [h1], fun i x hx => ?_⟩
  cases i with
  | zero => simp at hx; subst hx; exact ⟨d, rfl, h.1⟩
  | succ i => simp at hx; simpa using h2 i x hx
 | [], _ :: _, h => h.elim
 | _ :: _, [], h => h.elim
def ArB (b sz : Nat) (es : List (List D)) : Blk → Blk → Prop
 | .box T cs, .box T' cs' => T' = T ∧ ArL b sz es cs cs'
 | x, x' => x' = x ∧ BClo (fun i => i ≠ b) x
theorem Weak.arrTipB {ent : List Nat} {st st' : St} (b : Nat) (e : TypeId) (sz : Nat) (es : List (List D)) (b0 : Nat) (T0 : TypeId) (cs0 : List D) (i0 : Nat) (hk : lk st.σ b0 = some (.box T0 cs0)) (hi0 : cs0[i0]? = some (.arr b sz es.length)) (hb : lk st.σ b = some (.arr e es.flatten)) (hes : ∀ x ∈ es, x.length = sz) (hent : b ∉ ent)
  (hF : ∀ p ∈ st'.F, st.get p.1 = p.2 ∧ Clo (fun i => i ≠ b) p.2) (hec : ∀ x ∈ es, ∀ d ∈ x, Clo (fun i => i ≠ b) d) (hσb : lk st'.σ b = some (.tip e sz es.length)) (hσ : ∀ i, i ≠ b → (lk st.σ i = none ∧ lk st'.σ i = none) ∨ ∃ x x', lk st.σ i = some x ∧ lk st'.σ i = some x' ∧ ArB b sz es x x') : Weak ent st st' := by
 rintro P E N a w ⟨γ, h1, h2, h3, h4, h5, h6⟩
 obtain ⟨g, q1, q2⟩ := h2.hit hb
 have hflen := flat_len es hes
 cases q2 with
 | @arr _ B cap z vs _ fz hB hl hh hr hf =>
  obtain ⟨rfl, hf2, hf3⟩ := hf
  have hcap : es.length ≤ cap ∧ z = sz := by
   obtain ⟨g0, qb1, qb2⟩ := h2.hit hk
   cases qb2 with
   | box ws _ _ _ hl0 _ hr0 =>
    have hlt : i0 < ws.size := by rw [hl0]; exact (List.getElem?_eq_some_iff.1 hi0).1
    have h0 := hr0 i0 _ _ hi0 (Array.getElem?_eq_getElem hlt)
    generalize ws[i0] = v0 at h0
    cases h0 with
    | arr hγ hn => rw [q1] at hγ; cases hγ; exact ⟨hn, rfl⟩
  obtain ⟨hcap, rfl⟩ := hcap
  rw [hflen] at hl
  have hle : es.length * z ≤ vs.size := by omega
  have htl : (vs.toList.take (es.length * z)).length = es.length * z := by rw [List.length_take]; exact Nat.min_eq_left (by simpa using hle)
  let v : Value := .slice (some ⟨B, 0, none⟩) es.length cap
  let g' : G := .tip z e v es.length
  have hM : ∀ B' off, Mall E.M (upd γ b (some g')) B' off → Mall E.M γ B' off := by
   rintro B' off (hm | ⟨i, gi, hg, hw⟩)
   ·exact .inl hm
   ·by_cases hi : i = b
    ·subst hi; rw [upd_same] at hg; cases hg
     have := hw.1
     simp only [v, Value.ownBlock, Option.some.injEq] at this
     exact .inr ⟨i, _, q1, this.symm⟩
    ·rw [upd_other _ _ hi] at hg; exact .inr ⟨i, gi, hg, hw⟩
  have hother : ∀ i, i ≠ b → upd γ b (some g') i = γ i := fun i hi => upd_other _ _ hi
  have hback : ∀ i gi, upd γ b (some g') i = some gi → ∃ g0, γ i = some g0 ∧ g0.block = gi.block := by
   intro i gi hg
   by_cases hi : i = b
   ·subst hi; rw [upd_same] at hg; cases hg; exact ⟨_, q1, rfl⟩
   ·rw [hother i hi] at hg; exact ⟨gi, hg, rfl⟩
  have move : ∀ {d : D} {u : Value}, Rep (Mall E.M γ) γ w d u → Clo (fun i => i ≠ b) d → Rep (Mall E.M (upd γ b (some g'))) (upd γ b (some g')) w d u :=
   fun hd hc => (hd.restrict hother hc).sub hM
  have turn : ∀ {d d' : D} {u : Value}, Rep (Mall E.M γ) γ w d u → ArD b z es d d' → Rep (Mall E.M (upd γ b (some g'))) (upd γ b (some g')) w d' u := by
   intro d d' u h0 r3
   rcases r3 with ⟨rfl, hc⟩ | ⟨rfl, rfl⟩
   ·exact move h0 hc
   ·cases h0 with
    | arr hγ hn =>
      rw [q1] at hγ; cases hγ
      refine .slice (vs.toList.take (es.length * z)) hes htl (fun _ => rfl) (fun j u hu => ?_) (fun i j x d u c1 c2 c3 => ?_) hn (fun t ht => ?_)
      ·have hj : j < es.length * z := by have := (List.getElem?_eq_some_iff.1 hu).1; omega
       have hu' : vs[j]? = some u := by rw [List.getElem?_take, if_pos hj] at hu; simpa using hu
       refine ⟨by rw [cell_of_row w B (0 + j) vs e _ hB, Nat.zero_add]; exact hu', ?_, (hh j u (by rw [hflen]; omega) hu').1⟩
       rintro (hm | ⟨i, gi, hg, hw⟩)
       ·exact h2.apart b _ B _ q1 rfl hm
       ·by_cases hi : i = b
        ·subst hi; rw [upd_same] at hg; cases hg
         have := hw.2; simp only [Nat.zero_add] at this; omega
        ·rw [hother i hi] at hg
         exact hi (h2.dist i b gi _ B hg q1 (G.wr_block hw) rfl)
      ·have hfg := flat_get es hes i j x d c1 c2
       have hlt := (List.getElem?_eq_some_iff.1 hfg).1
       have c3' : vs[i * z + j]? = some u := by rw [List.getElem?_take, if_pos (by omega)] at c3; simpa using c3
       exact move (hr (i * z + j) d u hfg c3') (hec x (List.mem_of_getElem? c1) d (List.mem_of_getElem? c2))
      ·cases ht
       exact ⟨z, e, v, es.length, upd_same _ _ _, Nat.le_refl _, fun _ => rfl⟩
  refine ⟨upd γ b (some g'), h1, ⟨fun i => ?_, fun i i' gi gi' B' a1 a2 a3 a4 => ?_, h2.outer, fun i gi B' off a1 a2 => ?_, h2.inv, fun i gi B' a1 a2 => ?_, h2.big⟩, ?_, h4, h5.back (fun b g B q1 q2 => by obtain ⟨g0, r1, r2⟩ := hback _ _ q1; exact ⟨b, g0, r1, r2.trans q2⟩), fun k => ?_⟩
  ·by_cases hi : i = b
   ·subst hi
    exact .inl ⟨_, g', hσb, upd_same _ _ _, .tip (vs.toList.take (es.length * z)) ⟨htl, .inr ⟨B, cap, vs, rfl, Nat.zero_le _, hB, hcap, hf3, hf2, rfl⟩⟩⟩
   ·show (∃ blk g, lk st'.σ i = some blk ∧ _) ∨ (lk st'.σ i = none ∧ _)
    rw [hother i hi]
    rcases hσ i hi with ⟨a1, a2⟩ | ⟨x, x', a1, a2, a3⟩
    ·exact .inr ⟨a2, h2.miss a1⟩
    ·obtain ⟨gi, c1, c2⟩ := h2.hit a1
     refine .inl ⟨x', gi, a2, c1, ?_⟩
     have gen : x' = x ∧ BClo (fun i => i ≠ b) x → BlkRel (Mall E.M (upd γ b (some g'))) (upd γ b (some g')) w x' gi := by
      rintro ⟨rfl, hc⟩
      exact (c2.restrict hother hc).evo ⟨fun _ _ _ _ h => h, fun B' off h _ => hM B' off h, fun _ g h => ⟨g, h, G.le_refl g⟩⟩ (fun _ _ => rfl)
     cases x with
     | box T cs =>
      cases x' with
      | box T' cs' =>
       obtain ⟨rfl, hu⟩ := a3
       obtain ⟨hlen, hat⟩ := hu.at
       cases c2 with
       | box ws _ fz hB' hl' hh' hr' =>
        refine .box ws _ fz hB' (by omega) hh' (fun j x v hx hv => ?_)
        obtain ⟨d0, s1, s2⟩ := hat j x hx
        exact turn (hr' j d0 v s1 hv) s2
      | _ => exact absurd a3.1 (by simp)
     | _ => cases x' <;> exact gen a3
  ·obtain ⟨g1, b1, b2⟩ := hback _ _ a1
   obtain ⟨g2, b3, b4⟩ := hback _ _ a2
   exact h2.dist i i' g1 g2 B' b1 b3 (b2.trans a3) (b4.trans a4)
  ·obtain ⟨g1, b1, b2⟩ := hback _ _ a1
   exact h2.apart i g1 B' off b1 (b2.trans a2)
  ·obtain ⟨g1, b1, b2⟩ := hback _ _ a1
   exact h2.low i g1 B' b1 (b2.trans a2)
  ·refine ⟨h3.os, h3.tape, h3.output, h3.size, h3.cell, fun B' off a1 a2 => h3.wr B' off (hM B' off a1) a2, fun i gi hg => ?_, h3.block, fun i gi B' a1 a2 a3 => ?_⟩
   ·have hi : i ≠ b := fun e => hent (e ▸ h1 i gi hg)
    obtain ⟨g1, b1, b2⟩ := h3.names i gi hg
    exact ⟨g1, (hother i hi).trans b1, b2⟩
   ·obtain ⟨g1, b1, b2⟩ := hback _ _ a1
    exact h3.old i g1 B' b1 (b2.trans a2) a3
  ·have h0 := h6 k
   show Rep _ _ _ ((lk st'.F k).getD .junk) _
   cases hl2 : lk st'.F k with
   | none => exact .junk _
   | some d =>
    obtain ⟨r1, r2⟩ := hF _ (lk_mem _ _ _ hl2)
    dsimp only at r1 r2
    rw [r1] at h0
    exact move h0 r2
theorem Weak.ren {st st' : St} {f g : Nat → Nat} (h : ∀ n, g (f n) = n) (hF : ∀ p ∈ st'.F, p.2 = renD f (st.get p.1)) (hσ : ∀ b, lk st'.σ b = lk (renS f st.σ) b) : Weak [] st st' := by
 rintro P E N a w ⟨γ, h1, h2, h3, h4, h5, h6⟩
 have hent : ∀ b, E.γ b = none := fun b => by
  cases h : E.γ b with
  | none => rfl
  | some g => exact absurd (h1 b g h) (by simp)
 have hst : lk st'.σ = lk (renS f st.σ) := funext hσ
 refine ⟨fwd f g γ, h1, by rw [hst]; exact Store.forth h h2, ?_, h4, h5.back (fun c x B hc hB => ⟨g c, x, (fwd_inv hc).2, hB⟩), fun k => ?_⟩
 ·refine ⟨h3.os, h3.tape, h3.output, h3.size, h3.cell, fun B off hm hlt => h3.wr B off ((mall_fwd h γ B off).1 hm) hlt, fun b x hx => (by rw [hent] at hx; cases hx), h3.block, fun c x B hc hB hlt => ?_⟩
  exact h3.old (g c) x B (fwd_inv hc).2 hB hlt
 ·show Rep _ _ _ ((lk st'.F k).getD .junk) _
  cases hl : lk st'.F k with
  | none => exact .junk _
  | some d =>
   have hd := hF _ (lk_mem _ _ _ hl)
   dsimp only at hd
   rw [Option.getD_some, hd]
   exact ((h6 k).ren (γ' := fwd f g γ) (f := f) (fun b y hy => (fwd_at h γ b).trans hy)).same (fun B off => mall_fwd h γ B off)
end Go.Id
namespace Go.Id
open Go
section
variable {P : Prg} {ent : List Nat} {N : Nat} {Q : Exit → St → Prop} {st : St}
theorem WP.S (ks : List Nat) {id : Nat} {ops : Array Oper} {y : Code} (h : ∀ K : St → List RecX → Prop, (∀ st' rs, WP P ent N y Q ⟨Go.Id.keep ks st'.F, st'.σ⟩ → K st' rs) → runOps P ops ops.toList st [] K)
  (hd : dstsOk N ops = true := by kernel_rfl) : WP P ent N (.seq (.region id ops false) y) Q st := WP.sr ks hd h
theorem WP.R {id : Nat} {ops : Array Oper} (h : ∀ K : St → List RecX → Prop, (∀ st' rs, Q .normal st' → K st' rs) → runOps P ops ops.toList st [] K)
  (hd : dstsOk N ops = true := by kernel_rfl) : WP P ent N (.region id ops false) Q st := WP.region hd h
theorem WP.D (ks : List Nat) {id : Nat} {ops : Array Oper} {y : Code} (h : ∀ K : St → List RecX → Prop, (∀ st' rs, bernB ops rs = true → WP P ent N y Q ⟨Go.Id.keep ks st'.F, st'.σ⟩ → K st' rs) → runOps P ops ops.toList st [] K)
  (hm : P.prog.follows .mixedOrders = true := by kernel_rfl) (hd : dstsOk N ops = true := by kernel_rfl) : WP P ent N (.seq (.region id ops true) y) Q st := WP.sd ks hm hd h
theorem WP.E {id : Nat} {ops : Array Oper} (h : ∀ K : St → List RecX → Prop, (∀ st' rs, bernB ops rs = true → Q .normal st' → K st' rs) → runOps P ops ops.toList st [] K)
  (hm : P.prog.follows .mixedOrders = true := by kernel_rfl) (hd : dstsOk N ops = true := by kernel_rfl) : WP P ent N (.region id ops true) Q st := WP.drawn hm hd h
theorem WP.cT {c : Operand} {x y : Code} (h : WP P ent N x Q st) (hc : evalD st.get c = .bool true := by rfl) : WP P ent N (.cond c x y) Q st := WP.cond hc (fun _ => h) nofun
theorem WP.cF {c : Operand} {x y : Code} (h : WP P ent N y Q st) (hc : evalD st.get c = .bool false := by rfl) : WP P ent N (.cond c x y) Q st := WP.cond hc nofun fun _ => h
end
theorem CallK.P {P : Prg} {fo : D} {args : List D} {σ : List (Nat × Blk)} {K : D → Rec → Prop} {k : FuncId} {first cap as : List D} {val : D} (h : CallP P k as val) (hfo : fo = .fn (.func k) first cap) (has : as = (first ++ args ++ cap).map fg) (hk : K val ⟨[], []⟩)
  (hcl : ∀ d ∈ as, Clo (fun _ => False) d := by simp [-List.map_take]) : CallK P fo args σ K := CallK.pure h hfo has hcl hk
theorem CallK.I {P : Prg} {fo : D} {args : List D} {σ : List (Nat × Blk)} {K : D → Rec → Prop} {k : FuncId} {first cap as : List D} {ins outs : List (Nat × Blk)} {val : D} (h : CallE P k as ins val outs) (hfo : fo = .fn (.func k) first cap) (has : as = (first ++ args ++ cap).map fg) (hk : K val ⟨ins.map (·.1) ++ outs.map (·.1), outs⟩)
  (hin : ∀ p ∈ ins, lk σ p.1 = some p.2 ∧ BClo (fun i => (lk ins i).isSome = true) p.2 := by simp [lk, BClo]) (hout : ∀ p ∈ outs, (lk ins p.1).isSome = true ∨ lk σ p.1 = none := by simp [lk])
  (hcl : ∀ d ∈ as, Clo (fun i => (lk ins i).isSome = true) d := by simp [lk, fg]) : CallK P fo args σ K := CallK.imp h hfo has hin hout hcl hk
theorem Ends.P {P : Prg} {fn : Func} {val d : D} {e : Exit} {st : St} (hd : resD P.prog fn st = some d) (hle : Le d val) (he : e = .normal ∨ e = .ret := by simp) (hcl : Clo (fun _ => False) val := by simp) : Ends P fn [] val [] e st := Ends.pure he hd hle hcl
theorem CallP.W {P : Prg} {k : FuncId} {fn : Func} {c : Code} {args : List D} {val : D} {N : Nat} (hf : P.prog.funcs[k]? = some fn) (hN : fn.ntmps = N) (h : WP P [] N c (Ends P fn [] val []) ⟨frameOf 0 args, []⟩)
  (hb : fn.body = some c := by rfl) (hn : (fn.name == "runtime.NumGoroutine") = false := by kernel_rfl) (hle : args.length ≤ N := by simp) : CallP P k args val := CallP.of_wp hf hb hn hN hle h
theorem toNat_lit (n : Nat) : Int.toNat (no_index (OfNat.ofNat n)) = OfNat.ofNat n := rfl
end Go.Id
