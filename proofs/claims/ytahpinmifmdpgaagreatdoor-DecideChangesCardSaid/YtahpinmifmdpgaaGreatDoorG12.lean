import Derived.Test.YtahpinmifmdpgaaGreatDoorG06
import Derived.Test.YtahpinmifmdpgaaGreatDoorG02
import Derived.Test.YtahpinmifmdpgaaGreatDoorG11
import Derived.ChangeBears
import Derived.ReadAgain
set_option linter.unusedVariables false
set_option linter.unusedSimpArgs false
set_option linter.unnecessarySimpa false
/-
  Plain: the arguments of the rows, read as data. Conditions: as each theorem says.
-/
set_option linter.unusedVariables false
set_option maxRecDepth 100000
namespace Go.Proofs.YtahpinmifmdpgaaGreatDoor.Rw
open Go Go.Id Go.Proofs Go.ChangeShapes Go.WideShapes Go.ChangeAt Go.RowKit
section
variable {H : Type} {enc : TypeId × Value → H} {W : World}
abbrev RdP (enc : TypeId × Value → H) (W : World) (t : TypeId) (A : List D → Prop) : Prop := Rd enc Tryz.prog W (fun _ _ => False) (fun _ => none) 0 (fun _ => true) true t A
abbrev RepP (W : World) (d : D) (v : Value) : Prop := Rep (fun _ _ => False) (fun _ => none) W d v
theorem maxl : maxLen = 9223372036854775807 := by decide
theorem kids : Kids Tryz.prog (· < Tryz.prog.types.size) := kids_rows (by kernel_rfl) (by kernel_rfl)
theorem full : ∀ t e, t < Tryz.prog.types.size → Tryz.prog.underlying t = some (.slice e) → 0 < Tryz.prog.cellsOf e := slices_full_of Tryz.prog (by kernel_rfl)
theorem cl9 : Tryz.prog.cellsOf 9 = 1 := by kernel_rfl
theorem cl46 : Tryz.prog.cellsOf 46 = 3 := by kernel_rfl
theorem cl44 : Tryz.prog.cellsOf 44 = 6 := by kernel_rfl
theorem rdS : RdP enc W 9 (fun ds => ∃ s, ds = [.str s] ∧ s.length ≤ maxLen) := rd_str Tryz.underlying9
theorem rdB : RdP enc W 4 (fun ds => ∃ b, ds = [.bool b]) := rd_bool Tryz.underlying4
theorem rdI : RdP enc W 3 (fun ds => ∃ n, ds = [.int .i64 n] ∧ (Lit.int .i64 n).wf = true) := rd_int Tryz.underlying3
theorem rdSs : RdP enc W 23 (fun ds => ∃ nl ls, ds = [.slice 1 nl (ls.map fun x => [.str x]) none] ∧ (nl = true → ls = []) ∧ ls.length ≤ 9223372036854775807) := by
  refine (rd_slice Tryz.underlying23 (by rw [cl9]; omega) (fun _ _ h => h) rdS).mono ?_
  rintro ds ⟨nl, es, rfl, h1, h2, h3⟩
  obtain ⟨l, rfl, _⟩ := list_form (f := fun x => [D.str x]) (g := fun _ => True) es (fun e he => let ⟨s, hs, _⟩ := h3 e he; ⟨s, trivial, hs⟩)
  exact ⟨nl, l, by rw [cl9], fun h => by simpa using h1 h, by rw [maxl] at h2; simpa using h2⟩
theorem rdC : RdP enc W 46 (fun ds => ∃ c : Cond, ds = c.cs) := by
  refine (rd_struct (As := [_, _, _]) Tryz.underlying46 ⟨rfl, rdS, by kernel_rfl, rdS, by kernel_rfl, rdS, by show _ = _; kernel_rfl⟩).mono ?_
  rintro ds ⟨_, _, ⟨s1, rfl, _⟩, ⟨_, _, ⟨s2, rfl, _⟩, ⟨_, _, ⟨s3, rfl, _⟩, rfl, rfl⟩, rfl⟩, rfl⟩
  exact ⟨⟨s1, s2, s3⟩, rfl⟩
theorem rdCs : RdP enc W 42 (fun ds => ∃ nl l, ds = [.slice 3 nl (l.map Cond.cs) none] ∧ (nl = true → l = []) ∧ l.length ≤ 9223372036854775807) := by
  refine (rd_slice Tryz.underlying42 (by rw [cl46]; omega) (fun _ _ h => h) rdC).mono ?_
  rintro ds ⟨nl, es, rfl, h1, h2, h3⟩
  obtain ⟨l, rfl, _⟩ := list_form (f := Cond.cs) (g := fun _ => True) es (fun e he => let ⟨s, hs⟩ := h3 e he; ⟨s, trivial, hs⟩)
  exact ⟨nl, l, by rw [cl46], fun h => by simpa using h1 h, by rw [maxl] at h2; simpa using h2⟩
theorem wf64 {n : Int} (h : (Lit.int .i64 n).wf = true) : -9223372036854775808 ≤ n ∧ n ≤ 9223372036854775807 := bounds_i64 h
theorem rdR : RdP enc W 44 (fun ds => ∃ p : Rule, ds = p.cs ∧ p.big ∧ p.rng) := by
  refine (rd_struct (As := [_, _, _, _, _, _]) Tryz.underlying44 ⟨rfl, rdS, by kernel_rfl, rdB, by kernel_rfl, rdCs, by kernel_rfl, rdSs, by kernel_rfl, rdI, by kernel_rfl, rdI, by show _ = _; kernel_rfl⟩).mono ?_
  rintro ds ⟨_, _, ⟨s1, rfl, _⟩, ⟨_, _, ⟨b, rfl⟩, ⟨_, _, ⟨n1, l1, rfl, a1, a2⟩, ⟨_, _, ⟨n2, l2, rfl, b1, b2⟩, ⟨_, _, ⟨i, rfl, hi⟩, ⟨_, _, ⟨j, rfl, hj⟩, rfl, rfl⟩, rfl⟩, rfl⟩, rfl⟩, rfl⟩, rfl⟩
  exact ⟨⟨s1, b, l1, n1, l2, n2, i, j⟩, rfl, ⟨a2, a1, b2, b1⟩, wf64 hi, wf64 hj⟩
theorem rdRs : RdP enc W 22 (fun ds => ∃ nl l, ds = [.slice 6 nl (l.map Rule.cs) none] ∧ (nl = true → l = []) ∧ l.length ≤ 9223372036854775807 ∧ ∀ p ∈ l, p.big ∧ p.rng) := by
  refine (rd_slice Tryz.underlying22 (by rw [cl44]; omega) (fun _ _ h => h) rdR).mono ?_
  rintro ds ⟨nl, es, rfl, h1, h2, h3⟩
  obtain ⟨l, rfl, hl⟩ := list_form (f := Rule.cs) (g := fun p => p.big ∧ p.rng) es (fun e he => let ⟨s, hs, hs2⟩ := h3 e he; ⟨s, hs2, hs⟩)
  exact ⟨nl, l, by rw [cl44], fun h => by simpa using h1 h, by rw [maxl] at h2; simpa using h2, hl⟩
theorem rdQ : RdP enc W 25 (fun ds => ∃ r : Req, ds = [.str r.user, .str r.client, .str r.tenant, .slice 1 r.ng (r.groups.map fun x => [.str x]) none, .slice 1 r.ns (r.scopes.map fun x => [.str x]) none, .int .i64 r.risk, .bool r.trusted, .int .i64 r.level, .int .i64 r.auth, .int .i64 r.now] ∧ r.big) := by
  refine (rd_struct (As := [_, _, _, _, _, _, _, _, _, _]) Tryz.underlying25 ⟨rfl, rdS, by kernel_rfl, rdS, by kernel_rfl, rdS, by kernel_rfl, rdSs, by kernel_rfl, rdSs, by kernel_rfl, rdI, by kernel_rfl, rdB, by kernel_rfl, rdI, by kernel_rfl, rdI, by kernel_rfl, rdI, by show _ = _; kernel_rfl⟩).mono ?_
  rintro ds ⟨_, _, ⟨s1, rfl, _⟩, ⟨_, _, ⟨s2, rfl, _⟩, ⟨_, _, ⟨s3, rfl, _⟩, ⟨_, _, ⟨n1, l1, rfl, a1, a2⟩, ⟨_, _, ⟨n2, l2, rfl, b1, b2⟩, ⟨_, _, ⟨i, rfl, hi⟩, ⟨_, _, ⟨b, rfl⟩, ⟨_, _, ⟨j, rfl, hj⟩, ⟨_, _, ⟨k, rfl, hk⟩, ⟨_, _, ⟨m, rfl, hm⟩, rfl, rfl⟩, rfl⟩, rfl⟩, rfl⟩, rfl⟩, rfl⟩, rfl⟩, rfl⟩, rfl⟩, rfl⟩
  exact ⟨⟨s1, s2, s3, l1, n1, l2, n2, i, b, j, k, m⟩, rfl, a2, a1, b2, b1⟩
theorem cl36 : Tryz.prog.cellsOf 36 = 3 := by kernel_rfl
theorem rdX : RdP enc W 36 (fun ds => ∃ x : Reas, ds = x.cs ∧ x.scopes.length ≤ 9223372036854775807 ∧ (x.ns = true → x.scopes = [])) := by
  refine (rd_struct (As := [_, _, _]) Tryz.underlying36 ⟨rfl, rdI, by kernel_rfl, rdI, by kernel_rfl, rdSs, by show _ = _; kernel_rfl⟩).mono ?_
  rintro ds ⟨_, _, ⟨i, rfl, hi⟩, ⟨_, _, ⟨j, rfl, hj⟩, ⟨_, _, ⟨n2, l2, rfl, b1, b2⟩, rfl, rfl⟩, rfl⟩, rfl⟩
  exact ⟨⟨i, j, l2, n2⟩, rfl, b2, b1⟩
theorem rdXs : RdP enc W 30 (fun ds => ∃ nl l, ds = [.slice 3 nl (l.map Reas.cs) none] ∧ (nl = true → l = []) ∧ l.length ≤ 9223372036854775807 ∧ ∀ x ∈ l, x.scopes.length ≤ 9223372036854775807 ∧ (x.ns = true → x.scopes = [])) := by
  refine (rd_slice Tryz.underlying30 (by rw [cl36]; omega) (fun _ _ h => h) rdX).mono ?_
  rintro ds ⟨nl, es, rfl, h1, h2, h3⟩
  obtain ⟨l, rfl, hl⟩ := list_form (f := Reas.cs) (g := fun x => x.scopes.length ≤ 9223372036854775807 ∧ (x.ns = true → x.scopes = [])) es (fun e he => let ⟨s, hs, hs2⟩ := h3 e he; ⟨s, hs2, hs⟩)
  exact ⟨nl, l, by rw [cl36], fun h => by simpa using h1 h, by rw [maxl] at h2; simpa using h2, hl⟩
theorem rdE : RdP enc W 29 (fun ds => ∃ n, ds = [.int .i64 n] ∧ (Lit.int .i64 n).wf = true) := rd_int Tryz.underlying29
theorem rdD : RdP enc W 32 (fun ds => ∃ d : Dec, ds = [.int .i64 d.eff, .slice 1 d.ns (d.scopes.map fun x => [.str x]) none, .int .i64 d.lvl, .int .i64 d.age, .slice 3 d.nr (d.reas.map Reas.cs) none] ∧ d.big) := by
  refine (rd_struct (As := [_, _, _, _, _]) Tryz.underlying32 ⟨rfl, rdE, by kernel_rfl, rdSs, by kernel_rfl, rdI, by kernel_rfl, rdI, by kernel_rfl, rdXs, by show _ = _; kernel_rfl⟩).mono ?_
  rintro ds ⟨_, _, ⟨e, rfl, he⟩, ⟨_, _, ⟨n2, l2, rfl, b1, b2⟩, ⟨_, _, ⟨i, rfl, hi⟩, ⟨_, _, ⟨j, rfl, hj⟩, ⟨_, _, ⟨n3, l3, rfl, c1, c2, c3⟩, rfl, rfl⟩, rfl⟩, rfl⟩, rfl⟩, rfl⟩
  exact ⟨⟨e, l2, n2, i, j, l3, n3⟩, rfl, b2, b1, c2, c1, c3, wf64 hi, wf64 hj⟩
variable {r : Reach} {b0 : Nat} {v : Value} {d : DataW H} {ps : List MemPlace}
theorem arg_rules (hval : Value.okWide Tryz.prog W r b0 22 v) (h : DataW.Trod enc Tryz.prog W 0 (fun _ => true) true 22 v d ps) :
    ∃ (l : List Rule) (nl : Bool), l.length ≤ 9223372036854775807 ∧ (nl = true → l = []) ∧ (∀ p ∈ l, p.big) ∧ (∀ p ∈ l, p.rng) ∧ RepP W (.slice 6 nl (l.map Rule.cs) none) v := by
  obtain ⟨a, len, cap, rfl⟩ := okWide_slice Tryz.underlying22 hval
  obtain ⟨e, ⟨nl, l, rfl, h1, h2, h3⟩, hr⟩ := rd_arg (D' := fun e => ∃ nl l, e = .slice 6 nl (l.map Rule.cs) none ∧ (nl = true → l = []) ∧ l.length ≤ 9223372036854775807 ∧ ∀ p ∈ l, p.big ∧ p.rng) rdRs h (fun cs => by simp) (by rintro ds ⟨nl, l, rfl, h⟩; exact ⟨_, rfl, nl, l, rfl, h⟩)
  exact ⟨l, nl, h2, h1, fun p hp => (h3 p hp).1, fun p hp => (h3 p hp).2, hr⟩
theorem arg_req (hval : Value.okWide Tryz.prog W r b0 25 v) (h : DataW.Trod enc Tryz.prog W 0 (fun _ => true) true 25 v d ps) :
    ∃ q : Req, q.big ∧ RepP W (.agg [.str q.user, .str q.client, .str q.tenant, .slice 1 q.ng (q.groups.map fun x => [.str x]) none, .slice 1 q.ns (q.scopes.map fun x => [.str x]) none, .int .i64 q.risk, .bool q.trusted, .int .i64 q.level, .int .i64 q.auth, .int .i64 q.now]) v := by
  obtain ⟨cs, rfl, _⟩ := okWide_struct Tryz.underlying25 hval
  obtain ⟨ds, ⟨p, rfl, h1⟩, hr⟩ := rd_agg rdQ h
  exact ⟨p, h1, hr⟩
/-- The law returns true, and its arguments read as they did. -/
theorem post_all {f : Func} {s : ChangeSpec} {apart again : Bool} {W W' : World} {args : Array Value} {ds gs : List (DataW H)} {before : List MemPlace}
    (hW : DataW.Whole enc Tryz.prog f.params.toList s.vars apart W args.toList ds gs before) (hv : s.vars = []) (hb : Below W.heap.size W W') (ht : ∀ t ∈ f.params.toList, t < Tryz.prog.types.size)
    (hr : f.resultTypes = #[4]) (hres : (s.fn H (ds ++ gs)).results = [.lit (.bool true)]) (hargs : (s.fn H (ds ++ gs)).args = ds) (hvars : (s.fn H (ds ++ gs)).vars = []) :
    s.post enc Tryz.prog f apart true false again W args (.bool true) W' := by
  refine post_true hW hv hb hr Tryz.underlying4 hres hargs hvars fun sp hs => ?_
  have hlt := hW.lt
  obtain ⟨p, q, hA, hV, rfl, hz, hn⟩ := hW
  rw [hv] at hV
  obtain ⟨rfl, rfl⟩ := trodVars_none hV
  rw [List.append_nil] at hlt hs ⊢
  exact trodAll_keep kids full hb ht hA hlt sp hs
end
theorem one {W : World} {d : D} {v : Value} (h : RepP W d v) : ∀ (i : Nat) e u, [d][i]? = some e → [v][i]? = some u → RepP W e u := by
  intro i e u h1 h2
  match i with
  | 0 => simp at h1 h2; subst h1; subst h2; exact h
  | i + 1 => simp at h1
theorem consR {W : World} {d : D} {v : Value} {ds : List D} {vs : List Value} (h : RepP W d v) (k : ∀ (i : Nat) e u, ds[i]? = some e → vs[i]? = some u → RepP W e u) : ∀ (i : Nat) e u, (d :: ds)[i]? = some e → (v :: vs)[i]? = some u → RepP W e u := by
  intro i e u h1 h2
  match i with
  | 0 => simp at h1 h2; subst h1; subst h2; exact h
  | i + 1 => exact k i e u (by simpa using h1) (by simpa using h2)
end Go.Proofs.YtahpinmifmdpgaaGreatDoor.Rw
