import Derived.Test.YthepmnlpfhmddaaGreatDoorG06
import Derived.Test.YthepmnlpfhmddaaGreatDoorG02
import Derived.Test.YthepmnlpfhmddaaGreatDoorG10
import Derived.ChangeBears
import Derived.ReadAgain
set_option linter.unusedVariables false
set_option linter.unusedSimpArgs false
set_option linter.unnecessarySimpa false
set_option maxRecDepth 100000
namespace Go.Proofs.YthepmnlpfhmddaaGreatDoor.Rw
open Go Go.Id Go.Proofs Go.ChangeShapes Go.WideShapes Go.ChangeAt Go.RowKit
section
variable {H : Type} {enc : TypeId × Value → H} {W : World}
abbrev RdP (enc : TypeId × Value → H) (W : World) (t : TypeId) (A : List D → Prop) : Prop := Rd enc Tryz.prog W (fun _ _ => False) (fun _ => none) 0 (fun _ => true) true t A
abbrev RepP (W : World) (d : D) (v : Value) : Prop := Rep (fun _ _ => False) (fun _ => none) W d v
theorem maxl : maxLen = 9223372036854775807 := by decide
theorem kids : Kids Tryz.prog (· < Tryz.prog.types.size) := kids_rows (by kernel_rfl) (by kernel_rfl)
theorem full : ∀ t e, t < Tryz.prog.types.size → Tryz.prog.underlying t = some (.slice e) → 0 < Tryz.prog.cellsOf e := slices_full_of Tryz.prog (by kernel_rfl)
theorem cl39 : Tryz.prog.cellsOf 39 = 6 := by kernel_rfl
theorem rdS : RdP enc W 9 (fun ds => ∃ s, ds = [.str s] ∧ s.length ≤ maxLen) := rd_str Tryz.underlying9
theorem rdI : RdP enc W 3 (fun ds => ∃ n, ds = [.int .i64 n] ∧ (Lit.int .i64 n).wf = true) := rd_int Tryz.underlying3
theorem rdW : RdP enc W 24 (fun ds => ∃ f u, ds = [.int .i64 f, .int .i64 u]) := by
 refine (rd_struct (As := [_, _]) Tryz.underlying24 ⟨rfl, rdI, by kernel_rfl, rdI, by show _ = _; kernel_rfl⟩).mono ?_
 rintro ds ⟨_, _, ⟨f, rfl, _⟩, ⟨_, _, ⟨u, rfl, _⟩, rfl, rfl⟩, rfl⟩
 exact ⟨f, u, rfl⟩
theorem rdK1 : RdP enc W 39 (fun ds => ∃ k : Key, ds = k.cs) := by
 refine (rd_struct (As := [_, _, _, _]) Tryz.underlying39 ⟨rfl, rdS, by kernel_rfl, rdS, by kernel_rfl, rdW, by kernel_rfl, rdW, by show _ = _; kernel_rfl⟩).mono ?_
 rintro ds ⟨_, _, ⟨s1, rfl, _⟩, ⟨_, _, ⟨s2, rfl, _⟩, ⟨_, _, ⟨a, b, rfl⟩, ⟨_, _, ⟨c, d, rfl⟩, rfl, rfl⟩, rfl⟩, rfl⟩, rfl⟩
 exact ⟨⟨s1, s2, a, b, c, d⟩, rfl⟩
theorem rdKs : RdP enc W 22 (fun ds => ∃ nl l, ds = [.slice 6 nl (l.map Key.cs) none] ∧ (nl = true → l = []) ∧ l.length ≤ 9223372036854775807) := by
 refine (rd_slice Tryz.underlying22 (by rw [cl39]; omega) (fun _ _ h => h) rdK1).mono ?_
 rintro ds ⟨nl, es, rfl, h1, h2, h3⟩
 obtain ⟨l, rfl, _⟩ := list_form (f := Key.cs) (g := fun _ => True) es (fun e he => let ⟨s, hs⟩ := h3 e he; ⟨s, trivial, hs⟩)
 exact ⟨nl, l, by rw [cl39], fun h => by simpa using h1 h, by rw [maxl] at h2; simpa using h2⟩
theorem rdPa : RdP enc W 26 (fun ds => ∃ p : Par, ds = p.cs ∧ p.keys.length ≤ 9223372036854775807 ∧ (p.nk = true → p.keys = [])) := by
 refine (rd_struct (As := [_, _, _, _]) Tryz.underlying26 ⟨rfl, rdS, by kernel_rfl, rdS, by kernel_rfl, rdKs, by kernel_rfl, rdW, by show _ = _; kernel_rfl⟩).mono ?_
 rintro ds ⟨_, _, ⟨s1, rfl, _⟩, ⟨_, _, ⟨s2, rfl, _⟩, ⟨_, _, ⟨nl, l, rfl, h1, h2⟩, ⟨_, _, ⟨f, u, rfl⟩, rfl, rfl⟩, rfl⟩, rfl⟩, rfl⟩
 exact ⟨⟨s1, s2, l, nl, f, u⟩, rfl, h2, h1⟩
variable {r : Reach} {b0 : Nat} {v : Value} {d : DataW H} {ps : List MemPlace}
theorem arg_str (hval : Value.okWide Tryz.prog W r b0 9 v) (h : DataW.Trod enc Tryz.prog W 0 (fun _ => true) true 9 v d ps) : ∃ s, RepP W (.str s) v := by
 obtain ⟨s, rfl⟩ := okWide_string Tryz.underlying9 hval
 exact ⟨_, .str s⟩
theorem arg_int (hval : Value.okWide Tryz.prog W r b0 3 v) (h : DataW.Trod enc Tryz.prog W 0 (fun _ => true) true 3 v d ps) : ∃ n, RepP W (.int .i64 n) v := by
 obtain ⟨n, rfl⟩ := okWide_int Tryz.underlying3 hval
 exact ⟨_, .int _ _⟩
theorem arg_par (hval : Value.okWide Tryz.prog W r b0 26 v) (h : DataW.Trod enc Tryz.prog W 0 (fun _ => true) true 26 v d ps) :
  ∃ p : Par, p.keys.length ≤ 9223372036854775807 ∧ (p.nk = true → p.keys = []) ∧ RepP W (.agg [.str p.id, .str p.addr, .slice 6 p.nk (p.keys.map Key.cs) none, .int .i64 p.f, .int .i64 p.u]) v := by
 obtain ⟨cs, rfl, _⟩ := okWide_struct Tryz.underlying26 hval
 obtain ⟨ds, ⟨p, rfl, h1, h2⟩, hr⟩ := rd_agg rdPa h
 exact ⟨p, h1, h2, hr⟩
theorem post_all {f : Func} {s : ChangeSpec} {apart again : Bool} {W W' : World} {args : Array Value} {ds gs : List (DataW H)} {before : List MemPlace}
  (hW : DataW.Whole enc Tryz.prog f.params.toList s.vars apart W args.toList ds gs before) (hv : s.vars = []) (hb : Below W.heap.size W W') (ht : ∀ t ∈ f.params.toList, t < Tryz.prog.types.size)
  (hr : f.resultTypes = #[4]) (hres : (s.fn H (ds ++ gs)).results = [.lit (.bool true)]) (hargs : (s.fn H (ds ++ gs)).args = ds) (hvars : (s.fn H (ds ++ gs)).vars = []) :
  s.post enc Tryz.prog f apart true false again W args (.bool true) W' := by
 refine post_true hW hv hb hr Tryz.underlying4 hres hargs hvars fun sp hs => ?_
 have hlt := hW.lt
 obtain ⟨p, q, hA, hV, rfl, hz, hn⟩ := hW
 rw [hv] at hV
 obtain ⟨rfl, rfl⟩ := trodVars_none hV
 rw [List.append_nil] at hlt hs ⊢
 exact trodAll_keep kids full hb ht hA hlt sp hs
end
theorem one {W : World} {d : D} {v : Value} (h : RepP W d v) : ∀ (i : Nat) e u, [d][i]? = some e → [v][i]? = some u → RepP W e u := by
 intro i e u h1 h2
 match i with
 | 0 => simp at h1 h2; subst h1; subst h2; exact h
 | i + 1 => simp at h1
theorem consR {W : World} {d : D} {v : Value} {ds : List D} {vs : List Value} (h : RepP W d v) (k : ∀ (i : Nat) e u, ds[i]? = some e → vs[i]? = some u → RepP W e u) : ∀ (i : Nat) e u, (d :: ds)[i]? = some e → (v :: vs)[i]? = some u → RepP W e u := by
 intro i e u h1 h2
 match i with
 | 0 => simp at h1 h2; subst h1; subst h2; exact h
 | i + 1 => exact k i e u (by simpa using h1) (by simpa using h2)
end Go.Proofs.YthepmnlpfhmddaaGreatDoor.Rw
