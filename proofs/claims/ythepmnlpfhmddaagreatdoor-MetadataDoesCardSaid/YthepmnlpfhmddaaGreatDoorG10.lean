import Derived.Test.YthepmnlpfhmddaaGreatDoorG05
import Derived.Test.YthepmnlpfhmddaaGreatDoorG02
import Derived.Test.YthepmnlpfhmddaaGreatDoorG09
import Derived.ChangeBears
import Derived.ReadAgain
import Derived.Test.YthepmnlpfhmddaaGreatDoorG03
set_option linter.unusedVariables false
set_option linter.unusedSimpArgs false
set_option linter.unnecessarySimpa false
set_option maxRecDepth 100000
namespace Go.Proofs.YthepmnlpfhmddaaGreatDoor.Rw
open Go Go.Id Go.Proofs Go.ChangeShapes Go.WideShapes Go.ChangeAt Go.RowKit
section
variable {H : Type} {enc : TypeId × Value → H} {W : World}
abbrev RdP (enc : TypeId × Value → H) (W : World) (t : TypeId) (A : List D → Prop) : Prop := Rd enc Tryz.prog W (fun _ _ => False) (fun _ => none) 0 (fun _ => true) true t A
abbrev RepP (W : World) (d : D) (v : Value) : Prop := Rep (fun _ _ => False) (fun _ => none) W d v
theorem maxl : maxLen = 9223372036854775807 := by decide
theorem kids : Kids Tryz.prog (· < Tryz.prog.types.size) := kids_rows (by kernel_rfl) (by kernel_rfl)
theorem full : ∀ t e, t < Tryz.prog.types.size → Tryz.prog.underlying t = some (.slice e) → 0 < Tryz.prog.cellsOf e := slices_full_of Tryz.prog (by kernel_rfl)
theorem cl39 : Tryz.prog.cellsOf 39 = 6 := by kernel_rfl
theorem rdS : RdP enc W 9 (fun ds => ∃ s, ds = [.str s] ∧ s.length ≤ maxLen) := rd_str Tryz.underlying9
theorem rdI : RdP enc W 3 (fun ds => ∃ n, ds = [.int .i64 n] ∧ (Lit.int .i64 n).wf = true) := rd_int Tryz.underlying3
theorem rdW : RdP enc W 24 (fun ds => ∃ f u, ds = [.int .i64 f, .int .i64 u]) := by
 refine (rd_struct (As := [_, _]) Tryz.underlying24 ⟨rfl, rdI, by kernel_rfl, rdI, by show _ = _; kernel_rfl⟩).mono ?_
 rintro ds ⟨_, _, ⟨f, rfl, _⟩, ⟨_, _, ⟨u, rfl, _⟩, rfl, rfl⟩, rfl⟩
 exact ⟨f, u, rfl⟩
theorem rdK1 : RdP enc W 39 (fun ds => ∃ k : Key, ds = k.cs) := by
 refine (rd_struct (As := [_, _, _, _]) Tryz.underlying39 ⟨rfl, rdS, by kernel_rfl, rdS, by kernel_rfl, rdW, by kernel_rfl, rdW, by show _ = _; kernel_rfl⟩).mono ?_
 rintro ds ⟨_, _, ⟨s1, rfl, _⟩, ⟨_, _, ⟨s2, rfl, _⟩, ⟨_, _, ⟨a, b, rfl⟩, ⟨_, _, ⟨c, d, rfl⟩, rfl, rfl⟩, rfl⟩, rfl⟩, rfl⟩
 exact ⟨⟨s1, s2, a, b, c, d⟩, rfl⟩
theorem rdKs : RdP enc W 22 (fun ds => ∃ nl l, ds = [.slice 6 nl (l.map Key.cs) none] ∧ (nl = true → l = []) ∧ l.length ≤ 9223372036854775807) := by
 refine (rd_slice Tryz.underlying22 (by rw [cl39]; omega) (fun _ _ h => h) rdK1).mono ?_
 rintro ds ⟨nl, es, rfl, h1, h2, h3⟩
 obtain ⟨l, rfl, _⟩ := list_form (f := Key.cs) (g := fun _ => True) es (fun e he => let ⟨s, hs⟩ := h3 e he; ⟨s, trivial, hs⟩)
 exact ⟨nl, l, by rw [cl39], fun h => by simpa using h1 h, by rw [maxl] at h2; simpa using h2⟩
theorem rdPa : RdP enc W 26 (fun ds => ∃ p : Par, ds = p.cs ∧ p.keys.length ≤ 9223372036854775807 ∧ (p.nk = true → p.keys = [])) := by
 refine (rd_struct (As := [_, _, _, _]) Tryz.underlying26 ⟨rfl, rdS, by kernel_rfl, rdS, by kernel_rfl, rdKs, by kernel_rfl, rdW, by show _ = _; kernel_rfl⟩).mono ?_
 rintro ds ⟨_, _, ⟨s1, rfl, _⟩, ⟨_, _, ⟨s2, rfl, _⟩, ⟨_, _, ⟨nl, l, rfl, h1, h2⟩, ⟨_, _, ⟨f, u, rfl⟩, rfl, rfl⟩, rfl⟩, rfl⟩, rfl⟩
 exact ⟨⟨s1, s2, l, nl, f, u⟩, rfl, h2, h1⟩
variable {r : Reach} {b0 : Nat} {v : Value} {d : DataW H} {ps : List MemPlace}
theorem post_all {f : Func} {s : ChangeSpec} {apart again : Bool} {W W' : World} {args : Array Value} {ds gs : List (DataW H)} {before : List MemPlace}
  (hW : DataW.Whole enc Tryz.prog f.params.toList s.vars apart W args.toList ds gs before) (hv : s.vars = []) (hb : Below W.heap.size W W') (ht : ∀ t ∈ f.params.toList, t < Tryz.prog.types.size)
  (hr : f.resultTypes = #[4]) (hres : (s.fn H (ds ++ gs)).results = [.lit (.bool true)]) (hargs : (s.fn H (ds ++ gs)).args = ds) (hvars : (s.fn H (ds ++ gs)).vars = []) :
  s.post enc Tryz.prog f apart true false again W args (.bool true) W' := by
 refine post_true hW hv hb hr Tryz.underlying4 hres hargs hvars fun sp hs => ?_
 have hlt := hW.lt
 obtain ⟨p, q, hA, hV, rfl, hz, hn⟩ := hW
 rw [hv] at hV
 obtain ⟨rfl, rfl⟩ := trodVars_none hV
 rw [List.append_nil] at hlt hs ⊢
 exact trodAll_keep kids full hb ht hA hlt sp hs
end
theorem one {W : World} {d : D} {v : Value} (h : RepP W d v) : ∀ (i : Nat) e u, [d][i]? = some e → [v][i]? = some u → RepP W e u := by
 intro i e u h1 h2
 match i with
 | 0 => simp at h1 h2; subst h1; subst h2; exact h
 | i + 1 => simp at h1
end Go.Proofs.YthepmnlpfhmddaaGreatDoor.Rw
namespace Go.Proofs
open Go Go.Id
structure Opd where
 kind : Int
 p : Par
 ks : List Key
 nk : Bool
 text : List UInt8
 sig : List UInt8
 id : List UInt8
 at_ : Int
 now : Int
def Opd.cs (o : Opd) : List D := [.int .i64 o.kind, .str o.p.id, .str o.p.addr, .slice 6 o.p.nk (o.p.keys.map Key.cs) none, .int .i64 o.p.f, .int .i64 o.p.u, .slice 6 o.nk (o.ks.map Key.cs) none, .str o.text, .str o.sig, .str o.id, .int .i64 o.at_, .int .i64 o.now]
def Opd.big (o : Opd) : Prop := o.p.keys.length ≤ 9223372036854775807 ∧ (o.p.nk = true → o.p.keys = []) ∧ o.ks.length ≤ 9223372036854775807 ∧ (o.nk = true → o.ks = [])
def Opd.kp (o : Opd) : Par := ⟨[], [], o.ks, o.nk, 0, 0⟩
def opG (o : Opd) : Bool := greatP o.p || greatP o.kp || decide ((o.text.length : Int) > 800) || shG [o.sig, o.id] 2 300
def longB (l : List Opd) (n : Int) : Bool := decide ((l.length : Int) > n) || l.any opG
def Opd.ok (o : Opd) : Prop := o.p.ok ∧ (∀ k ∈ o.ks, k.ok) ∧ o.ks.length ≤ 1099511627776 ∧ (o.nk = true → o.ks = []) ∧ o.text.length ≤ 1099511627776 ∧ o.sig.length ≤ 1099511627776 ∧ ∀ k ∈ o.ks, k.id.length ≤ 300
theorem great_ids {p : Par} (h : greatP p = false) : ∀ k ∈ p.keys, k.id.length ≤ 300 := by
 simp only [greatP, greatB, Bool.or_eq_false_iff, List.any_eq_false, decide_eq_false_iff_not] at h
 intro k hk
 have := h.2.2 k hk
 simp only [Bool.or_eq_true, decide_eq_true_eq, not_or] at this
 omega
theorem opG_no {o : Opd} (hb : o.big) (h : opG o = false) : o.ok := by
 simp only [opG, Bool.or_eq_false_iff, decide_eq_false_iff_not] at h
 obtain ⟨⟨⟨h1, h2⟩, h3⟩, h4⟩ := h
 obtain ⟨a1, _, _, _⟩ := great_p hb.2.1 h1
 obtain ⟨b1, _, _, b4⟩ := great_p (p := o.kp) hb.2.2.2 h2
 refine ⟨a1, b1.2.2.2.2, b1.2.2.1, hb.2.2.2, by omega, ?_, great_ids h2⟩
 simp only [shG, List.any_cons, List.any_nil, Bool.or_eq_false_iff, decide_eq_false_iff_not] at h4
 omega
theorem longB_no {l : List Opd} {n : Int} (hb : ∀ o ∈ l, o.big) (h : longB l n = false) : (l.length : Int) ≤ n ∧ ∀ o ∈ l, o.ok := by
 simp only [longB, Bool.or_eq_false_iff, decide_eq_false_iff_not, List.any_eq_false, Bool.not_eq_true] at h
 exact ⟨by omega, fun o ho => opG_no (hb o ho) (h.2 o ho)⟩
def doS (ms : TS) (c : Nat) (o : Opd) : TS × Nat :=
 if (o.kind == 1) = true then (anch ms c o.p o.now).2
 else if (o.kind == 2) = true then (upd ms c (textP o.p).1 (signP o.ks (textP o.p).1 o.at_).1 o.now).2
 else if (o.kind == 3) = true then (upd ms c o.text o.sig o.now).2
 else if (o.kind == 4) = true then (ms, c)
 else if (o.kind == 5) = true then (delT ms o.id, c)
 else (ms, c)
@[simp] theorem clo_opds {S : Nat → Prop} (l : List Opd) : (∀ a ∈ l, ∀ d ∈ a.cs, Clo S d) ↔ True := by
 simp only [iff_true]
 intro o _ d hd
 simp only [Opd.cs, List.mem_cons, List.not_mem_nil, or_false] at hd
 rcases hd with rfl | rfl | rfl | rfl | rfl | rfl | rfl | rfl | rfl | rfl | rfl | rfl <;> simp
theorem longB_y {l : List Opd} {n : Int} {k : Nat} (hk : k < l.length) (h : opG l[k] = true) : longB l n = true := by
 unfold longB
 rw [List.any_eq_true.2 ⟨_, List.getElem_mem hk, h⟩, Bool.or_true]
theorem opG_1 {o : Opd} (h : greatP o.p = true) : opG o = true := by unfold opG; rw [h]; rfl
theorem opG_2 {o : Opd} (h : greatP o.kp = true) : opG o = true := by unfold opG; rw [h]; simp
theorem opG_3 {o : Opd} (h : decide ((o.text.length : Int) > 800) = true) : opG o = true := by unfold opG; rw [h]; simp
theorem opG_4 {o : Opd} (h : shG [o.sig, o.id] 2 300 = true) : opG o = true := by unfold opG; rw [h]; simp
theorem opG_0 {o : Opd} (h1 : greatP o.p = false) (h2 : greatP o.kp = false) (h3 : decide ((o.text.length : Int) > 800) = false) (h4 : shG [o.sig, o.id] 2 300 = false) : opG o = false := by unfold opG; rw [h1, h2, h3, h4]; rfl
theorem do_1 {ms : TS} {c : Nat} {o : Opd} (h : (o.kind == 1) = true) : doS ms c o = (anch ms c o.p o.now).2 := by unfold doS; rw [if_pos h]
theorem do_2 {ms : TS} {c : Nat} {o : Opd} (h1 : (o.kind == 1) = false) (h : (o.kind == 2) = true) : doS ms c o = (upd ms c (textP o.p).1 (signP o.ks (textP o.p).1 o.at_).1 o.now).2 := by unfold doS; rw [if_neg (by rw [h1]; simp), if_pos h]
theorem do_3 {ms : TS} {c : Nat} {o : Opd} (h1 : (o.kind == 1) = false) (h2 : (o.kind == 2) = false) (h : (o.kind == 3) = true) : doS ms c o = (upd ms c o.text o.sig o.now).2 := by unfold doS; rw [if_neg (by rw [h1]; simp), if_neg (by rw [h2]; simp), if_pos h]
theorem do_4 {ms : TS} {c : Nat} {o : Opd} (h1 : (o.kind == 1) = false) (h2 : (o.kind == 2) = false) (h3 : (o.kind == 3) = false) (h : (o.kind == 4) = true) : doS ms c o = (ms, c) := by unfold doS; rw [if_neg (by rw [h1]; simp), if_neg (by rw [h2]; simp), if_neg (by rw [h3]; simp), if_pos h]
theorem do_5 {ms : TS} {c : Nat} {o : Opd} (h1 : (o.kind == 1) = false) (h2 : (o.kind == 2) = false) (h3 : (o.kind == 3) = false) (h4 : (o.kind == 4) = false) (h : (o.kind == 5) = true) : doS ms c o = (delT ms o.id, c) := by unfold doS; rw [if_neg (by rw [h1]; simp), if_neg (by rw [h2]; simp), if_neg (by rw [h3]; simp), if_neg (by rw [h4]; simp), if_pos h]
theorem do_6 {ms : TS} {c : Nat} {o : Opd} (h1 : (o.kind == 1) = false) (h2 : (o.kind == 2) = false) (h3 : (o.kind == 3) = false) (h4 : (o.kind == 4) = false) (h5 : (o.kind == 5) = false) : doS ms c o = (ms, c) := by unfold doS; rw [if_neg (by rw [h1]; simp), if_neg (by rw [h2]; simp), if_neg (by rw [h3]; simp), if_neg (by rw [h4]; simp), if_neg (by rw [h5]; simp)]
theorem sign_len {l : List Key} {s : List UInt8} {now : Int} (h : ∀ k ∈ l, k.id.length ≤ 300) : (signP l s now).1.length ≤ 400 := by
 unfold signP
 split
 ·simp
 ·rename_i he
  have hm := (sgK_some (l := l) (now := now) (by simpa using he)).2.1
  have := h _ hm
  have := macB_len (sgK l now).sec s
  simp [sigB]
  omega
set_option maxRecDepth 10000
set_option maxHeartbeats 4000000
abbrev s_long : List Nat := [0, 1, 4, 5, 9, 11, 12, 13, 52]
theorem c_long (l : List Opd) (nl : Bool) (hn : l.length ≤ 9223372036854775807) (hnl : nl = true → l = []) (hb : ∀ o ∈ l, o.big) (n : Int) (hn0 : n ≤ 1000) : CallP Pr 25 [.slice 12 nl (l.map Opd.cs) none, .int .i64 n] (.bool (longB l n)) := by
 refine CallP.W Tryz.func25 Tryz.ntmps25 ?_
 simp only [frameOf, Nat.zero_add]
 iterate 3 first | (refine WP.S s_long fun _ z => ?_; simp +decide only [TF, ↓reduceIte]; apply z; clear z) | apply WP.seq
 refine WP.cond rfl (fun q1 => ?_) (fun q1 => ?_)
 ·have hR : longB l n = true := by unfold longB; rw [q1]; rfl
  refine WP.S s_long fun _ z => ?_; simp +decide only [TF, q1, ↓reduceIte]; apply z; clear z
  apply WP.ret
  exact Ends.P rfl (Le.of_eq (by simp +decide only [St.get, W, longB, q1, ↓reduceIte]))
 have hgt := q1
 have hl10 : l.length ≤ 1000 := by have := of_decide_eq_false hgt; omega
 iterate 2 first | (apply WP.skip; show WP ..) | apply WP.seq
 refine WP.S [0, 11, 12] fun _ z => ?_; simp +decide only [TF, q1, ↓reduceIte]; apply z; clear z
 apply WP.block
 refine WP.lp [0, 11] (X := {k : Nat // k ≤ l.length ∧ l.any opG = (l.drop k).any opG}) (fun x => match x with | ⟨(k), _⟩ => [(12, .int .i64 k)]) (fun x => match x with | ⟨(k), _⟩ => []) (fun x => match x with | ⟨(k), _⟩ => l.length - k) (by simp +decide only [W, ↓reduceIte]; rfl) ?_ ⟨(0), ⟨Nat.zero_le _, by simp⟩⟩ ?_
 rotate_left
 ·exact Weak.store (by simp [St.get, lk, W, Le.refl]) (by simp [lk]) (by simp [lk]) (by simp [BClo, lk]) (by simp [lk])
 rintro ⟨k, hk, hI⟩
 dsimp only
 simp only [List.cons_append, List.nil_append]
 iterate 2 first | (refine WP.S s_long fun _ z => ?_; simp +decide only [TF, ↓reduceIte]; apply z; clear z) | apply WP.seq
 refine WP.cond rfl (fun q2 => ?_) (fun q2 => ?_)
 ·have hlt := lt_of_q q2
  have hg : (l.map Opd.cs)[k]? = some [.int .i64 l[k].kind, .str l[k].p.id, .str l[k].p.addr, .slice 6 l[k].p.nk (l[k].p.keys.map Key.cs) none, .int .i64 l[k].p.f, .int .i64 l[k].p.u, .slice 6 l[k].nk (l[k].ks.map Key.cs) none, .str l[k].text, .str l[k].sig, .str l[k].id, .int .i64 l[k].at_, .int .i64 l[k].now] := getM hlt
  have hnf := nl_false hnl hlt
  rw [dropE hlt] at hI
  simp only [List.any_cons] at hI
  have hob := hb _ (List.getElem_mem hlt)
  iterate 4 first | (refine WP.S s_long fun _ z => ?_; simp +decide only [TF, q2, hnf, ↓reduceIte]; apply z; clear z) | (apply WP.skip; show WP ..) | apply WP.block | apply WP.seq
  refine WP.D s_long fun _ z => ?_
  simp +decide only [TF, hg, ↓reduceIte]
  refine CallK.P (c_r_great43 l[k].p hob.1 hob.2.1) rfl rfl ?_
  refine runOps.take 1 fun J hJ => ?_
  simp +decide only [TF, ↓reduceIte]
  refine hJ _ _ ?_; clear hJ J
  refine runOps.part 21 rfl (fun q3 => ?_) (fun q3 => ?_)
  ·have hR := longB_y (n := n) hlt (opG_1 q3)
   simp +decide only [TF, q3, ↓reduceIte]
   refine z _ _ (by kernel_rfl) ?_; clear z
   iterate 2 first | (refine WP.S s_long fun _ z => ?_; simp +decide only [TF, ↓reduceIte]; apply z; clear z) | refine WP.cT ?_
   apply WP.ret
   exact Ends.P rfl (Le.of_eq (by simp_all [St.get, W, longB]))
  simp +decide only [TF, hg, q3, ↓reduceIte]
  refine CallK.P (c_r_great43 l[k].kp hob.2.2.1 hob.2.2.2) rfl rfl ?_
  refine runOps.take 2 fun J hJ => ?_
  simp +decide only [TF, ↓reduceIte]
  refine hJ _ _ ?_; clear hJ J
  refine runOps.part 30 rfl (fun q4 => ?_) (fun q4 => ?_)
  ·have hR := longB_y (n := n) hlt (opG_2 (by assumption))
   simp +decide only [TF, q4, ↓reduceIte]
   refine z _ _ (by kernel_rfl) ?_; clear z
   iterate 2 first | (refine WP.S s_long fun _ z => ?_; simp +decide only [TF, ↓reduceIte]; apply z; clear z) | refine WP.cT ?_
   apply WP.ret
   exact Ends.P rfl (Le.of_eq (by simp_all [St.get, W, longB]))
  refine runOps.take 9 fun J hJ => ?_
  simp +decide only [TF, hg, q4, ↓reduceIte]
  refine hJ _ _ ?_; clear hJ J
  refine runOps.part 39 rfl (fun q5 => ?_) (fun q5 => ?_)
  ·have hR := longB_y (n := n) hlt (opG_3 (by assumption))
   simp +decide only [TF, q5, ↓reduceIte]
   refine z _ _ (by kernel_rfl) ?_; clear z
   iterate 2 first | (refine WP.S s_long fun _ z => ?_; simp +decide only [TF, ↓reduceIte]; apply z; clear z) | refine WP.cT ?_
   apply WP.ret
   exact Ends.P rfl (Le.of_eq (by simp_all [St.get, W, longB]))
  simp +decide only [TF, hg, q5, ↓reduceIte]
  refine CallK.pure (c_r2great [l[k].sig, l[k].id] false 2 300 (by simp) nofun) rfl rfl (by simp [fg]) ?_
  simp +decide only [TF, ↓reduceIte]
  refine z _ _ (by kernel_rfl) ?_; clear z
  refine WP.cond rfl (fun q6 => ?_) (fun q6 => ?_)
  ·have hR := longB_y (n := n) hlt (opG_4 (by assumption))
   refine WP.S s_long fun _ z => ?_; simp +decide only [TF, q6, ↓reduceIte]; apply z; clear z
   apply WP.ret
   exact Ends.P rfl (Le.of_eq (by simp_all [St.get, W, longB]))
  have hO := opG_0 (o := l[k]) (by assumption) (by assumption) (by assumption) (by assumption)
  rw [hO, Bool.false_or] at hI
  iterate 2 first | (refine WP.R fun _ z => ?_; simp +decide only [TF, q6, ↓reduceIte]; apply z; clear z) | (apply WP.skip; show WP ..)
  show ∃ y, _ ∧ Weak _ _ _
  refine ⟨⟨k + 1, ?_⟩, ?_, ?_⟩
  ·exact ⟨by omega, by first | (simpa [q1, hk, q2, hg, hnf, q3, q4, q5, q6] using hI) | (simp_all; done)⟩
  ·dsimp only; omega
  exact Weak.store (by simp [St.get, lk, Le.refl, hnf, wrapS hlt (show l.length ≤ 140737488355328 by omega)]) (by simp [lk]) (by simp [lk]) (by simp [BClo, lk]) (by simp [lk])
 have hge := ge_of_q q2
 rw [dropN hge] at hI
 simp only [List.any_nil] at hI
 iterate 2 first | (refine WP.S s_long fun _ z => ?_; simp +decide only [TF, q2, ↓reduceIte]; apply z; clear z) | (apply WP.exit; show WP ..)
 apply WP.ret
 exact Ends.P rfl (Le.of_eq (by simp +decide only [St.get, W, longB, q1, hI, ↓reduceIte]))
structure TOk (ms : TS) (c : Nat) : Prop where
 ok : TS.ok ms
 keys : (ms.map (·.1)).Nodup
 born : (ms.map (·.2.2)).Nodup
 lt : ∀ e ∈ ms, e.2.2 < c
theorem TOk.es {ms : TS} {c : Nat} (h : TOk ms c) : EsOk (tsE ms, c) := by
 have e1 : (tsE ms).map (·.1) = ms.map (·.1) := by simp [tsE]
 have e2 : (tsE ms).map (·.2.2) = ms.map (·.2.2) := by simp [tsE]
 refine ⟨by show ((tsE ms).map _).Nodup; rw [e1]; exact h.keys, by show ((tsE ms).map _).Nodup; rw [e2]; exact h.born, fun e he => ?_⟩
 obtain ⟨x, hx, rfl⟩ := List.mem_map.1 he
 exact h.lt x hx
theorem TOk.nil : TOk [] 0 := ⟨nil_ok, by simp, by simp, by simp⟩
theorem findT_no : ∀ {ms : TS} {s : List UInt8}, findT ms s = none → s ∉ ms.map (·.1)
 | [], _, _ => by simp
 | (k, p, n) :: ms, s, h => by
  unfold findT at h
  split at h
  ·cases h
  ·rename_i e; simp only [List.map_cons, List.mem_cons, not_or]; exact ⟨e, findT_no h⟩
theorem setT_keys : ∀ (ms : TS) (s : List UInt8) (x : Par), (setT ms s x).map (·.1) = ms.map (·.1)
 | [], _, _ => rfl
 | (k, p, n) :: ms, s, x => by unfold setT; split <;> simp [setT_keys ms s x]
theorem setT_born : ∀ (ms : TS) (s : List UInt8) (x : Par), (setT ms s x).map (·.2.2) = ms.map (·.2.2)
 | [], _, _ => rfl
 | (k, p, n) :: ms, s, x => by unfold setT; split <;> simp [setT_born ms s x]
theorem setT_mem : ∀ {ms : TS} {s : List UInt8} {x : Par} {e}, e ∈ setT ms s x → e ∈ ms ∨ e.2.1 = x
 | [], _, _, _, h => by simp [setT] at h
 | (k, p, n) :: ms, s, x, e, h => by
  unfold setT at h
  split at h
  ·rcases List.mem_cons.1 h with rfl | h
   ·exact .inr rfl
   ·exact .inl (List.mem_cons_of_mem _ h)
  ·rcases List.mem_cons.1 h with rfl | h
   ·exact .inl (by simp)
   ·exact (setT_mem h).imp (List.mem_cons_of_mem _) id
theorem setT_len (ms : TS) (s : List UInt8) (x : Par) : (setT ms s x).length = ms.length := by
 have := congrArg List.length (setT_keys ms s x)
 simpa using this
theorem TOk.put {ms : TS} {c : Nat} (h : TOk ms c) (s : List UInt8) {x : Par} (hx : x.ok ∧ x.keys ≠ []) : TOk (putT ms c s x) (putTC ms c s) ∧ (putT ms c s x).length ≤ ms.length + 1 := by
 unfold putT putTC
 cases hf : findT ms s with
 | some d =>
  refine ⟨⟨fun e he => ?_, by rw [setT_keys]; exact h.keys, by rw [setT_born]; exact h.born, fun e he => ?_⟩, by rw [setT_len]; omega⟩
  ·rcases setT_mem he with he | he
   ·exact h.ok e he
   ·rw [he]; exact hx
  ·have : e.2.2 ∈ (setT ms s x).map (·.2.2) := List.mem_map_of_mem he
   rw [setT_born, List.mem_map] at this
   obtain ⟨y, hy, hye⟩ := this
   rw [← hye]; exact h.lt y hy
 | none =>
  have hn := findT_no hf
  refine ⟨⟨fun e he => ?_, ?_, ?_, fun e he => ?_⟩, by simp⟩
  ·rcases List.mem_append.1 he with he | he
   ·exact h.ok e he
   ·rw [List.mem_singleton.1 he]; exact hx
  ·rw [List.map_append, List.nodup_append]
   exact ⟨h.keys, by simp, fun a ha b hb => by simp at hb; subst hb; exact fun e => hn (e ▸ ha)⟩
  ·rw [List.map_append, List.nodup_append]
   refine ⟨h.born, by simp, fun a ha b hb => ?_⟩
   simp at hb; subst hb
   obtain ⟨y, hy, rfl⟩ := List.mem_map.1 ha
   exact Nat.ne_of_lt (h.lt y hy)
  ·rcases List.mem_append.1 he with he | he
   ·have := h.lt e he; show e.2.2 < c + 1; omega
   ·rw [List.mem_singleton.1 he]; exact Nat.lt_succ_self c
theorem delT_sub : ∀ (ms : TS) (s : List UInt8), (delT ms s).Sublist ms
 | [], _ => .slnil
 | (k, p, n) :: ms, s => by
  unfold delT
  split
  ·exact List.sublist_cons_self _ _
  ·exact (delT_sub ms s).cons_cons _
theorem TOk.del {ms : TS} {c : Nat} (h : TOk ms c) (s : List UInt8) : TOk (delT ms s) c ∧ (delT ms s).length ≤ ms.length + 1 := by
 have hs := delT_sub ms s
 exact ⟨⟨fun e he => h.ok e (hs.subset he), h.keys.sublist (hs.map _), h.born.sublist (hs.map _), fun e he => h.lt e (hs.subset he)⟩, Nat.le_succ_of_le hs.length_le⟩
theorem anch_zero {ms : TS} {p : Par} {t : Int} (h : anchE ms p t = 0) : checkP p = 0 ∧ ¬ p.u ≤ limB t ∧ findT ms p.id = none := by
 unfold anchE at h
 split at h
 ·rename_i h1; simp at h1; exact absurd h h1
 ·rename_i h1
  split at h
  ·cases h
  ·rename_i h2
   split at h
   ·cases h
   ·rename_i h3
    exact ⟨by simpa using h1, by simpa using h2, by simpa using h3⟩
theorem TOk.anch {ms : TS} {c : Nat} (h : TOk ms c) {p : Par} (hp : p.ok) (t : Int) : TOk (anch ms c p t).2.1 (anch ms c p t).2.2 ∧ (anch ms c p t).2.1.length ≤ ms.length + 1 := by
 unfold Go.Proofs.anch
 split
 ·rename_i h0
  obtain ⟨h1, _, _⟩ := anch_zero h0
  exact h.put _ ⟨hp, check_keys (by rw [h1]; rfl)⟩
 ·exact ⟨h, Nat.le_succ _⟩
theorem upd_pars {ms : TS} {text sig : List UInt8} {t : Int} (h : updE ms text sig t = 0) : (pP text).2.2 = 0 ∧ (sgnR sig).2 = true ∧ ∃ a, findT ms (pP text).1.id = some a ∧ (accD a.keys (sgnR sig).1 t 0).2 = 0 ∧ sig = sigB (accD a.keys (sgnR sig).1 t 0).1 text ∧ ¬ (pP text).1.f ≤ a.f := by
 unfold updE at h
 split at h
 ·cases h
 ·rename_i h1
  split at h
  ·cases h
  ·rename_i h2
   split at h
   ·cases h
   ·rename_i a h3
    split at h
    ·rename_i h4; simp at h4; exact absurd h h4
    ·rename_i h4
     split at h
     ·cases h
     ·rename_i h5
      split at h
      ·cases h
      ·rename_i h6
       exact ⟨by simpa using h1, by simpa using h2, a, h3, by simpa using h4, by simpa using h5, by simpa using h6⟩
theorem parse_ok2 {s : List UInt8} (h : (pP s).2.2 = 0) : checkP (pP s).1 = 0 := (parse_textP (s := s) (by rw [h]; rfl)).2
theorem TOk.upd {ms : TS} {c : Nat} (h : TOk ms c) (text sig : List UInt8) (t : Int) : TOk (upd ms c text sig t).2.1 (upd ms c text sig t).2.2 ∧ (upd ms c text sig t).2.1.length ≤ ms.length + 1 := by
 unfold Go.Proofs.upd
 split
 ·rename_i h0
  obtain ⟨h1, _⟩ := upd_pars h0
  exact h.put _ ⟨pP_ok text, check_keys (by rw [parse_ok2 h1]; rfl)⟩
 ·exact ⟨h, Nat.le_succ _⟩
theorem TOk.step {ms : TS} {c : Nat} (h : TOk ms c) {o : Opd} (ho : o.ok) : TOk (doS ms c o).1 (doS ms c o).2 ∧ (doS ms c o).1.length ≤ ms.length + 1 := by
 unfold doS
 split
 ·exact h.anch ho.1 _
 ·split
  ·exact h.upd _ _ _
  ·split
   ·exact h.upd _ _ _
   ·split
    ·exact ⟨h, Nat.le_succ _⟩
    ·split
     ·exact h.del _
     ·exact ⟨h, Nat.le_succ _⟩
theorem ren_ts (f : Nat → Nat) (ms : TS) : (tsE ms).map (fun e => (e.1, renD f e.2.1, e.2.2)) = tsE ms := by
 simp only [tsE, List.map_map]
 refine List.map_congr_left fun e _ => ?_
 simp [renD, Par.cs, renL, ren_keys]
end Go.Proofs
namespace Go.Proofs
open Go Go.Id
def insR (l : List (List UInt8)) (s : List UInt8) : List (List UInt8) := l.filter (fun x => Op.bytesLess x s) ++ [s] ++ l.filter (fun x => Op.bytesLess s x)
theorem insR_mem {l : List (List UInt8)} {s : List UInt8} (x : List UInt8) : x ∈ insR l s ↔ x = s ∨ x ∈ l := by
 unfold insR
 simp only [List.append_assoc, List.mem_append, List.mem_filter, List.mem_singleton]
 constructor
 ·rintro (h | h | h)
  ·exact .inr h.1
  ·exact .inl h
  ·exact .inr h.1
 ·rintro (h | h)
  ·exact .inr (.inl h)
  ·rcases bl_tri x s with q | q | q
   ·exact .inl ⟨h, q⟩
   ·exact .inr (.inl q)
   ·exact .inr (.inr ⟨h, q⟩)
theorem insR_asc {l : List (List UInt8)} (s : List UInt8) (ha : Asc l) : Asc (insR l s) := by
 have f : ∀ p, Asc (l.filter p) := fun p => List.Pairwise.filter p ha
 refine List.pairwise_append.2 ⟨List.pairwise_append.2 ⟨f _, by simp, fun a h b hb => ?_⟩, f _, fun a h b hb => ?_⟩
 ·simp only [List.mem_filter, List.mem_singleton] at h hb; subst hb; exact h.2
 ·simp only [List.mem_append, List.mem_filter, List.mem_singleton] at h hb
  rcases h with h | rfl
  ·exact bl_trans _ _ _ h.2 hb.2
  ·exact hb.2
theorem insR_len {l : List (List UInt8)} {s : List UInt8} (ha : Asc l) : (insR l s).length ≤ l.length + 1 := by
 unfold insR
 have : ∀ l : List (List UInt8), (l.filter (fun x => Op.bytesLess x s)).length + (l.filter (fun x => Op.bytesLess s x)).length ≤ l.length := by
  intro l
  induction l with
  | nil => simp
  | cons a l ih =>
   cases h1 : Op.bytesLess a s
   ·cases h2 : Op.bytesLess s a <;> simp [h1, h2] <;> omega
   ·simp [h1, bl_asymm _ _ h1]; omega
 have := this l
 simp; omega
theorem insR_split {o : List (List UInt8)} {s : List UInt8} {j : Nat} (h1 : ∀ x ∈ o.take j, Op.bytesLess x s = true) (h2 : ∀ x ∈ o.drop j, Op.bytesLess x s = false) : insR o s = o.take j ++ [s] ++ (o.drop j).filter (fun x => Op.bytesLess s x) := by
 unfold insR
 have e : ∀ p : List UInt8 → Bool, o.filter p = (o.take j).filter p ++ (o.drop j).filter p := fun p => by rw [← List.filter_append, List.take_append_drop]
 rw [e, e (fun x => Op.bytesLess s x), List.filter_eq_self.2 h1, List.filter_eq_nil_iff.2 (fun x hx => by rw [h2 x hx]; simp), List.append_nil, List.filter_eq_nil_iff.2 (fun x hx => by rw [bl_asymm _ _ (h1 x hx)]; simp), List.nil_append]
theorem insR_end {o : List (List UInt8)} {s : List UInt8} {j : Nat} (h1 : ∀ x ∈ o.take j, Op.bytesLess x s = true) (hj : o.length ≤ j) : insR o s = o.take j ++ [s] ++ o.drop j := by
 rw [insR_split h1 (by rw [List.drop_eq_nil_of_le hj]; simp), List.drop_eq_nil_of_le hj]; rfl
theorem drop_ge {o : List (List UInt8)} {s : List UInt8} {j : Nat} (ha : Asc o) (hj : j < o.length) (h : Op.bytesLess o[j] s = false) : ∀ x ∈ o.drop j, Op.bytesLess x s = false := by
 rw [dropE hj]
 intro x hx
 rcases List.mem_cons.1 hx with rfl | hx
 ·exact h
 ·have hp : Asc (o.drop j) := List.Pairwise.sublist (List.drop_sublist j o) ha
  rw [dropE hj] at hp
  have := hp.head x hx
  cases hb : Op.bytesLess x s
  ·rfl
  ·have := bl_trans _ _ _ this hb
   rw [h] at this; cases this
theorem insR_eqv {o : List (List UInt8)} {s : List UInt8} {j : Nat} (ha : Asc o) (h1 : ∀ x ∈ o.take j, Op.bytesLess x s = true) (hj : j < o.length) (h : Op.bytesLess o[j] s = false) (he : (o[j] == s) = true) : insR o s = o := by
 have he' : o[j] = s := by simpa using he
 have hp : Asc (o.drop j) := List.Pairwise.sublist (List.drop_sublist j o) ha
 rw [dropE hj] at hp
 rw [insR_split h1 (drop_ge ha hj h), dropE hj, List.filter_cons_of_neg (by rw [he', bl_irrefl]; simp), List.filter_eq_self.2 (fun x hx => by rw [← he']; exact hp.head x hx), ← he', List.append_assoc]
 show o.take j ++ (o[j] :: o.drop (j + 1)) = o
 rw [← dropE hj, List.take_append_drop]
theorem insR_mid {o : List (List UInt8)} {s : List UInt8} {j : Nat} (ha : Asc o) (h1 : ∀ x ∈ o.take j, Op.bytesLess x s = true) (hj : j < o.length) (h : Op.bytesLess o[j] s = false) (he : (o[j] == s) = false) : insR o s = o.take j ++ [s] ++ o.drop j := by
 have he' : o[j] ≠ s := by simpa using he
 have hs : Op.bytesLess s o[j] = true := by
  rcases bl_tri o[j] s with q | q | q
  ·rw [h] at q; cases q
  ·exact absurd q he'
  ·exact q
 have hp : Asc (o.drop j) := List.Pairwise.sublist (List.drop_sublist j o) ha
 rw [dropE hj] at hp
 rw [insR_split h1 (drop_ge ha hj h), List.filter_eq_self.2]
 intro x hx
 rw [dropE hj] at hx
 rcases List.mem_cons.1 hx with rfl | hx
 ·exact hs
 ·exact bl_trans _ _ _ hs (hp.head x hx)
def ascL (l : List (List UInt8)) : List (List UInt8) := l.foldl insR []
theorem ascL_go : ∀ (l o : List (List UInt8)), Asc o → Asc (l.foldl insR o) ∧ ∀ x, x ∈ l.foldl insR o ↔ x ∈ o ∨ x ∈ l
 | [], o, h => ⟨h, by simp⟩
 | s :: l, o, h => by
  obtain ⟨h1, h2⟩ := ascL_go l (insR o s) (insR_asc s h)
  exact ⟨h1, fun x => by rw [List.foldl_cons, h2, insR_mem, List.mem_cons, or_comm (a := x = s), or_assoc]⟩
theorem ascL_sort {l : List (List UInt8)} (h : l.Nodup) : ascL l = sortS l := by
 obtain ⟨h1, h2⟩ := ascL_go l [] List.Pairwise.nil
 exact (sortS_ext h h1 fun x => by have := h2 x; simp only [List.not_mem_nil, false_or] at this; exact this.symm).symm
theorem isE_f {α : Type} {o : List α} {j : Nat} (h : j < o.length) : o.isEmpty = false := by cases o with
 | nil => simp at h
 | cons => rfl
theorem tkm (o : List (List UInt8)) : List.take o.length (o.map fun x => [D.str x]) = o.map fun x => [D.str x] := List.take_of_length_le (by simp)
theorem isEA {α : Type} (a : List α) (x : α) : (a ++ [x]).isEmpty = false := by cases a <;> rfl
theorem sortS_isE {α : Type} (l : List α) (f : α → List UInt8) : (sortS (l.map f)).isEmpty = l.isEmpty := by
 rw [Bool.eq_iff_iff, List.isEmpty_iff_length_eq_zero, List.isEmpty_iff_length_eq_zero, sortS_len, List.length_map]
theorem rhF_58 : ∀ (s : List UInt8) (n : Int), (58 : UInt8) ∈ s → rhF n s = none
 | c :: s, n, h => by
  unfold rhF
  split
  ·rfl
  ·rename_i hc
   refine rhF_58 s _ ?_
   rcases List.mem_cons.1 h with h | h
   ·subst h; exact absurd (by decide : hv 58 < 0) hc
   ·exact h
theorem rdH_len {s : List UInt8} (h : ((rdH s).2 == 0) = true) : s.length = 16 ∧ (58 : UInt8) ∉ s := by
 by_cases hl : s.length = 16
 ·refine ⟨hl, fun hm => ?_⟩
  rw [rdH_none (rhF_58 s 0 hm)] at h
  cases h
 ·rw [rdH_no hl] at h; cases h
def sgnF (s : List UInt8) : List UInt8 × Bool :=
 if s.length < 17 then ([], false) else if s[s.length - 17]? = some 58 ∧ wordB (s.take (s.length - 17)) = true then (s.take (s.length - 17), (rdH (s.drop (s.length - 17 + 1))).2 == 0) else ([], false)
theorem sgnF_no {s : List UInt8} (h : s.length < 17) : sgnF s = ([], false) := by unfold sgnF; rw [if_pos h]
theorem sgnF_c {s : List UInt8} {k : Nat} {c : UInt8} (h : s.length = k + 17) (hc : s[k]? = some c) (hn : ((c.toNat : Int) != 58) = true) : sgnF s = ([], false) := by
 unfold sgnF
 rw [if_neg (by omega), if_neg]
 rintro ⟨h1, _⟩
 have : s.length - 17 = k := by omega
 rw [this, hc] at h1
 cases h1
 simp at hn
theorem sgnF_w {s : List UInt8} {k : Nat} (h : s.length = k + 17) (hw : wordB (s.take k) = false) : sgnF s = ([], false) := by
 unfold sgnF
 have : s.length - 17 = k := by omega
 rw [if_neg (by omega), this, if_neg (by rw [hw]; simp)]
theorem sgnF_y {s : List UInt8} {k : Nat} {c : UInt8} (h : s.length = k + 17) (hc : s[k]? = some c) (hn : ((c.toNat : Int) != 58) = false) (hw : wordB (s.take k) = true) : sgnF s = (s.take k, (rdH (s.drop (k + 1))).2 == 0) := by
 unfold sgnF
 have e : s.length - 17 = k := by omega
 have hc58 : c = 58 := by
  have h58 : (c.toNat : Int) = 58 := by simpa using hn
  exact UInt8.toNat_inj.1 (by have : UInt8.toNat 58 = 58 := rfl; omega)
 rw [if_neg (by omega), e, if_pos ⟨by rw [hc, hc58], hw⟩]
theorem sgnF_flag (s : List UInt8) : ((sgnR s).2 = true → sgnF s = sgnR s) ∧ ((sgnF s).2 = true → sgnF s = sgnR s) := by
 constructor
 ·intro h
  rcases last_cases s with ⟨h1, _⟩ | ⟨i, hi, h1, h2, h3⟩
  ·rw [sgn_no h1] at h; cases h
  ·cases hw : wordB (s.take i) with
   | false => rw [sgn_w h1 hw] at h; cases h
   | true =>
    rw [sgn_y h1 hw] at h ⊢
    have hl := (rdH_len h).1
    rw [List.length_drop] at hl
    have hc : s[i]? = some 58 := by
     have hm : (s.take i).length = i := by rw [List.length_take]; omega
     rw [h2, List.getElem?_append_right (by rw [hm]; exact Nat.le_refl i), hm, Nat.sub_self]
     rfl
    exact sgnF_y (by omega) hc (by rfl) hw
 ·intro h
  unfold sgnF at h
  split at h
  ·cases h
  ·rename_i hl
   split at h
   ·rename_i hc
    obtain ⟨hc, hw⟩ := hc
    generalize hk : s.length - 17 = k at h hc hw
    have hkl : s.length = k + 17 := by omega
    rw [sgnF_y hkl hc (by rfl) hw]
    obtain ⟨hd, hn⟩ := rdH_len h
    have hs : s = s.take k ++ 58 :: s.drop (k + 1) := by
     have := List.take_append_drop k s
     have hlt : k < s.length := by omega
     rw [List.getElem?_eq_getElem hlt] at hc
     rw [List.drop_eq_getElem_cons hlt, Option.some.inj hc] at this
     exact this.symm
    have e := sgn_of (l := s.take k) (r := s.drop (k + 1)) hn
    rw [← hs, if_pos hw] at e
    exact e.symm
   ·cases h
theorem sgnF_eq (s : List UInt8) : (sgnF s).2 = (sgnR s).2 := by
 obtain ⟨h1, h2⟩ := sgnF_flag s
 cases ha : (sgnR s).2 with
 | true => rw [h1 ha, ha]
 | false =>
  cases hb : (sgnF s).2 with
  | false => rfl
  | true => rw [h2 hb, ha] at hb; cases hb
def tsR (ms : TS) : List (List D) := ms.map fun e => e.2.1.cs
def TKey (ms : TS) : Prop := ∀ e ∈ ms, e.2.1.id = e.1
def posT : TS → List UInt8 → Nat
 | [], _ => 0
 | e :: ms, s => if e.2.1.id = s then 0 else posT ms s + 1
theorem posT_cons (e : List UInt8 × Par × Nat) (ms : TS) (s : List UInt8) : posT (e :: ms) s = if e.2.1.id = s then 0 else posT ms s + 1 := rfl
def fndT (ms : TS) (s : List UInt8) : Int := if posT ms s < ms.length then (posT ms s : Int) else -1
theorem posT_hit {ms : TS} {s : List UInt8} {k : Nat} (hk : k < ms.length) (hI : posT ms s = k + posT (ms.drop k) s) (h : (ms[k].2.1.id == s) = true) : fndT ms s = k := by
 rw [dropE hk] at hI
 rw [posT_cons] at hI
 rw [if_pos (by simpa using h)] at hI
 unfold fndT
 rw [if_pos (by omega)]
 omega
theorem posT_next {ms : TS} {s : List UInt8} {k : Nat} (hk : k < ms.length) (hI : posT ms s = k + posT (ms.drop k) s) (h : (ms[k].2.1.id == s) = false) : posT ms s = (k + 1) + posT (ms.drop (k + 1)) s := by
 rw [dropE hk] at hI
 rw [posT_cons] at hI
 rw [if_neg (by simpa using h)] at hI
 omega
theorem posT_end {ms : TS} {s : List UInt8} {k : Nat} (hk : ms.length ≤ k) (hI : posT ms s = k + posT (ms.drop k) s) : fndT ms s = -1 := by
 unfold fndT
 rw [if_neg (by omega)]
theorem findT_pos : ∀ {ms : TS}, TKey ms → ∀ (s : List UInt8), (findT ms s = none ∧ posT ms s = ms.length) ∨ ∃ a n i, findT ms s = some a ∧ posT ms s = i ∧ ms[i]? = some (s, a, n) ∧ i < ms.length
 | [], _, s => .inl ⟨rfl, rfl⟩
 | (k, p, n) :: ms, h, s => by
  have hk : p.id = k := h (k, p, n) (by simp)
  unfold findT posT
  by_cases e : s = k
  ·subst e
   rw [if_pos rfl, if_pos hk]
   exact .inr ⟨p, n, 0, rfl, rfl, rfl, by simp⟩
  ·rw [if_neg e, if_neg (by show ¬ p.id = s; rw [hk]; exact fun q => e q.symm)]
   rcases findT_pos (fun e he => h e (List.mem_cons_of_mem _ he)) s with ⟨h1, h2⟩ | ⟨a, m, i, h1, h2, h3, h4⟩
   ·exact .inl ⟨h1, by rw [h2]; rfl⟩
   ·exact .inr ⟨a, m, i + 1, h1, by rw [h2], by simpa using h3, by simpa using h4⟩
theorem find_two {ms : TS} (h : TKey ms) (s : List UInt8) : (findT ms s = none ∧ fndT ms s = -1) ∨ ∃ (a : Par) (i : Nat), findT ms s = some a ∧ fndT ms s = (i : Int) ∧ ∃ hi : i < ms.length, (ms[i]'hi).2.1 = a ∧ posT ms s = i := by
 rcases findT_pos h s with ⟨h1, h2⟩ | ⟨a, n, i, h1, h2, h3, h4⟩
 ·exact .inl ⟨h1, by unfold fndT; rw [if_neg (by omega)]⟩
 ·refine .inr ⟨a, i, h1, by unfold fndT; rw [if_pos (by omega), h2], h4, ?_, h2⟩
  rw [List.getElem?_eq_getElem h4] at h3
  rw [Option.some.inj h3]
theorem tsR_len (ms : TS) : (tsR ms).length = ms.length := by simp [tsR]
theorem tsR_get {ms : TS} {k : Nat} (hk : k < ms.length) : (tsR ms)[k]? = some [.str ms[k].2.1.id, .str ms[k].2.1.addr, .slice 6 ms[k].2.1.nk (ms[k].2.1.keys.map Key.cs) none, .int .i64 ms[k].2.1.f, .int .i64 ms[k].2.1.u] := getM hk
theorem tsR_flen (ms : TS) : (tsR ms).flatten.length = ms.length * 5 := by
 have := flat_len (tsR ms) (sz := 5) (by intro x hx; obtain ⟨e, _, rfl⟩ := List.mem_map.1 hx; rfl)
 rw [this, tsR_len]
theorem tsR_drop {ms : TS} : ∀ {k : Nat} (hk : k < ms.length), (tsR ms).flatten.drop (k * 5) = ms[k].2.1.cs ++ (tsR (ms.drop (k + 1))).flatten := by
 induction ms with
 | nil => intro k hk; simp at hk
 | cons e ms ih =>
  intro k hk
  cases k with
  | zero => simp [tsR]
  | succ k =>
   have hk' : k < ms.length := by simpa using hk
   have e1 : (tsR (e :: ms)).flatten = e.2.1.cs ++ (tsR ms).flatten := rfl
   have e2 : (k + 1) * 5 = e.2.1.cs.length + k * 5 := by show _ = 5 + k * 5; omega
   rw [e1, e2, ← List.drop_drop, List.drop_left, ih hk']
   rfl
theorem tsR_dropj {ms : TS} {k : Nat} (hk : k < ms.length) (j : Nat) (hj : j ≤ 5) : (tsR ms).flatten.drop (k * 5 + j) = ms[k].2.1.cs.drop j ++ (tsR (ms.drop (k + 1))).flatten := by
 rw [← List.drop_drop, tsR_drop hk, List.drop_append_of_le_length (by exact hj)]
theorem setT_pos : ∀ {ms : TS} {s : List UInt8} {x : Par}, TKey ms → posT ms s < ms.length → (tsR ms).flatten.take (posT ms s * 5) ++ (x.cs ++ (tsR ms).flatten.drop (posT ms s * 5 + 5)) = (tsR (setT ms s x)).flatten
 | [], s, x, _, h => by simp [posT] at h
 | (k, p, n) :: ms, s, x, hk, h => by
  have hid : p.id = k := hk (k, p, n) (by simp)
  have e1 : (tsR ((k, p, n) :: ms)).flatten = p.cs ++ (tsR ms).flatten := rfl
  have e5 : p.cs.length = 5 := rfl
  unfold setT
  by_cases e : s = k
  ·subst e
   have : posT ((s, p, n) :: ms) s = 0 := by unfold posT; rw [if_pos hid]
   rw [this, if_pos rfl, e1]
   show [] ++ (x.cs ++ List.drop 5 (p.cs ++ _)) = x.cs ++ _
   rw [← e5, List.drop_left]; rfl
  ·have hp : posT ((k, p, n) :: ms) s = posT ms s + 1 := by
    show (if p.id = s then 0 else posT ms s + 1) = _
    rw [if_neg (by rw [hid]; exact fun q => e q.symm)]
   rw [hp] at h ⊢
   rw [if_neg e, e1]
   have ih := setT_pos (ms := ms) (s := s) (x := x) (fun e he => hk e (List.mem_cons_of_mem _ he)) (by simpa using h)
   show _ = p.cs ++ (tsR (setT ms s x)).flatten
   have a1 : (posT ms s + 1) * 5 = p.cs.length + posT ms s * 5 := by rw [e5]; omega
   have a2 : (posT ms s + 1) * 5 + 5 = p.cs.length + (posT ms s * 5 + 5) := by rw [e5]; omega
   rw [a2, a1, List.take_length_add_append, ← List.drop_drop, List.drop_left, ← ih, List.append_assoc]
theorem delT_pos : ∀ {ms : TS} {s : List UInt8}, TKey ms → posT ms s < ms.length → (tsR ms).take (posT ms s) ++ (tsR ms).drop (posT ms s + 1) = tsR (delT ms s)
 | [], s, _, h => by simp [posT] at h
 | (k, p, n) :: ms, s, hk, h => by
  have hid : p.id = k := hk (k, p, n) (by simp)
  unfold delT
  by_cases e : s = k
  ·subst e
   have : posT ((s, p, n) :: ms) s = 0 := by unfold posT; rw [if_pos hid]
   rw [this, if_pos rfl]
   rfl
  ·have hp : posT ((k, p, n) :: ms) s = posT ms s + 1 := by
    show (if p.id = s then 0 else posT ms s + 1) = _
    rw [if_neg (by rw [hid]; exact fun q => e q.symm)]
   rw [hp] at h ⊢
   rw [if_neg e]
   have ih := delT_pos (ms := ms) (s := s) (fun e he => hk e (List.mem_cons_of_mem _ he)) (by simpa using h)
   show p.cs :: (List.take (posT ms s) (tsR ms) ++ List.drop (posT ms s + 1) (tsR ms)) = p.cs :: tsR (delT ms s)
   rw [ih]
theorem putT_new {ms : TS} {c : Nat} {s : List UInt8} {x : Par} (h : findT ms s = none) : tsR (putT ms c s x) = tsR ms ++ [x.cs] := by
 unfold putT; rw [h]; simp [tsR]
theorem putT_old {ms : TS} {c : Nat} {s : List UInt8} {x a : Par} (h : findT ms s = some a) : putT ms c s x = setT ms s x := by
 unfold putT; rw [h]
theorem tsR_ids {ms : TS} (h : TKey ms) : ms.map (fun e => e.2.1.id) = ms.map (·.1) := List.map_congr_left fun e he => h e he
theorem TKey.del {ms : TS} (h : TKey ms) (s : List UInt8) : TKey (delT ms s) := fun e he => h e ((delT_sub ms s).subset he)
theorem setT_key : ∀ {ms : TS} {x : Par}, TKey ms → TKey (setT ms x.id x)
 | [], x, _ => by intro e he; simp [setT] at he
 | (k, p, n) :: ms, x, h => by
  unfold setT
  have ht : TKey ms := fun e he => h e (List.mem_cons_of_mem _ he)
  split
  ·rename_i e
   intro y hy
   rcases List.mem_cons.1 hy with rfl | hy
   ·exact e
   ·exact ht y hy
  ·intro y hy
   rcases List.mem_cons.1 hy with rfl | hy
   ·exact h (k, p, n) (by simp)
   ·exact setT_key ht y hy
theorem TKey.put {ms : TS} (h : TKey ms) (c : Nat) (x : Par) : TKey (putT ms c x.id x) := by
 unfold putT
 split
 ·exact setT_key h
 ·intro e he
  rcases List.mem_append.1 he with he | he
  ·exact h e he
  ·rw [List.mem_singleton.1 he]
theorem TKey.nil : TKey [] := fun e he => by cases he
theorem TKey.step {ms : TS} {c : Nat} (h : TKey ms) (o : Opd) : TKey (doS ms c o).1 := by
 have ha : TKey (anch ms c o.p o.now).2.1 := by unfold anch; split; exact h.put c o.p; exact h
 have hu : ∀ t s : List UInt8, TKey (upd ms c t s o.now).2.1 := fun t s => by unfold upd; split; exact h.put c _; exact h
 unfold doS
 split
 ·exact ha
 ·split
  ·exact hu _ _
  ·split
   ·exact hu _ _
   ·split
    ·exact h
    ·split
     ·exact h.del _
     ·exact h
@[simp] theorem clo_tsR {S : Nat → Prop} (ms : TS) : (∀ a ∈ tsR ms, ∀ d ∈ a, Clo S d) ↔ True := by
 simp only [iff_true]
 intro a ha d hd
 obtain ⟨e, _, rfl⟩ := List.mem_map.1 ha
 simp only [Par.cs, List.mem_cons, List.not_mem_nil, or_false] at hd
 rcases hd with rfl | rfl | rfl | rfl | rfl <;> simp
@[simp] theorem clo_tsF {S : Nat → Prop} (ms : TS) : (∀ (d : D) (x : List D), x ∈ tsR ms → d ∈ x → Clo S d) ↔ True := by
 simp only [iff_true]
 exact fun d x hx hd => (clo_tsR ms).2 trivial x hx d hd
set_option maxRecDepth 10000
set_option maxHeartbeats 4000000
abbrev s_r_find : List Nat := [0, 1, 4, 5, 12, 24]
theorem c_r_find (ms : TS) (nl : Bool) (hnl : nl = true → ms = []) (hln : ms.length ≤ 1000) (s : List UInt8) : CallE Pr 109 [.ref 1 0, .str s] [(0, .tip 26 5 ms.length), (1, .box 95 [.slice 5 nl (tsR ms) (some 0)])] (.int .i64 (fndT ms s)) [(0, .tip 26 5 ms.length), (1, .box 95 [.slice 5 nl (tsR ms) (some 0)])] := by
 refine CallE.of_wp Tryz.func109 rfl (by kernel_rfl) Tryz.ntmps109 (by simp) ?_
 simp only [frameOf, Nat.zero_add, List.map_cons, List.map_nil]
 iterate 2 first | (refine WP.S s_r_find fun _ z => ?_; simp +decide only [TF, ↓reduceIte]; apply z; clear z) | apply WP.seq
 refine WP.S [0, 1, 5] fun _ z => ?_; simp +decide only [TF, ↓reduceIte]; apply z; clear z
 apply WP.block
 refine WP.lp [0, 1] (X := {k : Nat // k ≤ ms.length ∧ posT ms s = k + posT (ms.drop k) s}) (fun x => match x with | ⟨(k), _⟩ => [(5, .int .i64 k)]) (fun x => match x with | ⟨(k), _⟩ => [(0, .tip 26 5 ms.length), (1, .box 95 [.slice 5 nl (tsR ms) (some 0)])]) (fun x => match x with | ⟨(k), _⟩ => ms.length - k) (by simp +decide only [W, ↓reduceIte]; rfl) ?_ ⟨(0), ⟨Nat.zero_le _, by simp⟩⟩ ?_
 rotate_left
 ·exact Weak.store (by simp [St.get, lk, W, Le.refl, W]) (by simp [lk]) (by simp [lk]) (by simp [BClo, lk]) (by simp [lk])
 rintro ⟨k, ⟨hk, hI⟩⟩
 dsimp only
 simp only [List.cons_append, List.nil_append]
 iterate 2 first | (refine WP.S s_r_find fun _ z => ?_; simp +decide only [TF, tsR_len, ↓reduceIte]; apply z; clear z) | apply WP.seq
 refine WP.cond rfl (fun q1 => ?_) (fun q1 => ?_)
 ·have hlt := lt_of_q q1
  have hg := tsR_get hlt
  have hnf := nl_false hnl hlt
  iterate 4 first | (refine WP.S s_r_find fun _ z => ?_; simp +decide only [TF, q1, hg, hnf, ↓reduceIte]; apply z; clear z) | (apply WP.skip; show WP ..) | apply WP.block | apply WP.seq
  refine WP.cond rfl (fun q2 => ?_) (fun q2 => ?_)
  ·have hR := posT_hit hlt hI q2
   refine WP.S s_r_find fun _ z => ?_; simp +decide only [TF, q2, ↓reduceIte]; apply z; clear z
   apply WP.ret
   refine Ends.imp (.inr rfl) rfl (Le.of_eq (by simp +decide only [St.get, W, hR, ↓reduceIte])) ?_ ?_ ?_
   ·simp
   ·simp [lk, BClo, hnf]
   simp [lk]
  iterate 2 first | (refine WP.R fun _ z => ?_; simp +decide only [TF, q2, ↓reduceIte]; apply z; clear z) | (apply WP.skip; show WP ..)
  show ∃ y, _ ∧ Weak _ _ _
  refine ⟨⟨k + 1, ?_⟩, ?_, ?_⟩
  ·exact ⟨by omega, posT_next hlt hI q2⟩
  ·dsimp only; omega
  exact Weak.store (by simp [St.get, lk, Le.refl, wrapS hlt (show ms.length ≤ 140737488355328 by omega)]) (by simp [lk, hnf]) (by simp [lk]) (by simp [BClo, lk]) (by simp [lk])
 have hge := ge_of_q q1
 have hR := posT_end hge hI
 iterate 2 first | (refine WP.S s_r_find fun _ z => ?_; simp +decide only [TF, q1, ↓reduceIte]; apply z; clear z) | (apply WP.exit; show WP ..)
 apply WP.ret
 refine Ends.imp (.inr rfl) rfl (Le.of_eq (by simp +decide only [St.get, W, hR, ↓reduceIte])) ?_ ?_ ?_
 ·simp
 ·simp [lk, BClo]
 simp [lk]
abbrev s_r_findA : List Nat := [0, 1, 4, 5, 12, 24]
theorem c_r_findA (ms : TS) (hln : ms.length ≤ 1000) (s : List UInt8) : CallE Pr 109 [.ref 1 0, .str s] [(0, .arr 26 (tsR ms).flatten), (1, .box 95 [.arr 0 5 ms.length])] (.int .i64 (fndT ms s)) [(0, .arr 26 (tsR ms).flatten), (1, .box 95 [.arr 0 5 ms.length])] := by
 refine CallE.of_wp Tryz.func109 rfl (by kernel_rfl) Tryz.ntmps109 (by simp) ?_
 simp only [frameOf, Nat.zero_add, List.map_cons, List.map_nil]
 iterate 2 first | (refine WP.S s_r_findA fun _ z => ?_; simp +decide only [TF, ↓reduceIte]; apply z; clear z) | apply WP.seq
 refine WP.S [0, 1, 5] fun _ z => ?_; simp +decide only [TF, ↓reduceIte]; apply z; clear z
 apply WP.block
 refine WP.lp [0, 1] (X := {k : Nat // k ≤ ms.length ∧ posT ms s = k + posT (ms.drop k) s}) (fun x => match x with | ⟨(k), _⟩ => [(5, .int .i64 k)]) (fun x => match x with | ⟨(k), _⟩ => [(0, .arr 26 (tsR ms).flatten), (1, .box 95 [.arr 0 5 ms.length])]) (fun x => match x with | ⟨(k), _⟩ => ms.length - k) (by simp +decide only [W, ↓reduceIte]; rfl) ?_ ⟨(0), ⟨Nat.zero_le _, by simp⟩⟩ ?_
 rotate_left
 ·exact Weak.store (by simp [St.get, lk, W, Le.refl, W]) (by simp [lk]) (by simp [lk]) (by simp [BClo, lk]) (by simp [lk])
 rintro ⟨k, ⟨hk, hI⟩⟩
 dsimp only
 simp only [List.cons_append, List.nil_append]
 iterate 2 first | (refine WP.S s_r_findA fun _ z => ?_; simp +decide only [TF, ↓reduceIte]; apply z; clear z) | apply WP.seq
 refine WP.cond rfl (fun q1 => ?_) (fun q1 => ?_)
 ·have hlt := lt_of_q q1
  have hD : (tsR ms).flatten.drop (k * 5) = _ := tsR_drop hlt
  iterate 4 first | (refine WP.S s_r_findA fun _ z => ?_; simp +decide only [TF, q1, hD, hlt, Par.cs, ↓reduceIte]; apply z; clear z) | (apply WP.skip; show WP ..) | apply WP.block | apply WP.seq
  refine WP.cond rfl (fun q2 => ?_) (fun q2 => ?_)
  ·have hR := posT_hit hlt hI q2
   refine WP.S s_r_findA fun _ z => ?_; simp +decide only [TF, q2, ↓reduceIte]; apply z; clear z
   apply WP.ret
   refine Ends.imp (.inr rfl) rfl (Le.of_eq (by simp +decide only [St.get, W, hR, ↓reduceIte])) ?_ ?_ ?_
   ·simp
   ·simp [lk, BClo]
   simp [lk]
  iterate 2 first | (refine WP.R fun _ z => ?_; simp +decide only [TF, q2, ↓reduceIte]; apply z; clear z) | (apply WP.skip; show WP ..)
  show ∃ y, _ ∧ Weak _ _ _
  refine ⟨⟨k + 1, ?_⟩, ?_, ?_⟩
  ·exact ⟨by omega, posT_next hlt hI q2⟩
  ·dsimp only; omega
  exact Weak.store (by simp [St.get, lk, Le.refl, wrapS hlt (show ms.length ≤ 140737488355328 by omega)]) (by simp [lk]) (by simp [lk]) (by simp [BClo, lk]) (by simp [lk])
 have hge := ge_of_q q1
 have hR := posT_end hge hI
 iterate 2 first | (refine WP.S s_r_findA fun _ z => ?_; simp +decide only [TF, q1, ↓reduceIte]; apply z; clear z) | (apply WP.exit; show WP ..)
 apply WP.ret
 refine Ends.imp (.inr rfl) rfl (Le.of_eq (by simp +decide only [St.get, W, hR, ↓reduceIte])) ?_ ?_ ?_
 ·simp
 ·simp [lk, BClo]
 simp [lk]
theorem c_r_new43 : CallE Pr 26 [] [] (.ref 0 0) [(0, .box 95 [.slice 0 true [] none])] := by
 refine CallE.of_wp Tryz.func26 rfl (by kernel_rfl) Tryz.ntmps26 (by simp) ?_
 simp only [frameOf, List.map_nil]
 iterate 2 (refine WP.S [0] fun _ z => ?_; simp +decide only [TF, ↓reduceIte]; apply z; clear z)
 apply WP.ret
 refine Ends.imp (.inr rfl) rfl (Le.of_eq (by simp +decide only [St.get, W, ↓reduceIte])) ?_ ?_ ?_
 ·simp [lk]
 ·simp [lk, BClo]
 simp [lk]
theorem c_r_signer43 (s : List UInt8) (hs : s.length ≤ 1099511627776) : CallP Pr 110 [.str s] (.tup [.str (sgnF s).1, .bool (sgnF s).2]) := by
 refine CallP.W Tryz.func110 Tryz.ntmps110 ?_
 simp only [frameOf]
 refine WP.S [0, 2, 3, 4, 6, 24] fun _ z => ?_; simp +decide only [TF, ↓reduceIte]; apply z; clear z
 rcases Nat.lt_or_ge s.length 17 with h | h
 ·have hw : IntKind.wrap .i64 ((s.length : Int) - 17) = (s.length : Int) - 17 := wrap_i64 (by omega) (by omega)
  have hn : decide ((s.length : Int) - 17 < 0) = true := decide_eq_true (by omega)
  have hR := sgnF_no h
  iterate 5 first | (refine WP.S [0, 2, 3, 4, 6, 24] fun _ z => ?_; simp +decide only [TF, hw, hn, ↓reduceIte]; apply z; clear z) | refine WP.cT ?_ | apply WP.seq
  apply WP.ret
  exact Ends.P (d := .tup [_, _]) rfl (Le.of_eq (by simp +decide only [St.get, lk, W, hR, ↓reduceIte]))
 obtain ⟨k, hk⟩ : ∃ k, s.length = k + 17 := ⟨s.length - 17, by omega⟩
 have hw : IntKind.wrap .i64 ((s.length : Int) - 17) = (k : Int) := by rw [hk]; exact (wrap_i64 (by omega) (by omega)).trans (by omega)
 have hn : decide ((k : Int) < 0) = false := decide_eq_false (by omega)
 have hkl : k < s.length := by omega
 have hc : s[k]? = some s[k] := getE hkl
 have hk1 : k ≤ s.length := by omega
 have hk2 : k + 1 ≤ s.length := by omega
 have hwk : IntKind.wrap .i64 ((k : Int) + 1) = ((k + 1 : Nat) : Int) := by rw [wrap_i64 (by omega) (by omega)]; rfl
 iterate 2 first | (refine WP.S [0, 2, 3, 4, 6, 24] fun _ z => ?_; simp +decide only [TF, hw, ↓reduceIte]; apply z; clear z) | apply WP.seq
 refine WP.S [0, 2, 3, 4, 6, 24] fun _ z => ?_
 refine runOps.take 9 fun J hJ => ?_
 simp +decide only [TF, hn, hc, ↓reduceIte]
 refine hJ _ _ ?_; clear hJ J
 refine runOps.part 18 rfl (fun q1 => ?_) (fun q1 => ?_)
 ·have hR := sgnF_c hk hc q1
  simp +decide only [TF, q1, ↓reduceIte]
  apply z; clear z
  iterate 2 first | (refine WP.S [0, 2, 3, 4, 6, 24] fun _ z => ?_; simp +decide only [TF, ↓reduceIte]; apply z; clear z) | refine WP.cT ?_
  apply WP.ret
  exact Ends.P (d := .tup [_, _]) rfl (Le.of_eq (by simp +decide only [St.get, lk, W, hR, ↓reduceIte]))
 simp +decide only [TF, hk1, q1, ↓reduceIte]
 refine CallK.P (c_r_word (s.take k) (by simp only [List.length_take]; omega)) rfl rfl ?_
 simp +decide only [TF, ↓reduceIte]
 apply z; clear z
 refine WP.cond rfl (fun q2 => ?_) (fun q2 => ?_)
 ·have hR := sgnF_w hk (by simpa using q2)
  refine WP.S [0, 2, 3, 4, 6, 24] fun _ z => ?_; simp +decide only [TF, q2, ↓reduceIte]; apply z; clear z
  apply WP.ret
  exact Ends.P (d := .tup [_, _]) rfl (Le.of_eq (by simp +decide only [St.get, lk, W, hR, ↓reduceIte]))
 have hR := sgnF_y hk hc (by assumption) (by simpa using q2)
 apply WP.skip; show WP ..
 refine WP.S [0, 2, 3, 4, 6, 24] fun _ z => ?_
 simp +decide only [TF, hk2, hwk, q2, ↓reduceIte]
 refine CallK.pure (c_r_readhex (s.drop (k + 1)) (by simp only [List.length_drop]; omega)) rfl (by simp [fg]) (by simp) ?_
 simp +decide only [TF, rdHD, ↓reduceIte]
 apply z; clear z
 refine WP.S [0, 2, 3, 4, 6, 24] fun _ z => ?_; simp +decide only [TF, hk1, ↓reduceIte]; apply z; clear z
 apply WP.ret
 exact Ends.P (d := .tup [_, _]) rfl (Le.of_eq (by simp +decide only [St.get, lk, W, hR, ↓reduceIte]))
abbrev s_asc : List Nat := [0, 2, 3, 4, 5, 6, 10, 27, 44]
theorem c_asc (ls : List (List UInt8)) (nl : Bool) (hn : ls.length ≤ 1099511627776) (hnl : nl = true → ls = []) : CallP Pr 70 [.slice 1 nl (ls.map fun x => [.str x]) none] (.slice 1 ((ascL ls).isEmpty) (List.map (fun x => [D.str x]) (ascL ls)) none) := by
 refine CallP.W Tryz.func70 Tryz.ntmps70 ?_
 simp only [frameOf]
 iterate 3 first | (refine WP.S s_asc fun _ z => ?_; simp +decide only [TF, ↓reduceIte]; apply z; clear z) | apply WP.seq
 refine WP.S [0, 3, 4] fun _ z => ?_; simp +decide only [TF, ↓reduceIte]; apply z; clear z
 apply WP.block
 refine WP.lp [0] (X := {x : (Nat) × (List (List UInt8)) // match x with | (k, o) => k ≤ ls.length ∧ o.length ≤ k ∧ Asc o ∧ ascL ls = (ls.drop k).foldl insR o}) (fun x => match x with | ⟨(k, o), _⟩ => [(3, .slice 1 (o.isEmpty) (List.map (fun x => [D.str x]) o) none), (4, .int .i64 k)]) (fun x => match x with | ⟨(k, o), _⟩ => []) (fun x => match x with | ⟨(k, o), _⟩ => ls.length - k) (by simp +decide only [W, ↓reduceIte]; rfl) ?_ ⟨(0, []), ⟨Nat.zero_le _, Nat.zero_le _, List.Pairwise.nil, rfl⟩⟩ ?_
 rotate_left
 ·exact Weak.nil (by simp [St.get, lk, W, Le.refl, Le.nil, W]) (by simp [W])
 rintro ⟨⟨k, o⟩, hk, hr, hA, hI⟩
 dsimp only
 simp only [List.cons_append, List.nil_append]
 iterate 2 first | (refine WP.S s_asc fun _ z => ?_; simp +decide only [TF, ↓reduceIte]; apply z; clear z) | apply WP.seq
 refine WP.cond rfl (fun q1 => ?_) (fun q1 => ?_)
 ·have hlt := lt_of_q q1
  have hg : (ls.map (fun x => [D.str x]))[k]? = some [.str ls[k]] := getM hlt
  have hnf := nl_false hnl hlt
  rw [dropE hlt] at hI
  simp only [List.foldl_cons] at hI
  iterate 3 first | (apply WP.skip; show WP ..) | apply WP.block | apply WP.seq
  refine WP.S [0, 3, 4, 5] fun _ z => ?_; simp +decide only [TF, q1, hnf, ↓reduceIte]; apply z; clear z
  iterate 2 first | apply WP.block | apply WP.seq
  refine WP.lp [0, 3, 4] (X := {j : Nat // j ≤ o.length ∧ ∀ x ∈ o.take j, Op.bytesLess x ls[k] = true}) (fun x => match x with | ⟨(j), _⟩ => [(5, .int .i64 j)]) (fun x => match x with | ⟨(j), _⟩ => []) (fun x => match x with | ⟨(j), _⟩ => o.length - j) (by simp +decide only [W, ↓reduceIte]; rfl) ?_ ⟨(0), ⟨Nat.zero_le _, by simp⟩⟩ ?_
  rotate_left
  ·exact Weak.nil (by simp [St.get, lk, W, Le.refl]) (by simp [W])
  rintro ⟨j, hj, hJ⟩
  dsimp only
  simp only [List.cons_append, List.nil_append]
  apply WP.seq
  refine WP.D s_asc fun _ z => ?_
  refine runOps.take 5 fun J hJ => ?_
  simp +decide only [TF, ↓reduceIte]
  refine hJ _ _ ?_; clear hJ J
  refine runOps.part 17 rfl (fun q2 => ?_) (fun q2 => ?_)
  ·have hjl : j < o.length := lt_of_q q2
   have hgj : (o.map fun x => [D.str x])[j]? = some [.str o[j]] := getM hjl
   have hie := isE_f hjl
   simp +decide only [TF, hg, q2, hgj, hie, ↓reduceIte]
   refine z _ _ (by kernel_rfl) ?_; clear z
   refine WP.cond rfl (fun q3 => ?_) (fun q3 => ?_)
   ·iterate 3 first | (refine WP.R fun _ z => ?_; simp +decide only [TF, q3, ↓reduceIte]; apply z; clear z) | (apply WP.skip; show WP ..) | apply WP.block
    show ∃ y, _ ∧ Weak _ _ _
    refine ⟨⟨j + 1, hjl, ?_⟩, ?_, ?_⟩
    ·rw [takeS hjl]; intro x hx; rcases List.mem_append.1 hx with hx | hx; exact hJ x hx; rw [List.mem_singleton] at hx; rw [hx]; exact q3
    ·dsimp only; omega
    exact Weak.nil (by simp [St.get, lk, Le.refl, hie, wrapS hjl (show o.length ≤ 140737488355328 by omega)]) (by simp [W])
   iterate 3 first | (refine WP.D s_asc fun _ z => ?_; simp +decide only [TF, hg, q2, hgj, q3, ↓reduceIte]; refine z _ _ (by kernel_rfl) ?_; clear z) | (apply WP.exit; show WP ..) | apply WP.seq
   refine WP.cond rfl (fun q4 => ?_) (fun q4 => ?_)
   ·have hN := insR_eqv hA hJ hjl q3 q4
    iterate 2 first | (refine WP.R fun _ z => ?_; simp +decide only [TF, q4, ↓reduceIte]; apply z; clear z) | (apply WP.exit; show WP ..)
    show ∃ y, _ ∧ Weak _ _ _
    refine ⟨⟨(k + 1, insR o ls[k]), ?_⟩, ?_, ?_⟩
    ·exact ⟨by dsimp only; omega, by have := insR_len (s := ls[k]) hA; dsimp only; omega, insR_asc _ hA, hI⟩
    ·dsimp only; omega
    refine Weak.nil (fun p hp => ?_) (by simp [W])
    simp only [List.mem_cons, List.not_mem_nil, or_false] at hp
    rcases hp with rfl | rfl | rfl
    ·exact Le.trans (Le.fg _) (Le.of_eq (by simp [St.get, lk, fg, hN, hie]))
    ·simp [St.get, lk, Le.refl, wrapS hlt (show ls.length ≤ 140737488355328 by omega)]
    simp [St.get, lk, Le.refl, hnf]
   have hN := insR_mid hA hJ hjl q3 q4
   apply WP.skip; show WP ..
   refine WP.S s_asc fun _ z => ?_
   simp +decide only [TF, hj, q4, ↓reduceIte]
   repeat (refine ⟨⟨by (try simp only [List.length_map, List.length_take]); omega, by (try simp only [List.length_map, List.length_take]); omega⟩, ?_⟩)
   apply z; clear z
   refine WP.S s_asc fun _ z => ?_
   simp +decide only [TF, hg, ↓reduceIte]
   repeat (refine ⟨⟨by (try simp only [List.length_append, List.length_map, List.length_take, List.length_cons, List.length_nil]); omega, by (try simp only [List.length_append, List.length_map, List.length_take, List.length_cons, List.length_nil]); omega⟩, ?_⟩)
   apply z; clear z
   refine WP.R fun _ z => ?_
   simp +decide only [TF, hj, ↓reduceIte]
   repeat (refine ⟨⟨by (try simp only [List.length_append, List.length_map, List.length_take, List.length_drop, List.length_cons, List.length_nil]); omega, by (try simp only [List.length_append, List.length_map, List.length_take, List.length_drop, List.length_cons, List.length_nil]); omega⟩, ?_⟩)
   apply z; clear z
   show WP ..
   refine WP.R fun _ z => ?_; simp +decide only [TF, ↓reduceIte]; apply z; clear z
   show ∃ y, _ ∧ Weak _ _ _
   refine ⟨⟨(k + 1, insR o ls[k]), ?_⟩, ?_, ?_⟩
   ·exact ⟨by dsimp only; omega, by have := insR_len (s := ls[k]) hA; dsimp only; omega, insR_asc _ hA, hI⟩
   ·dsimp only; omega
   refine Weak.nil (fun p hp => ?_) (by simp [W])
   simp only [List.mem_cons, List.not_mem_nil, or_false] at hp
   rcases hp with rfl | rfl | rfl
   ·exact Le.trans (Le.fg _) (Le.of_eq (by simp [St.get, lk, fg, hN, tkm o]))
   ·simp [St.get, lk, Le.refl, wrapS hlt (show ls.length ≤ 140737488355328 by omega)]
   simp [St.get, lk, Le.refl, hnf]
  have hjg := ge_of_q q2
  have hN := insR_end hJ hjg
  simp +decide only [TF, q2, ↓reduceIte]
  refine z _ _ (by kernel_rfl) ?_; clear z
  iterate 6 first | (refine WP.D s_asc fun _ z => ?_; simp +decide only [TF, q2, ↓reduceIte]; refine z _ _ (by kernel_rfl) ?_; clear z) | (apply WP.exit; show WP ..) | (apply WP.skip; show WP ..) | refine WP.cF ?_ | apply WP.seq
  refine WP.S s_asc fun _ z => ?_
  simp +decide only [TF, hj, ↓reduceIte]
  repeat (refine ⟨⟨by (try simp only [List.length_map, List.length_take]); omega, by (try simp only [List.length_map, List.length_take]); omega⟩, ?_⟩)
  apply z; clear z
  refine WP.S s_asc fun _ z => ?_
  simp +decide only [TF, hg, ↓reduceIte]
  repeat (refine ⟨⟨by (try simp only [List.length_append, List.length_map, List.length_take, List.length_cons, List.length_nil]); omega, by (try simp only [List.length_append, List.length_map, List.length_take, List.length_cons, List.length_nil]); omega⟩, ?_⟩)
  apply z; clear z
  refine WP.R fun _ z => ?_
  simp +decide only [TF, hj, ↓reduceIte]
  repeat (refine ⟨⟨by (try simp only [List.length_append, List.length_map, List.length_take, List.length_drop, List.length_cons, List.length_nil]); omega, by (try simp only [List.length_append, List.length_map, List.length_take, List.length_drop, List.length_cons, List.length_nil]); omega⟩, ?_⟩)
  apply z; clear z
  show WP ..
  refine WP.R fun _ z => ?_; simp +decide only [TF, ↓reduceIte]; apply z; clear z
  show ∃ y, _ ∧ Weak _ _ _
  refine ⟨⟨(k + 1, insR o ls[k]), ?_⟩, ?_, ?_⟩
  ·exact ⟨by dsimp only; omega, by have := insR_len (s := ls[k]) hA; dsimp only; omega, insR_asc _ hA, hI⟩
  ·dsimp only; omega
  refine Weak.nil (fun p hp => ?_) (by simp [W])
  simp only [List.mem_cons, List.not_mem_nil, or_false] at hp
  rcases hp with rfl | rfl | rfl
  ·exact Le.trans (Le.fg _) (Le.of_eq (by simp [St.get, lk, fg, hN, tkm o]))
  ·simp [St.get, lk, Le.refl, wrapS hlt (show ls.length ≤ 140737488355328 by omega)]
  simp [St.get, lk, Le.refl, hnf]
 have hge := ge_of_q q1
 rw [dropN hge] at hI
 simp only [List.foldl_nil] at hI
 iterate 2 first | (refine WP.S s_asc fun _ z => ?_; simp +decide only [TF, q1, ↓reduceIte]; apply z; clear z) | (apply WP.exit; show WP ..)
 apply WP.ret
 exact Ends.P rfl ((by rw [hI]; exact Le.refl _))
theorem c_r_list (ms : TS) (nl : Bool) (hnl : nl = true → ms = []) (hln : ms.length ≤ 1000) (hk : TKey ms) (hnd : (ms.map (·.1)).Nodup) : CallE Pr 31 [.ref 1 0] [(0, .tip 26 5 ms.length), (1, .box 95 [.slice 5 nl (tsR ms) (some 0)])] (listD ms) [(0, .tip 26 5 ms.length), (1, .box 95 [.slice 5 nl (tsR ms) (some 0)])] := by
 refine CallE.of_wp Tryz.func31 rfl (by kernel_rfl) Tryz.ntmps31 (by simp) ?_
 simp only [frameOf, List.map_cons, List.map_nil]
 iterate 3 first | (refine WP.S [0, 2, 3, 4, 11] fun _ z => ?_; simp +decide only [TF, ↓reduceIte]; apply z; clear z) | apply WP.seq
 refine WP.S [0, 3, 4] fun _ z => ?_; simp +decide only [TF, ↓reduceIte]; apply z; clear z
 apply WP.block
 refine WP.lp [0] (X := {x : (Nat) × (List (List UInt8)) // match x with | (k, o) => k ≤ ms.length ∧ o = (ms.take k).map (fun e => e.2.1.id)}) (fun x => match x with | ⟨(k, o), _⟩ => [(3, .slice 1 o.isEmpty (List.map (fun x => [D.str x]) o) (some 2)), (4, .int .i64 k)]) (fun x => match x with | ⟨(k, o), _⟩ => [(2, .tip 9 1 o.length), (0, .tip 26 5 ms.length), (1, .box 95 [.slice 5 nl (tsR ms) (some 0)])]) (fun x => match x with | ⟨(k, o), _⟩ => ms.length - k) (by simp +decide only [W, ↓reduceIte]; rfl) ?_ ⟨(0, []), ⟨Nat.zero_le _, rfl⟩⟩ ?_
 rotate_left
 ·refine Weak.trans (Weak.store (st' := ⟨[(4, .int .i64 0), (3, .slice 0 true [] none), (0, .ref 1 0)], [(0, .tip 26 5 ms.length), (1, .box 95 [.slice 5 nl (tsR ms) (some 0)])]⟩) (by simp [St.get, lk, W, Le.refl]) (by simp [lk]) (by simp [lk]) (by simp [BClo, lk]) (by simp [lk])) ?_; refine Weak.trans (Weak.ghost 2 9 1 (F' := [(4, .int .i64 0), (3, .slice 1 true [] (some 2)), (0, .ref 1 0)]) (σ' := [(0, .tip 26 5 ms.length), (1, .box 95 [.slice 5 nl (tsR ms) (some 0)])]) (by simp [lk]) (by simp [UpF, UpD]) (by simp [UpS, UpB, UpL, UpD])) ?_; exact Weak.store (by simp [St.get, lk, Le.refl]) (by simp [lk]) (by simp [lk]) (by simp [BClo, lk]) (by simp [lk])
 rintro ⟨⟨k, o⟩, hk0, hI⟩
 dsimp only
 simp only [List.cons_append, List.nil_append]
 iterate 2 first | (refine WP.S [0, 2, 3, 4, 11] fun _ z => ?_; simp +decide only [TF, tsR_len, ↓reduceIte]; apply z; clear z) | apply WP.seq
 refine WP.cond rfl (fun q1 => ?_) (fun q1 => ?_)
 ·have hlt := lt_of_q q1
  have hg := tsR_get hlt
  have hnf := nl_false hnl hlt
  have hol : o.length = k := by rw [hI]; simp; omega
  iterate 3 first | (apply WP.skip; show WP ..) | apply WP.block | apply WP.seq
  refine WP.R fun _ z => ?_
  simp +decide only [TF, q1, hg, hnf, ↓reduceIte]
  repeat (refine ⟨⟨by (try simp only [List.length_append, List.length_map, List.length_cons, List.length_nil]); omega, by (try simp only [List.length_append, List.length_map, List.length_cons, List.length_nil]); omega⟩, ?_⟩)
  apply z; clear z
  show WP ..
  refine WP.R fun _ z => ?_; simp +decide only [TF, ↓reduceIte]; apply z; clear z
  show ∃ y, _ ∧ Weak _ _ _
  refine ⟨⟨(k + 1, o ++ [ms[k].2.1.id]), ?_⟩, ?_, ?_⟩
  ·exact ⟨by dsimp only; omega, by dsimp only; rw [hI, takeS hlt, List.map_append]; rfl⟩
  ·dsimp only; omega
  exact Weak.store (by simp [St.get, lk, Le.refl, isEA, -List.append_assoc, wrapS hlt (show ms.length ≤ 140737488355328 by omega)]) (by simp [lk, -List.append_assoc, hnf]) (by simp [lk, -List.map_append, -List.mem_append, -List.append_assoc]) (by simp [BClo, lk]) (by simp [lk])
 have hge := ge_of_q q1
 have hO : o = ms.map (·.1) := by rw [hI, List.take_of_length_le hge, tsR_ids hk]
 apply WP.exit; show WP ..
 refine WP.S [0, 2, 3, 4, 11] fun _ z => ?_
 simp +decide only [TF, q1, ↓reduceIte]
 refine CallK.P (c_asc o o.isEmpty (by rw [hO]; simp; omega) (by intro h; exact List.isEmpty_iff.1 h)) rfl rfl ?_
 simp +decide only [TF, ↓reduceIte]
 apply z; clear z
 apply WP.ret
 refine Ends.imp (.inr rfl) rfl (Le.of_eq (by rw [listD, listT, hO, ascL_sort hnd]; simp (decide := true) [St.get, W, sortS_isE])) ?_ ?_ ?_
 ·simp
 ·simp [lk, BClo]
 simp [lk]
def rnl (e : Int) (nl : Bool) : Bool := if e = 0 then false else nl
theorem rnl_ne {e : Int} {nl : Bool} (h : (e != 0) = true) : rnl e nl = nl := if_neg (by simpa using h)
theorem rnl_0 {nl : Bool} : rnl 0 nl = false := rfl
theorem rnl_3 {nl : Bool} : rnl 3 nl = nl := rfl
theorem rnl_7 {nl : Bool} : rnl 7 nl = nl := rfl
theorem rnl_13 {nl : Bool} : rnl 13 nl = nl := rfl
theorem tsR_take (ms : TS) : List.take ms.length (tsR ms) = tsR ms := List.take_of_length_le (by rw [tsR_len]; exact Nat.le_refl _)
abbrev s_r_anchor : List Nat := [0, 2, 4, 6, 7, 11, 18, 23, 29]
theorem c_r_anchor (ms : TS) (nl : Bool) (hnl : nl = true → ms = []) (hln : ms.length ≤ 1000) (hk : TKey ms) (c : Nat) (p : Par) (hp : p.ok) (t : Int) : CallE Pr 64 [.ref 1 0, .agg [.str p.id, .str p.addr, .slice 6 p.nk (p.keys.map Key.cs) none, .int .i64 p.f, .int .i64 p.u], .int .i64 t] [(0, .tip 26 5 ms.length), (1, .box 95 [.slice 5 nl (tsR ms) (some 0)])] (.int .i64 (anch ms c p t).1) [(0, .tip 26 5 ((anch ms c p t).2.1).length), (1, .box 95 [.slice 5 (rnl (anch ms c p t).1 nl) (tsR ((anch ms c p t).2.1)) (some 0)])] := by
 have hkn := hp.2.2.1
 refine CallE.of_wp Tryz.func64 rfl (by kernel_rfl) Tryz.ntmps64 (by simp) ?_
 simp only [frameOf, Nat.reduceAdd, Nat.zero_add, List.map_cons, List.map_nil]
 refine WP.S s_r_anchor fun _ z => ?_; simp +decide only [TF, ↓reduceIte]; apply z; clear z
 refine WP.S s_r_anchor fun _ z => ?_
 simp +decide only [TF, ↓reduceIte]
 refine CallK.P (c_r_check43 p hp) rfl rfl ?_
 simp +decide only [TF, ↓reduceIte]
 apply z; clear z
 iterate 2 first | (refine WP.S s_r_anchor fun _ z => ?_; simp +decide only [TF, ↓reduceIte]; apply z; clear z) | apply WP.seq
 refine WP.cond rfl (fun q1 => ?_) (fun q1 => ?_)
 ·have hR := anch_c (ms := ms) (c := c) (t := t) q1
  have hN := rnl_ne (nl := nl) q1
  refine WP.S s_r_anchor fun _ z => ?_; simp +decide only [TF, q1, ↓reduceIte]; apply z; clear z
  apply WP.ret
  refine Ends.imp (.inr rfl) rfl (Le.of_eq (by simp +decide only [St.get, W, hR, ↓reduceIte])) ?_ ?_ ?_
  ·simp
  ·simp [lk, BClo, hR, hN]
  simp [lk]
 iterate 2 first | (apply WP.skip; show WP ..) | apply WP.seq
 refine WP.D s_r_anchor fun _ z => ?_
 simp +decide only [TF, q1, ↓reduceIte]
 refine CallK.P (c_r_instant t) rfl rfl ?_
 simp +decide only [TF, ↓reduceIte]
 refine z _ _ (by kernel_rfl) ?_; clear z
 refine WP.cond rfl (fun q2 => ?_) (fun q2 => ?_)
 ·have hR := anch_13 (ms := ms) (c := c) (t := t) (by assumption) q2
  refine WP.S s_r_anchor fun _ z => ?_; simp +decide only [TF, q2, ↓reduceIte]; apply z; clear z
  apply WP.ret
  refine Ends.imp (.inr rfl) rfl (Le.of_eq (by simp +decide only [St.get, W, hR, ↓reduceIte])) ?_ ?_ ?_
  ·simp
  ·simp [lk, BClo, rnl_13, hR]
  simp [lk]
 iterate 2 first | (apply WP.skip; show WP ..) | apply WP.seq
 rcases find_two hk p.id with ⟨hF, hx⟩ | ⟨a, i, hF, hx, hi, ha, hp0⟩
 ·refine WP.S s_r_anchor fun _ z => ?_
  simp +decide only [TF, q2, ↓reduceIte]
  refine CallK.imp (c_r_find ms nl hnl hln p.id) rfl rfl (by simp [lk, BClo]) (by simp [lk]) (by simp [lk]) ?_
  simp +decide only [TF, hx, ↓reduceIte]
  apply z; clear z
  iterate 4 first | (refine WP.S s_r_anchor fun _ z => ?_; simp +decide only [TF, tsR_len, ↓reduceIte]; apply z; clear z) | (apply WP.skip; show WP ..) | refine WP.cF ?_ | apply WP.seq
  refine WP.cond rfl (fun q3 => ?_) (fun q3 => ?_)
  ·have hR := anch_3 (ms := ms) (c := c) (t := t) (by assumption) (by assumption) hF (by assumption)
   refine WP.S s_r_anchor fun _ z => ?_; simp +decide only [TF, q3, ↓reduceIte]; apply z; clear z
   apply WP.ret
   refine Ends.imp (.inr rfl) rfl (Le.of_eq (by simp +decide only [St.get, W, hR, ↓reduceIte])) ?_ ?_ ?_
   ·simp
   ·simp [lk, BClo, rnl_3, hR]
   simp [lk]
  have hR := anch_y (ms := ms) (c := c) (t := t) (by assumption) (by assumption) hF (by assumption)
  have hke := check_keys q1
  have hnk : p.nk = false := by cases h : p.nk with | false => rfl | true => exact absurd (hp.2.2.2.1 h) hke
  have hl256 : (ms.length : Int) < 256 := by have := of_decide_eq_false q3; omega
  have hPN : tsR (putT ms c p.id p) = tsR ms ++ [[.str p.id, .str p.addr, .slice 6 false (p.keys.map Key.cs) none, .int .i64 p.f, .int .i64 p.u]] := by rw [putT_new hF, Par.cs, hnk]
  have hPS := hPN.symm
  have hPL : (putT ms c p.id p).length = ms.length + 1 := by rw [← tsR_len, hPN]; simp [tsR_len]
  apply WP.skip; show WP ..
  refine WP.S s_r_anchor fun _ z => ?_
  simp +decide only [TF, q3, hnk, ↓reduceIte]
  repeat (refine ⟨⟨by (try simp only [List.length_append, List.length_map, List.length_take, List.length_drop, List.length_cons, List.length_nil]); omega, by (try simp only [List.length_append, List.length_map, List.length_take, List.length_drop, List.length_cons, List.length_nil]); omega⟩, ?_⟩)
  apply z; clear z
  refine WP.weak (Weak.boxN 2 26 [.str p.id, .str p.addr, .slice 6 false (p.keys.map Key.cs) (some 3), .int .i64 p.f, .int .i64 p.u] [.str p.id, .str p.addr, .slice 6 false (p.keys.map Key.cs) none, .int .i64 p.f, .int .i64 p.u] (by simp [lk]) ⟨Le.refl _, Le.refl _, Le.fg _, Le.refl _, Le.refl _, trivial⟩) ?_
  refine WP.D s_r_anchor fun _ z => ?_
  simp +decide only [TF, hPS, hPL, tsR_len, ↓reduceIte]
  repeat (refine ⟨⟨by (try simp only [List.length_append, tsR_len, List.length_map, List.length_take, List.length_drop, List.length_cons, List.length_nil]); omega, by (try simp only [List.length_append, tsR_len, List.length_map, List.length_take, List.length_drop, List.length_cons, List.length_nil]); omega⟩, ?_⟩)
  refine z _ _ (by kernel_rfl) ?_; clear z
  refine WP.S s_r_anchor fun _ z => ?_; simp +decide only [TF, ↓reduceIte]; apply z; clear z
  apply WP.ret
  refine Ends.imp (.inr rfl) rfl (Le.of_eq (by simp +decide only [St.get, W, hR, ↓reduceIte])) ?_ ?_ ?_
  ·simp
  ·simp [lk, BClo, rnl_0, hR, hPL]
  simp [lk]
 have hi0 : decide ((i : Int) ≥ 0) = true := decide_eq_true (by omega)
 have hR := anch_7 (ms := ms) (c := c) (t := t) (by assumption) (by assumption) hF
 refine WP.S s_r_anchor fun _ z => ?_
 simp +decide only [TF, q2, ↓reduceIte]
 refine CallK.imp (c_r_find ms nl hnl hln p.id) rfl rfl (by simp [lk, BClo]) (by simp [lk]) (by simp [lk]) ?_
 simp +decide only [TF, hx, ↓reduceIte]
 apply z; clear z
 iterate 2 first | (refine WP.S s_r_anchor fun _ z => ?_; simp +decide only [TF, ↓reduceIte]; apply z; clear z) | refine WP.cT ?_
 apply WP.ret
 refine Ends.imp (.inr rfl) rfl (Le.of_eq (by simp +decide only [St.get, W, hR, ↓reduceIte])) ?_ ?_ ?_
 ·simp
 ·simp [lk, BClo, rnl_7, hR]
 simp [lk]
abbrev s_r_partner43 : List Nat := [0, 1, 2, 6, 7, 8, 9, 14, 27]
theorem c_r_partner43 (ms : TS) (nl : Bool) (hnl : nl = true → ms = []) (hln : ms.length ≤ 1000) (hk : TKey ms) (s : List UInt8) (t : Int) : CallE Pr 66 [.ref 1 0, .str s, .int .i64 t] [(0, .tip 26 5 ms.length), (1, .box 95 [.slice 5 nl (tsR ms) (some 0)])] (partD ms s t) [(0, .tip 26 5 ms.length), (1, .box 95 [.slice 5 nl (tsR ms) (some 0)])] := by
 refine CallE.of_wp Tryz.func66 rfl (by kernel_rfl) Tryz.ntmps66 (by simp) ?_
 simp only [frameOf, Nat.reduceAdd, Nat.zero_add, List.map_cons, List.map_nil]
 refine WP.S s_r_partner43 fun _ z => ?_; simp +decide only [TF, ↓reduceIte]; apply z; clear z
 rcases find_two hk s with ⟨hF, hx⟩ | ⟨a, i, hF, hx, hi, ha, hp0⟩
 ·have hR := part_n (t := t) hF
  refine WP.S s_r_partner43 fun _ z => ?_
  simp +decide only [TF, ↓reduceIte]
  refine CallK.imp (c_r_find ms nl hnl hln s) rfl rfl (by simp [lk, BClo]) (by simp [lk]) (by simp [lk]) ?_
  simp +decide only [TF, hx, ↓reduceIte]
  apply z; clear z
  iterate 4 first | (refine WP.S s_r_partner43 fun _ z => ?_; simp +decide only [TF, ↓reduceIte]; apply z; clear z) | refine WP.cT ?_ | apply WP.seq
  apply WP.ret
  refine Ends.imp (d := .tup [_, _]) (.inr rfl) rfl (Le.of_eq (by rw [hR]; simp +decide only [St.get, W, Pr_prog, sz26, zpD, ↓reduceIte])) ?_ ?_ ?_
  ·simp
  ·simp [lk, BClo]
  simp [lk]
 have hi0 : decide ((i : Int) < 0) = false := decide_eq_false (by omega)
 have hg := tsR_get hi
 have hnf := nl_false hnl hi
 refine WP.S s_r_partner43 fun _ z => ?_
 simp +decide only [TF, hnf, ↓reduceIte]
 refine CallK.imp (c_r_find ms nl hnl hln s) rfl rfl (by simp [lk, BClo, hnf]) (by simp [lk]) (by simp [lk, hnf]) ?_
 simp +decide only [TF, hx, hnf, ↓reduceIte]
 apply z; clear z
 iterate 4 first | (refine WP.S s_r_partner43 fun _ z => ?_; simp +decide only [TF, hi0, ↓reduceIte]; apply z; clear z) | (apply WP.skip; show WP ..) | refine WP.cF ?_ | apply WP.seq
 refine WP.S s_r_partner43 fun _ z => ?_
 simp +decide only [TF, hg, ↓reduceIte]
 refine CallK.P (c_r_ck_check ms[i].2.1.f ms[i].2.1.u t 0) rfl rfl ?_
 simp +decide only [TF, ↓reduceIte]
 apply z; clear z
 iterate 2 first | (refine WP.S s_r_partner43 fun _ z => ?_; simp +decide only [TF, ↓reduceIte]; apply z; clear z) | apply WP.seq
 refine WP.cond rfl (fun q1 => ?_) (fun q1 => ?_)
 ·have hR := part_e hF (ha ▸ q1)
  rw [← ha] at hR
  refine WP.S s_r_partner43 fun _ z => ?_; simp +decide only [TF, q1, ↓reduceIte]; apply z; clear z
  apply WP.ret
  refine Ends.imp (d := .tup [_, _]) (.inr rfl) rfl (Le.of_eq (by rw [hR]; simp +decide only [St.get, W, Pr_prog, sz26, zpD, ↓reduceIte])) ?_ ?_ ?_
  ·simp
  ·simp [lk, BClo, hnf]
  simp [lk]
 have hR := part_0 hF (ha ▸ q1)
 rw [← ha] at hR
 iterate 2 first | (refine WP.S s_r_partner43 fun _ z => ?_; simp +decide only [TF, hg, q1, ↓reduceIte]; apply z; clear z) | (apply WP.skip; show WP ..)
 apply WP.ret
 refine Ends.imp (d := .tup [_, _]) (.inr rfl) rfl (Le.of_eq (by rw [hR]; simp +decide only [St.get, W, Pr_prog, sz26, Par.cs, ↓reduceIte])) ?_ ?_ ?_
 ·simp
 ·simp [lk, BClo, hnf]
 simp [lk]
theorem c_r_removeN (ms : TS) (nl : Bool) (hnl : nl = true → ms = []) (hln : ms.length ≤ 1000) (hk : TKey ms) (s : List UInt8) (hF : findT ms s = none) : CallE Pr 67 [.ref 1 0, .str s] [(0, .tip 26 5 ms.length), (1, .box 95 [.slice 5 nl (tsR ms) (some 0)])] (.bool false) [(0, .tip 26 5 ms.length), (1, .box 95 [.slice 5 nl (tsR ms) (some 0)])] := by
 have hx : fndT ms s = -1 := by rcases find_two hk s with ⟨_, h⟩ | ⟨a, i, h, _⟩; exact h; rw [hF] at h; cases h
 refine CallE.of_wp Tryz.func67 rfl (by kernel_rfl) Tryz.ntmps67 (by simp) ?_
 simp only [frameOf, Nat.zero_add, List.map_cons, List.map_nil]
 refine WP.S [0, 1, 4, 5, 10] fun _ z => ?_; simp +decide only [TF, ↓reduceIte]; apply z; clear z
 refine WP.S [0, 1, 4, 5, 10] fun _ z => ?_
 simp +decide only [TF, ↓reduceIte]
 refine CallK.imp (c_r_find ms nl hnl hln s) rfl rfl (by simp [lk, BClo]) (by simp [lk]) (by simp [lk]) ?_
 simp +decide only [TF, hx, ↓reduceIte]
 apply z; clear z
 iterate 4 first | (refine WP.S [0, 1, 4, 5, 10] fun _ z => ?_; simp +decide only [TF, ↓reduceIte]; apply z; clear z) | refine WP.cT ?_ | apply WP.seq
 apply WP.ret
 refine Ends.imp (.inr rfl) rfl (Le.of_eq (by simp +decide only [St.get, W, ↓reduceIte])) ?_ ?_ ?_
 ·simp
 ·simp [lk, BClo]
 simp [lk]
theorem c_r_removeY (ms : TS) (nl : Bool) (hnl : nl = true → ms = []) (hln : ms.length ≤ 1000) (hk : TKey ms) (s : List UInt8) (a : Par) (hF : findT ms s = some a) : CallE Pr 67 [.ref 1 0, .str s] [(0, .tip 26 5 ms.length), (1, .box 95 [.slice 5 nl (tsR ms) (some 0)])] (.bool true) [(0, .tip 26 5 ms.length), (2, .tip 26 5 (delT ms s).length), (1, .box 95 [.slice 5 false (tsR (delT ms s)) (some 2)])] := by
 obtain ⟨i, hx, hi, hp0⟩ : ∃ i : Nat, fndT ms s = (i : Int) ∧ i < ms.length ∧ posT ms s = i := by rcases find_two hk s with ⟨h, _⟩ | ⟨b, i, h, h1, h2, _, h3⟩; rw [hF] at h; cases h; exact ⟨i, h1, h2, h3⟩
 have hi0 : decide ((i : Int) < 0) = false := decide_eq_false (by omega)
 have hnf := nl_false hnl hi
 have hw := wrapS hi (show ms.length ≤ 140737488355328 by omega)
 have hil : i ≤ ms.length := by omega
 have hil1 : i + 1 ≤ ms.length := by omega
 have hD := delT_pos hk (s := s) (by omega)
 rw [hp0] at hD
 have hDl : (delT ms s).length = min i ms.length + (ms.length - (i + 1)) := by rw [← tsR_len, ← hD]; simp [tsR_len]
 refine CallE.of_wp Tryz.func67 rfl (by kernel_rfl) Tryz.ntmps67 (by simp) ?_
 simp only [frameOf, Nat.zero_add, List.map_cons, List.map_nil]
 refine WP.S [0, 1, 4, 5, 10] fun _ z => ?_; simp +decide only [TF, hnf, ↓reduceIte]; apply z; clear z
 refine WP.S [0, 1, 4, 5, 10] fun _ z => ?_
 simp +decide only [TF, ↓reduceIte]
 refine CallK.imp (c_r_find ms nl hnl hln s) rfl rfl (by simp [lk, BClo, hnf]) (by simp [lk]) (by simp [lk, hnf]) ?_
 simp +decide only [TF, hx, hnf, ↓reduceIte]
 apply z; clear z
 iterate 4 first | (refine WP.S [0, 1, 4, 5, 10] fun _ z => ?_; simp +decide only [TF, hi0, ↓reduceIte]; apply z; clear z) | (apply WP.skip; show WP ..) | refine WP.cF ?_ | apply WP.seq
 refine WP.D [0, 1, 4, 5, 10] fun _ z => ?_
 simp +decide only [TF, hw, hil, hil1, tsR_len, List.length_append, List.length_take, List.length_drop, ↓reduceIte]
 repeat (refine ⟨⟨by (try simp only [List.length_append, List.length_map, List.length_take, List.length_drop, List.length_cons, List.length_nil]); omega, by (try simp only [List.length_append, List.length_map, List.length_take, List.length_drop, List.length_cons, List.length_nil]); omega⟩, ?_⟩)
 refine z _ _ (by kernel_rfl) ?_; clear z
 refine WP.S [0, 1, 4, 5, 10] fun _ z => ?_; simp +decide only [TF, ↓reduceIte]; apply z; clear z
 apply WP.ret
 refine Ends.imp (.inr rfl) rfl (Le.of_eq (by simp +decide only [St.get, W, ↓reduceIte])) ?_ ?_ ?_
 ·simp
 ·simp [lk, BClo, tsR_take, hD, hDl, hil]; try omega
 simp [lk]
abbrev s_r_upd0 : List Nat := [0, 1, 2, 3, 8, 9, 11, 12, 13, 14, 32, 38]
theorem c_r_upd0 (ms : TS) (nl : Bool) (hnl : nl = true → ms = []) (hln : ms.length ≤ 1000) (hk : TKey ms) (c : Nat) (text sig : List UInt8) (ht : text.length ≤ 1099511627776) (hs : sig.length ≤ 1099511627776) (t : Int) (h0 : ms = []) : CallE Pr 65 [.ref 1 0, .str text, .str sig, .int .i64 t] [(0, .tip 26 5 ms.length), (1, .box 95 [.slice 5 nl (tsR ms) (some 0)])] (.int .i64 (upd ms c text sig t).1) [(0, .tip 26 5 ms.length), (1, .box 95 [.slice 5 nl (tsR ms) (some 0)])] := by
 have hF : findT ms (pP text).1.id = none := by rw [h0]; rfl
 have hx : fndT ms (pP text).1.id = -1 := by rw [h0]; rfl
 refine CallE.of_wp Tryz.func65 rfl (by kernel_rfl) Tryz.ntmps65 (by simp) ?_
 simp only [frameOf, Nat.reduceAdd, Nat.zero_add, List.map_cons, List.map_nil]
 refine WP.S s_r_upd0 fun _ z => ?_; simp +decide only [TF, ↓reduceIte]; apply z; clear z
 refine WP.S s_r_upd0 fun _ z => ?_
 simp +decide only [TF, ↓reduceIte]
 refine CallK.P (c_r_parse43 text ht) rfl rfl ?_
 simp +decide only [TF, Par.cs, pPD, ↓reduceIte]
 apply z; clear z
 refine WP.S s_r_upd0 fun _ z => ?_
 simp +decide only [TF, ↓reduceIte]
 refine CallK.P (c_r_signer43 sig hs) rfl rfl ?_
 simp +decide only [TF, ↓reduceIte]
 apply z; clear z
 apply WP.seq
 refine WP.S s_r_upd0 fun _ z => ?_
 refine runOps.take 3 fun J hJ => ?_
 simp +decide only [TF, ↓reduceIte]
 refine hJ _ _ ?_; clear hJ J
 refine runOps.part 29 rfl (fun q1 => ?_) (fun q1 => ?_)
 ·have hR := upd_4a (ms := ms) (c := c) (text := text) (sig := sig) (t := t) (by assumption)
  simp +decide only [TF, q1, ↓reduceIte]
  apply z; clear z
  iterate 2 first | (refine WP.S s_r_upd0 fun _ z => ?_; simp +decide only [TF, ↓reduceIte]; apply z; clear z) | refine WP.cT ?_
  apply WP.ret
  refine Ends.imp (.inr rfl) rfl (Le.of_eq (by simp +decide only [St.get, W, hR, ↓reduceIte])) ?_ ?_ ?_
  ·simp
  ·simp [lk, BClo]
  simp [lk]
 have h1 : ((pP text).2.2 != 0) = false := by assumption
 simp +decide only [TF, q1, ↓reduceIte]
 apply z; clear z
 refine WP.cond rfl (fun q2 => ?_) (fun q2 => ?_)
 ·have hR := upd_4b (ms := ms) (c := c) (text := text) (sig := sig) (t := t) h1 (by rw [← sgnF_eq]; simp_all)
  refine WP.S s_r_upd0 fun _ z => ?_; simp +decide only [TF, q2, ↓reduceIte]; apply z; clear z
  apply WP.ret
  refine Ends.imp (.inr rfl) rfl (Le.of_eq (by simp +decide only [St.get, W, hR, ↓reduceIte])) ?_ ?_ ?_
  ·simp
  ·simp [lk, BClo]
  simp [lk]
 have h2 : (!(sgnR sig).2) = false := by rw [← sgnF_eq]; simp_all
 have hR := upd_6 (ms := ms) (c := c) (text := text) (sig := sig) (t := t) h1 h2 hF
 apply WP.skip; show WP ..
 refine WP.S s_r_upd0 fun _ z => ?_
 simp +decide only [TF, q2, ↓reduceIte]
 refine CallK.imp (c_r_find ms nl hnl hln (pP text).1.id) rfl rfl (by simp [lk, BClo]) (by simp [lk]) (by simp [lk]) ?_
 simp +decide only [TF, hx, ↓reduceIte]
 apply z; clear z
 iterate 4 first | (refine WP.S s_r_upd0 fun _ z => ?_; simp +decide only [TF, ↓reduceIte]; apply z; clear z) | refine WP.cT ?_ | apply WP.seq
 apply WP.ret
 refine Ends.imp (.inr rfl) rfl (Le.of_eq (by simp +decide only [St.get, W, hR, ↓reduceIte])) ?_ ?_ ?_
 ·simp
 ·simp [lk, BClo]
 simp [lk]
abbrev s_r_updA : List Nat := [0, 1, 2, 3, 8, 9, 11, 12, 13, 14, 15, 32, 38, 54, 60, 73]
theorem c_r_updA (ms : TS) (hln : ms.length ≤ 1000) (hk : TKey ms) (hms : TS.ok ms) (c : Nat) (text sig : List UInt8) (ht : text.length ≤ 1099511627776) (hs : sig.length ≤ 1099511627776) (t : Int) : CallE Pr 65 [.ref 1 0, .str text, .str sig, .int .i64 t] [(0, .arr 26 (tsR ms).flatten), (1, .box 95 [.arr 0 5 ms.length])] (.int .i64 (upd ms c text sig t).1) [(0, .arr 26 (tsR ((upd ms c text sig t).2.1)).flatten), (1, .box 95 [.arr 0 5 ((upd ms c text sig t).2.1).length])] := by
 refine CallE.of_wp Tryz.func65 rfl (by kernel_rfl) Tryz.ntmps65 (by simp) ?_
 simp only [frameOf, Nat.reduceAdd, Nat.zero_add, List.map_cons, List.map_nil]
 refine WP.S s_r_updA fun _ z => ?_; simp +decide only [TF, ↓reduceIte]; apply z; clear z
 refine WP.S s_r_updA fun _ z => ?_
 simp +decide only [TF, ↓reduceIte]
 refine CallK.P (c_r_parse43 text ht) rfl rfl ?_
 simp +decide only [TF, Par.cs, pPD, ↓reduceIte]
 apply z; clear z
 refine WP.S s_r_updA fun _ z => ?_
 simp +decide only [TF, ↓reduceIte]
 refine CallK.P (c_r_signer43 sig hs) rfl rfl ?_
 simp +decide only [TF, ↓reduceIte]
 apply z; clear z
 apply WP.seq
 refine WP.S s_r_updA fun _ z => ?_
 refine runOps.take 3 fun J hJ => ?_
 simp +decide only [TF, ↓reduceIte]
 refine hJ _ _ ?_; clear hJ J
 refine runOps.part 29 rfl (fun q1 => ?_) (fun q1 => ?_)
 ·have hR := upd_4a (ms := ms) (c := c) (text := text) (sig := sig) (t := t) (by assumption)
  simp +decide only [TF, q1, ↓reduceIte]
  apply z; clear z
  iterate 2 first | (refine WP.S s_r_updA fun _ z => ?_; simp +decide only [TF, ↓reduceIte]; apply z; clear z) | refine WP.cT ?_
  apply WP.ret
  refine Ends.imp (.inr rfl) rfl (Le.of_eq (by simp +decide only [St.get, W, hR, ↓reduceIte])) ?_ ?_ ?_
  ·simp
  ·simp [lk, BClo, hR]
  simp [lk]
 have h1 : ((pP text).2.2 != 0) = false := by assumption
 simp +decide only [TF, q1, ↓reduceIte]
 apply z; clear z
 refine WP.cond rfl (fun q2 => ?_) (fun q2 => ?_)
 ·have hR := upd_4b (ms := ms) (c := c) (text := text) (sig := sig) (t := t) h1 (by rw [← sgnF_eq]; simp_all)
  refine WP.S s_r_updA fun _ z => ?_; simp +decide only [TF, q2, ↓reduceIte]; apply z; clear z
  apply WP.ret
  refine Ends.imp (.inr rfl) rfl (Le.of_eq (by simp +decide only [St.get, W, hR, ↓reduceIte])) ?_ ?_ ?_
  ·simp
  ·simp [lk, BClo, hR]
  simp [lk]
 have h2 : (!(sgnR sig).2) = false := by rw [← sgnF_eq]; simp_all
 have hsg : sgnF sig = sgnR sig := (sgnF_flag sig).1 (by simpa using h2)
 apply WP.skip; show WP ..
 rcases find_two hk (pP text).1.id with ⟨hF, hx⟩ | ⟨a, i, hF, hx, hi, ha, hp0⟩
 ·have hR := upd_6 (ms := ms) (c := c) (text := text) (sig := sig) (t := t) h1 h2 hF
  refine WP.S s_r_updA fun _ z => ?_
  simp +decide only [TF, hsg, ↓reduceIte]
  refine CallK.imp (c_r_findA ms hln (pP text).1.id) rfl rfl (by simp [lk, BClo]) (by simp [lk]) (by simp [lk]) ?_
  simp +decide only [TF, hx, ↓reduceIte]
  apply z; clear z
  iterate 4 first | (refine WP.S s_r_updA fun _ z => ?_; simp +decide only [TF, ↓reduceIte]; apply z; clear z) | refine WP.cT ?_ | apply WP.seq
  apply WP.ret
  refine Ends.imp (.inr rfl) rfl (Le.of_eq (by simp +decide only [St.get, W, hR, ↓reduceIte])) ?_ ?_ ?_
  ·simp
  ·simp [lk, BClo, hR]
  simp [lk]
 have hi1 : decide ((i : Int) < 0) = false := decide_eq_false (by omega)
 have haok := findT_ok (by assumption) hF
 have hD2 : (tsR ms).flatten.drop (i * 5 + 2) = [.slice 6 a.nk (a.keys.map Key.cs) none, .int .i64 a.f, .int .i64 a.u] ++ (tsR (ms.drop (i + 1))).flatten := by rw [tsR_dropj hi 2 (by decide), ha]; rfl
 have hD3 : (tsR ms).flatten.drop (i * 5 + 3) = [.int .i64 a.f, .int .i64 a.u] ++ (tsR (ms.drop (i + 1))).flatten := by rw [tsR_dropj hi 3 (by decide), ha]; rfl
 have hL5 : (i * 5 + 5 ≤ (tsR ms).flatten.length) = True := by rw [tsR_flen]; simp; omega
 refine WP.S s_r_updA fun _ z => ?_
 simp +decide only [TF, hsg, ↓reduceIte]
 refine CallK.imp (c_r_findA ms hln (pP text).1.id) rfl rfl (by simp [lk, BClo]) (by simp [lk]) (by simp [lk]) ?_
 simp +decide only [TF, hx, ↓reduceIte]
 apply z; clear z
 iterate 4 first | (refine WP.S s_r_updA fun _ z => ?_; simp +decide only [TF, hi1, ↓reduceIte]; apply z; clear z) | (apply WP.skip; show WP ..) | refine WP.cF ?_ | apply WP.seq
 refine WP.S s_r_updA fun _ z => ?_
 simp +decide only [TF, hi, hD2, ↓reduceIte]
 refine CallK.P (c_r_accepting a.keys a.nk (sgnR sig).1 t 0 haok.1.2.2.1 haok.1.2.2.2.1) rfl rfl ?_
 simp +decide only [TF, ↓reduceIte]
 apply z; clear z
 iterate 2 first | (refine WP.S s_r_updA fun _ z => ?_; simp +decide only [TF, ↓reduceIte]; apply z; clear z) | apply WP.seq
 refine WP.cond rfl (fun q3 => ?_) (fun q3 => ?_)
 ·have hR := upd_k (ms := ms) (c := c) (text := text) (sig := sig) (t := t) h1 h2 hF (by assumption)
  refine WP.S s_r_updA fun _ z => ?_; simp +decide only [TF, q3, ↓reduceIte]; apply z; clear z
  apply WP.ret
  refine Ends.imp (.inr rfl) rfl (Le.of_eq (by simp +decide only [St.get, W, hR, ↓reduceIte])) ?_ ?_ ?_
  ·simp
  ·simp [lk, BClo, hR]
  simp [lk]
 have h4 : ((accD a.keys (sgnR sig).1 t 0).2 != 0) = false := by assumption
 iterate 2 first | (apply WP.skip; show WP ..) | apply WP.seq
 refine WP.S s_r_updA fun _ z => ?_
 simp +decide only [TF, q3, ↓reduceIte]
 refine CallK.P (c_r_signature (accD a.keys (sgnR sig).1 t 0).1 text (accD_ok haok.1.2.2.2.2) ht) rfl rfl ?_
 simp +decide only [TF, ↓reduceIte]
 apply z; clear z
 refine WP.cond rfl (fun q4 => ?_) (fun q4 => ?_)
 ·have hR := upd_17 (ms := ms) (c := c) (text := text) (sig := sig) (t := t) h1 h2 hF h4 (by have hq := q4; rw [← hq]; simp [bne]; exact Bool.beq_comm)
  refine WP.S s_r_updA fun _ z => ?_; simp +decide only [TF, q4, ↓reduceIte]; apply z; clear z
  apply WP.ret
  refine Ends.imp (.inr rfl) rfl (Le.of_eq (by simp +decide only [St.get, W, hR, ↓reduceIte])) ?_ ?_ ?_
  ·simp
  ·simp [lk, BClo, hR]
  simp [lk]
 have h5 : (!(sig == sigB (accD a.keys (sgnR sig).1 t 0).1 text)) = false := by have hq := q4; rw [← hq]; simp [bne]; exact Bool.beq_comm
 iterate 3 first | (refine WP.D s_r_updA fun _ z => ?_; simp +decide only [TF, hi, hD3, q4, ↓reduceIte]; refine z _ _ (by kernel_rfl) ?_; clear z) | (apply WP.skip; show WP ..) | apply WP.seq
 refine WP.cond rfl (fun q5 => ?_) (fun q5 => ?_)
 ·have hR := upd_12 (ms := ms) (c := c) (text := text) (sig := sig) (t := t) h1 h2 hF h4 h5 (by assumption)
  refine WP.S s_r_updA fun _ z => ?_; simp +decide only [TF, q5, ↓reduceIte]; apply z; clear z
  apply WP.ret
  refine Ends.imp (.inr rfl) rfl (Le.of_eq (by simp +decide only [St.get, W, hR, ↓reduceIte])) ?_ ?_ ?_
  ·simp
  ·simp [lk, BClo, hR]
  simp [lk]
 have hR := upd_y (ms := ms) (c := c) (text := text) (sig := sig) (t := t) h1 h2 hF h4 h5 (by assumption)
 have hS := setT_pos (x := (pP text).1) hk (show posT ms (pP text).1.id < ms.length by rw [hp0]; exact hi)
 rw [hp0] at hS
 have hP := putT_old (c := c) (x := (pP text).1) hF
 have hPL : (putT ms c (pP text).1.id (pP text).1).length = ms.length := by rw [hP, setT_len]
 have hPS : List.take (i * 5) (tsR ms).flatten ++ D.str (pP text).1.id :: D.str (pP text).1.addr :: D.slice 6 (pP text).1.nk (List.map Key.cs (pP text).1.keys) none :: D.int .i64 (pP text).1.f :: D.int .i64 (pP text).1.u :: List.drop (i * 5 + 5) (tsR ms).flatten = (tsR (putT ms c (pP text).1.id (pP text).1)).flatten := by rw [hP]; exact hS
 iterate 3 first | (refine WP.D s_r_updA fun _ z => ?_; simp +decide only [TF, hi, hL5, q5, ↓reduceIte]; refine z _ _ (by kernel_rfl) ?_; clear z) | (refine WP.S s_r_updA fun _ z => ?_; simp +decide only [TF, ↓reduceIte]; apply z; clear z) | (apply WP.skip; show WP ..)
 apply WP.ret
 refine Ends.imp (.inr rfl) rfl (Le.of_eq (by simp +decide only [St.get, W, hR, ↓reduceIte])) ?_ ?_ ?_
 ·simp
 ·simp [lk, BClo, hR, hPL, hPS]
 simp [lk]
structure Rs where
 p : Par
 l : List (List UInt8)
 nl : Bool
 b : Bool
 e : Int
def Rs.cs (r : Rs) : List D := [.str r.p.id, .str r.p.addr, .slice 6 r.p.nk (r.p.keys.map Key.cs) none, .int .i64 r.p.f, .int .i64 r.p.u, .slice 1 r.nl (r.l.map fun x => [D.str x]) none, .bool r.b, .int .i64 r.e]
def partR (ms : TS) (id : List UInt8) (t : Int) : Par × Int := match findT ms id with | none => (zeroP, 6) | some a => if (chkW a.f a.u t 0 != 0) = true then (zeroP, chkW a.f a.u t 0) else (a, 0)
def doR (ms : TS) (c : Nat) (o : Opd) : Rs :=
 if (o.kind == 1) = true then ⟨zeroP, [], true, false, (anch ms c o.p o.now).1⟩
 else if (o.kind == 2) = true then ⟨zeroP, [], true, false, (upd ms c (textP o.p).1 (signP o.ks (textP o.p).1 o.at_).1 o.now).1⟩
 else if (o.kind == 3) = true then ⟨zeroP, [], true, false, (upd ms c o.text o.sig o.now).1⟩
 else if (o.kind == 4) = true then ⟨(partR ms o.id o.now).1, [], true, false, (partR ms o.id o.now).2⟩
 else if (o.kind == 5) = true then ⟨zeroP, [], true, (findT ms o.id).isSome, 0⟩
 else if (o.kind == 6) = true then ⟨zeroP, listT ms, ms.isEmpty, false, 0⟩
 else ⟨zeroP, [], true, false, 0⟩
theorem part_R (ms : TS) (id : List UInt8) (t : Int) : (∃ e, partD ms id t = .tup [zpD, .int .i64 e] ∧ partR ms id t = (zeroP, e)) ∨ ∃ a : Par, partD ms id t = .tup [.agg a.cs, .int .i64 0] ∧ partR ms id t = (a, 0) := by
 unfold partD partR
 cases hf : findT ms id with
 | none => exact .inl ⟨_, rfl, rfl⟩
 | some a =>
  dsimp only
  by_cases h : (chkW a.f a.u t 0 != 0) = true
  ·rw [if_pos h, if_pos h]; exact .inl ⟨_, rfl, rfl⟩
  ·rw [if_neg h, if_neg h]; exact .inr ⟨_, rfl, rfl⟩
section
variable {ms : TS} {c : Nat} {o : Opd}
theorem doR_1 (h : (o.kind == 1) = true) : doR ms c o = ⟨zeroP, [], true, false, (anch ms c o.p o.now).1⟩ := by unfold doR; rw [if_pos h]
theorem doR_2 (h1 : (o.kind == 1) = false) (h : (o.kind == 2) = true) : doR ms c o = ⟨zeroP, [], true, false, (upd ms c (textP o.p).1 (signP o.ks (textP o.p).1 o.at_).1 o.now).1⟩ := by unfold doR; rw [if_neg (by rw [h1]; simp), if_pos h]
theorem doR_3 (h1 : (o.kind == 1) = false) (h2 : (o.kind == 2) = false) (h : (o.kind == 3) = true) : doR ms c o = ⟨zeroP, [], true, false, (upd ms c o.text o.sig o.now).1⟩ := by unfold doR; rw [if_neg (by rw [h1]; simp), if_neg (by rw [h2]; simp), if_pos h]
theorem doR_4 (h1 : (o.kind == 1) = false) (h2 : (o.kind == 2) = false) (h3 : (o.kind == 3) = false) (h : (o.kind == 4) = true) : doR ms c o = ⟨(partR ms o.id o.now).1, [], true, false, (partR ms o.id o.now).2⟩ := by unfold doR; rw [if_neg (by rw [h1]; simp), if_neg (by rw [h2]; simp), if_neg (by rw [h3]; simp), if_pos h]
theorem doR_5 (h1 : (o.kind == 1) = false) (h2 : (o.kind == 2) = false) (h3 : (o.kind == 3) = false) (h4 : (o.kind == 4) = false) (h : (o.kind == 5) = true) : doR ms c o = ⟨zeroP, [], true, (findT ms o.id).isSome, 0⟩ := by unfold doR; rw [if_neg (by rw [h1]; simp), if_neg (by rw [h2]; simp), if_neg (by rw [h3]; simp), if_neg (by rw [h4]; simp), if_pos h]
theorem doR_6 (h1 : (o.kind == 1) = false) (h2 : (o.kind == 2) = false) (h3 : (o.kind == 3) = false) (h4 : (o.kind == 4) = false) (h5 : (o.kind == 5) = false) (h : (o.kind == 6) = true) : doR ms c o = ⟨zeroP, listT ms, ms.isEmpty, false, 0⟩ := by unfold doR; rw [if_neg (by rw [h1]; simp), if_neg (by rw [h2]; simp), if_neg (by rw [h3]; simp), if_neg (by rw [h4]; simp), if_neg (by rw [h5]; simp), if_pos h]
theorem doR_7 (h1 : (o.kind == 1) = false) (h2 : (o.kind == 2) = false) (h3 : (o.kind == 3) = false) (h4 : (o.kind == 4) = false) (h5 : (o.kind == 5) = false) (h : (o.kind == 6) = false) : doR ms c o = ⟨zeroP, [], true, false, 0⟩ := by unfold doR; rw [if_neg (by rw [h1]; simp), if_neg (by rw [h2]; simp), if_neg (by rw [h3]; simp), if_neg (by rw [h4]; simp), if_neg (by rw [h5]; simp), if_neg (by rw [h]; simp)]
end
theorem le_rz (b : Bool) (e : Int) : Le (.agg [.str [], .str [], .slice 0 true [] none, .int .i64 0, .int .i64 0, .slice 0 true [] none, .bool b, .int .i64 e]) (.agg (Rs.cs ⟨zeroP, [], true, b, e⟩)) :=
 Le.agg ⟨Le.refl _, Le.refl _, Le.nil _ _ _, Le.refl _, Le.refl _, Le.nil _ _ _, Le.refl _, Le.refl _, trivial⟩
theorem le_rl (l : List (List UInt8)) (nl b : Bool) (e : Int) : Le (.agg [.str [], .str [], .slice 0 true [] none, .int .i64 0, .int .i64 0, .slice 1 nl (l.map fun x => [D.str x]) none, .bool b, .int .i64 e]) (.agg (Rs.cs ⟨zeroP, l, nl, b, e⟩)) :=
 Le.agg ⟨Le.refl _, Le.refl _, Le.nil _ _ _, Le.refl _, Le.refl _, Le.refl _, Le.refl _, Le.refl _, trivial⟩
theorem le_rp (a : Par) (e : Int) : Le (.agg [.str a.id, .str a.addr, .slice 6 a.nk (a.keys.map Key.cs) none, .int .i64 a.f, .int .i64 a.u, .slice 0 true [] none, .bool false, .int .i64 e]) (.agg (Rs.cs ⟨a, [], true, false, e⟩)) :=
 Le.agg ⟨Le.refl _, Le.refl _, Le.refl _, Le.refl _, Le.refl _, Le.nil _ _ _, Le.refl _, Le.refl _, trivial⟩
@[simp] theorem clo_rs {S : Nat → Prop} (r : Rs) : (∀ d ∈ r.cs, Clo S d) ↔ True := by
 simp only [iff_true]
 intro d hd
 simp only [Rs.cs, List.mem_cons, List.not_mem_nil, or_false] at hd
 rcases hd with rfl | rfl | rfl | rfl | rfl | rfl | rfl | rfl <;> simp
theorem sz52 (h : 52 < Tryz.prog.types.size) : (Tryz.prog.types[52]'h).size = 8 := by kernel_rfl
theorem partR_ok {ms : TS} (h : TS.ok ms) (id : List UInt8) (t : Int) : (partR ms id t).1.ok := by
 unfold partR
 split
 ·exact zeroP_ok
 ·rename_i a hf
  split
  ·exact zeroP_ok
  ·exact (findT_ok h hf).1
theorem doR_ok {ms : TS} (h : TS.ok ms) (c : Nat) (o : Opd) : (doR ms c o).p.ok := by
 unfold doR
 repeat' split
 all_goals first | exact zeroP_ok | exact partR_ok h _ _
theorem doR_l (ms : TS) (c : Nat) (o : Opd) : (doR ms c o).l.length ≤ ms.length ∧ ((doR ms c o).nl = true → (doR ms c o).l = []) := by
 unfold doR
 repeat' split
 all_goals first | exact ⟨Nat.zero_le _, fun _ => rfl⟩ | skip
 refine ⟨by show (sortS _).length ≤ _; rw [sortS_len]; simp, fun h => ?_⟩
 have : ms = [] := List.isEmpty_iff.1 h
 subst this
 exact List.eq_nil_of_length_eq_zero (by show (sortS _).length = 0; rw [sortS_len]; rfl)
def mnl (ms : TS) (c : Nat) (nl : Bool) (o : Opd) : Bool := if (o.kind == 1) = true then rnl (anch ms c o.p o.now).1 nl else nl
theorem mnl_1 {ms : TS} {c : Nat} {nl : Bool} {o : Opd} (h : (o.kind == 1) = true) : mnl ms c nl o = rnl (anch ms c o.p o.now).1 nl := if_pos h
theorem mnl_n {ms : TS} {c : Nat} {nl : Bool} {o : Opd} (h : (o.kind == 1) = false) : mnl ms c nl o = nl := if_neg (by rw [h]; simp)
theorem upd_nil (c : Nat) (text sig : List UInt8) (t : Int) : (upd [] c text sig t).2 = ([], c) := by
 unfold upd
 split
 ·rename_i h
  obtain ⟨_, _, a, h3, _⟩ := upd_pars h
  cases h3
 ·rfl
theorem delT_none : ∀ {ms : TS} {s : List UInt8}, findT ms s = none → delT ms s = ms
 | [], _, _ => rfl
 | (k, p, n) :: ms, s, h => by
  unfold findT at h
  unfold delT
  split at h
  ·cases h
  ·rename_i e; rw [if_neg e, delT_none h]
theorem ren_tsR (f : Nat → Nat) (ms : TS) : renLL f (tsR ms) = tsR ms := by
 rw [renLL_map]
 refine (List.map_congr_left fun x hx => ?_).trans (List.map_id _)
 obtain ⟨e, _, rfl⟩ := List.mem_map.1 hx
 simp [Par.cs, renD, ren_keys]
theorem c_r_remove7 (ms : TS) (nl : Bool) (hnl : nl = true → ms = []) (hln : ms.length ≤ 1000) (hk : TKey ms) (s : List UInt8) (a : Par) (hF : findT ms s = some a) :
  CallE Pr 67 [.ref 1 0, .str s] [(0, .tip 26 5 ms.length), (1, .box 95 [.slice 5 nl (tsR ms) (some 0)])] (.bool true) [(0, .tip 26 5 ms.length), (7, .tip 26 5 (delT ms s).length), (1, .box 95 [.slice 5 false (tsR (delT ms s)) (some 7)])] := by
 obtain ⟨f, g, h1, h2⟩ := ren_ex [0, 1, 7] (by decide)
 have := CallE.rename h1 (c_r_removeY ms nl hnl hln hk s a hF)
 have f0 : f 0 = 0 := h2 0 0 rfl
 have f1 : f 1 = 1 := h2 1 1 rfl
 have f2 : f 2 = 7 := h2 2 7 rfl
 simpa [renS, ren_tsR, renB, renD, renL, f0, f1, f2] using this
set_option maxRecDepth 10000
set_option maxHeartbeats 4000000
abbrev s_do : List Nat := [0, 3, 4, 5, 6, 8, 11, 12, 21, 45, 56, 69, 76]
theorem c_do (ms : TS) (c : Nat) (hms : TS.ok ms) (hes : EsOk (tsE ms, c)) (hln : ms.length ≤ 1000) (o : Opd) (ho : o.ok) : CallE Pr 27 [.ref 1 0, .agg [.int .i64 o.kind, .str o.p.id, .str o.p.addr, .slice 6 o.p.nk (o.p.keys.map Key.cs) none, .int .i64 o.p.f, .int .i64 o.p.u, .slice 6 o.nk (o.ks.map Key.cs) none, .str o.text, .str o.sig, .str o.id, .int .i64 o.at_, .int .i64 o.now]] [(0, .map (tsE ms) (c)), (1, .box 91 [.map 0])] (.agg (doR ms c o).cs) [(0, .map (tsE (doS ms c o).1) ((doS ms c o).2)), (1, .box 91 [.map 0])] := by
 have htl : (textP o.p).1.length ≤ 4096 := text_len o.p
 have hsl := sign_len (s := (textP o.p).1) (now := o.at_) ho.2.2.2.2.2.2
 refine CallE.of_wp Tryz.func27 rfl (by kernel_rfl) Tryz.ntmps27 (by simp) ?_
 simp only [frameOf, Nat.zero_add, List.map_cons, List.map_nil]
 iterate 6 first | (refine WP.S s_do fun _ z => ?_; simp +decide only [TF, ↓reduceIte]; apply z; clear z) | apply WP.block | apply WP.seq
 refine WP.cond rfl (fun q1 => ?_) (fun q1 => ?_)
 ·have hR := do_1 (ms := ms) (c := c) (o := o) (by assumption)
  have hV := doR_1 (ms := ms) (c := c) (o := o) (by assumption)
  skip
  refine WP.R fun _ z => ?_
  simp +decide only [TF, q1, ↓reduceIte]
  refine CallK.I (c_anchor ms c hms o.p ho.1 o.now) rfl rfl ?_
  simp +decide only [TF, ↓reduceIte]
  apply z; clear z
  show WP ..
  refine WP.S s_do fun _ z => ?_; simp +decide only [TF, ↓reduceIte]; apply z; clear z
  apply WP.ret
  refine Ends.imp (.inr rfl) rfl (by rw [hV]; simp +decide only [W, Pr_prog, sz52]; first | exact le_rz _ _ | exact le_rl _ _ _ _ | (rw [hQ]; first | exact le_rz _ _ | exact le_rp _ _)) ?_ ?_ ?_
  ·simp
  ·simp [lk, BClo, hR]
  simp [lk]
 refine WP.S s_do fun _ z => ?_; simp +decide only [TF, q1, ↓reduceIte]; apply z; clear z
 refine WP.cond rfl (fun q2 => ?_) (fun q2 => ?_)
 ·have hR := do_2 (ms := ms) (c := c) (o := o) (by assumption) (by assumption)
  have hV := doR_2 (ms := ms) (c := c) (o := o) (by assumption) (by assumption)
  skip
  refine WP.S s_do fun _ z => ?_
  simp +decide only [TF, q2, ↓reduceIte]
  refine CallK.P (c_m_text o.p ho.1) rfl rfl ?_
  simp +decide only [TF, ↓reduceIte]
  apply z; clear z
  refine WP.S s_do fun _ z => ?_
  simp +decide only [TF, ↓reduceIte]
  refine CallK.P (c_m_sign o.ks o.nk ho.2.2.1 ho.2.2.2.1 ho.2.1 (textP o.p).1 (by omega) o.at_) rfl rfl ?_
  simp +decide only [TF, ↓reduceIte]
  apply z; clear z
  refine WP.R fun _ z => ?_
  simp +decide only [TF, ↓reduceIte]
  refine CallK.I (c_update ms c hms (textP o.p).1 (signP o.ks (textP o.p).1 o.at_).1 (by omega) (by omega) o.now) rfl rfl ?_
  simp +decide only [TF, ↓reduceIte]
  apply z; clear z
  show WP ..
  refine WP.S s_do fun _ z => ?_; simp +decide only [TF, ↓reduceIte]; apply z; clear z
  apply WP.ret
  refine Ends.imp (.inr rfl) rfl (by rw [hV]; simp +decide only [W, Pr_prog, sz52]; first | exact le_rz _ _ | exact le_rl _ _ _ _ | (rw [hQ]; first | exact le_rz _ _ | exact le_rp _ _)) ?_ ?_ ?_
  ·simp
  ·simp [lk, BClo, hR]
  simp [lk]
 refine WP.S s_do fun _ z => ?_; simp +decide only [TF, q2, ↓reduceIte]; apply z; clear z
 refine WP.cond rfl (fun q3 => ?_) (fun q3 => ?_)
 ·have hR := do_3 (ms := ms) (c := c) (o := o) (by assumption) (by assumption) (by assumption)
  have hV := doR_3 (ms := ms) (c := c) (o := o) (by assumption) (by assumption) (by assumption)
  skip
  refine WP.R fun _ z => ?_
  simp +decide only [TF, q3, ↓reduceIte]
  refine CallK.I (c_update ms c hms o.text o.sig ho.2.2.2.2.1 ho.2.2.2.2.2.1 o.now) rfl rfl ?_
  simp +decide only [TF, ↓reduceIte]
  apply z; clear z
  show WP ..
  refine WP.S s_do fun _ z => ?_; simp +decide only [TF, ↓reduceIte]; apply z; clear z
  apply WP.ret
  refine Ends.imp (.inr rfl) rfl (by rw [hV]; simp +decide only [W, Pr_prog, sz52]; first | exact le_rz _ _ | exact le_rl _ _ _ _ | (rw [hQ]; first | exact le_rz _ _ | exact le_rp _ _)) ?_ ?_ ?_
  ·simp
  ·simp [lk, BClo, hR]
  simp [lk]
 refine WP.S s_do fun _ z => ?_; simp +decide only [TF, q3, ↓reduceIte]; apply z; clear z
 refine WP.cond rfl (fun q4 => ?_) (fun q4 => ?_)
 ·have hR := do_4 (ms := ms) (c := c) (o := o) (by assumption) (by assumption) (by assumption) (by assumption)
  have hV := doR_4 (ms := ms) (c := c) (o := o) (by assumption) (by assumption) (by assumption) (by assumption)
  skip
  rcases part_R ms o.id o.now with ⟨e, hP, hQ⟩ | ⟨a, hP, hQ⟩
  ·refine WP.R fun _ z => ?_
   simp +decide only [TF, q4, ↓reduceIte]
   refine CallK.I (c_partner1 ms c hms o.id o.now) rfl rfl ?_
   simp +decide only [TF, hP, zpD, ↓reduceIte]
   apply z; clear z
   show WP ..
   refine WP.S s_do fun _ z => ?_; simp +decide only [TF, ↓reduceIte]; apply z; clear z
   apply WP.ret
   refine Ends.imp (.inr rfl) rfl (by rw [hV]; simp +decide only [W, Pr_prog, sz52]; first | exact le_rz _ _ | exact le_rl _ _ _ _ | (rw [hQ]; first | exact le_rz _ _ | exact le_rp _ _)) ?_ ?_ ?_
   ·simp
   ·simp [lk, BClo, hR]
   simp [lk]
  refine WP.R fun _ z => ?_
  simp +decide only [TF, q4, ↓reduceIte]
  refine CallK.I (c_partner1 ms c hms o.id o.now) rfl rfl ?_
  simp +decide only [TF, hP, Par.cs, ↓reduceIte]
  apply z; clear z
  show WP ..
  refine WP.S s_do fun _ z => ?_; simp +decide only [TF, ↓reduceIte]; apply z; clear z
  apply WP.ret
  refine Ends.imp (.inr rfl) rfl (by rw [hV]; simp +decide only [W, Pr_prog, sz52]; first | exact le_rz _ _ | exact le_rl _ _ _ _ | (rw [hQ]; first | exact le_rz _ _ | exact le_rp _ _)) ?_ ?_ ?_
  ·simp
  ·simp [lk, BClo, hR]
  simp [lk]
 refine WP.S s_do fun _ z => ?_; simp +decide only [TF, q4, ↓reduceIte]; apply z; clear z
 refine WP.cond rfl (fun q5 => ?_) (fun q5 => ?_)
 ·have hR := do_5 (ms := ms) (c := c) (o := o) (by assumption) (by assumption) (by assumption) (by assumption) (by assumption)
  have hV := doR_5 (ms := ms) (c := c) (o := o) (by assumption) (by assumption) (by assumption) (by assumption) (by assumption)
  skip
  refine WP.R fun _ z => ?_
  simp +decide only [TF, q5, ↓reduceIte]
  refine CallK.I (c_remove ms c o.id) rfl rfl ?_
  simp +decide only [TF, ↓reduceIte]
  apply z; clear z
  show WP ..
  refine WP.S s_do fun _ z => ?_; simp +decide only [TF, ↓reduceIte]; apply z; clear z
  apply WP.ret
  refine Ends.imp (.inr rfl) rfl (by rw [hV]; simp +decide only [W, Pr_prog, sz52]; first | exact le_rz _ _ | exact le_rl _ _ _ _ | (rw [hQ]; first | exact le_rz _ _ | exact le_rp _ _)) ?_ ?_ ?_
  ·simp
  ·simp [lk, BClo, hR]
  simp [lk]
 refine WP.S s_do fun _ z => ?_; simp +decide only [TF, q5, ↓reduceIte]; apply z; clear z
 refine WP.cond rfl (fun q6 => ?_) (fun q6 => ?_)
 ·have hR := do_6 (ms := ms) (c := c) (o := o) (by assumption) (by assumption) (by assumption) (by assumption) (by assumption)
  have hV := doR_6 (ms := ms) (c := c) (o := o) (by assumption) (by assumption) (by assumption) (by assumption) (by assumption) (by assumption)
  skip
  refine WP.R fun _ z => ?_
  simp +decide only [TF, q6, ↓reduceIte]
  refine CallK.I (c_list ms c hes (by omega)) rfl rfl ?_
  simp +decide only [TF, listD, ↓reduceIte]
  apply z; clear z
  show WP ..
  refine WP.S s_do fun _ z => ?_; simp +decide only [TF, ↓reduceIte]; apply z; clear z
  apply WP.ret
  refine Ends.imp (.inr rfl) rfl (by rw [hV]; simp +decide only [W, Pr_prog, sz52]; first | exact le_rz _ _ | exact le_rl _ _ _ _ | (rw [hQ]; first | exact le_rz _ _ | exact le_rp _ _)) ?_ ?_ ?_
  ·simp
  ·simp [lk, BClo, hR]
  simp [lk]
 have hR := do_6 (ms := ms) (c := c) (o := o) (by assumption) (by assumption) (by assumption) (by assumption) (by assumption)
 have hV := doR_7 (ms := ms) (c := c) (o := o) (by assumption) (by assumption) (by assumption) (by assumption) (by assumption) (by assumption)
 skip
 iterate 2 first | (refine WP.S s_do fun _ z => ?_; simp +decide only [TF, q6, ↓reduceIte]; apply z; clear z) | (apply WP.skip; show WP ..)
 apply WP.ret
 refine Ends.imp (.inr rfl) rfl (by rw [hV]; simp +decide only [W, Pr_prog, sz52]; first | exact le_rz _ _ | exact le_rl _ _ _ _ | (rw [hQ]; first | exact le_rz _ _ | exact le_rp _ _)) ?_ ?_ ?_
 ·simp
 ·simp [lk, BClo, hR]
 simp [lk]
abbrev s_modelT : List Nat := [0, 3, 4, 5, 6, 8, 11, 12, 21, 45, 56, 69, 76]
theorem c_modelT (ms : TS) (nl : Bool) (hnl : nl = true → ms = []) (hln : ms.length ≤ 1000) (hk : TKey ms) (c : Nat) (hms : TS.ok ms) (hnd : (ms.map (·.1)).Nodup) (o : Opd) (ho : o.ok) (h23 : (o.kind == 2) = true ∨ (o.kind == 3) = true → ms = []) (h5 : (o.kind == 5) = true → findT ms o.id = none) : CallE Pr 28 [.ref 1 0, .agg [.int .i64 o.kind, .str o.p.id, .str o.p.addr, .slice 6 o.p.nk (o.p.keys.map Key.cs) none, .int .i64 o.p.f, .int .i64 o.p.u, .slice 6 o.nk (o.ks.map Key.cs) none, .str o.text, .str o.sig, .str o.id, .int .i64 o.at_, .int .i64 o.now]] [(0, .tip 26 5 ms.length), (1, .box 95 [.slice 5 nl (tsR ms) (some 0)])] (.agg (doR ms c o).cs) [(0, .tip 26 5 ((doS ms c o).1).length), (1, .box 95 [.slice 5 (mnl ms c nl o) (tsR ((doS ms c o).1)) (some 0)])] := by
 have htl : (textP o.p).1.length ≤ 4096 := text_len o.p
 have hsl := sign_len (s := (textP o.p).1) (now := o.at_) ho.2.2.2.2.2.2
 refine CallE.of_wp Tryz.func28 rfl (by kernel_rfl) Tryz.ntmps28 (by simp) ?_
 simp only [frameOf, Nat.zero_add, List.map_cons, List.map_nil]
 iterate 6 first | (refine WP.S s_modelT fun _ z => ?_; simp +decide only [TF, ↓reduceIte]; apply z; clear z) | apply WP.block | apply WP.seq
 refine WP.cond rfl (fun q1 => ?_) (fun q1 => ?_)
 ·have hR := do_1 (ms := ms) (c := c) (o := o) (by assumption)
  have hV := doR_1 (ms := ms) (c := c) (o := o) (by assumption)
  have hM := mnl_1 (ms := ms) (c := c) (nl := nl) (o := o) (by assumption)
  refine WP.R fun _ z => ?_
  simp +decide only [TF, q1, ↓reduceIte]
  refine CallK.imp (c_r_anchor ms nl hnl hln hk c o.p ho.1 o.now) rfl rfl (by simp [lk, BClo]) (by simp [lk]) (by simp [lk]) ?_
  simp +decide only [TF, ↓reduceIte]
  apply z; clear z
  show WP ..
  refine WP.S s_modelT fun _ z => ?_; simp +decide only [TF, ↓reduceIte]; apply z; clear z
  apply WP.ret
  refine Ends.imp (.inr rfl) rfl (by rw [hV]; simp +decide only [W, Pr_prog, sz52]; first | exact le_rz _ _ | exact le_rl _ _ _ _ | (rw [hQ]; first | exact le_rz _ _ | exact le_rp _ _)) ?_ ?_ ?_
  ·simp
  ·simp [lk, BClo, hR, hM]
  simp [lk]
 refine WP.S s_modelT fun _ z => ?_; simp +decide only [TF, q1, ↓reduceIte]; apply z; clear z
 refine WP.cond rfl (fun q2 => ?_) (fun q2 => ?_)
 ·have h0 := h23 (.inl (by assumption))
  have hU : (upd ms c (textP o.p).1 (signP o.ks (textP o.p).1 o.at_).1 o.now).2 = (ms, c) := by rw [h0]; exact upd_nil _ _ _ _
  have hR := do_2 (ms := ms) (c := c) (o := o) (by assumption) (by assumption)
  have hV := doR_2 (ms := ms) (c := c) (o := o) (by assumption) (by assumption)
  have hM := mnl_n (ms := ms) (c := c) (nl := nl) (o := o) (by assumption)
  refine WP.S s_modelT fun _ z => ?_
  simp +decide only [TF, q2, ↓reduceIte]
  refine CallK.P (c_r_text43 o.p ho.1) rfl rfl ?_
  simp +decide only [TF, ↓reduceIte]
  apply z; clear z
  refine WP.S s_modelT fun _ z => ?_
  simp +decide only [TF, ↓reduceIte]
  refine CallK.P (c_r_sign o.ks o.nk ho.2.2.1 ho.2.2.2.1 ho.2.1 (textP o.p).1 (by omega) o.at_) rfl rfl ?_
  simp +decide only [TF, ↓reduceIte]
  apply z; clear z
  refine WP.R fun _ z => ?_
  simp +decide only [TF, ↓reduceIte]
  refine CallK.imp (c_r_upd0 ms nl hnl hln hk c (textP o.p).1 (signP o.ks (textP o.p).1 o.at_).1 (by omega) (by omega) o.now h0) rfl rfl (by simp [lk, BClo]) (by simp [lk]) (by simp [lk]) ?_
  simp +decide only [TF, ↓reduceIte]
  apply z; clear z
  show WP ..
  refine WP.S s_modelT fun _ z => ?_; simp +decide only [TF, ↓reduceIte]; apply z; clear z
  apply WP.ret
  refine Ends.imp (.inr rfl) rfl (by rw [hV]; simp +decide only [W, Pr_prog, sz52]; first | exact le_rz _ _ | exact le_rl _ _ _ _ | (rw [hQ]; first | exact le_rz _ _ | exact le_rp _ _)) ?_ ?_ ?_
  ·simp
  ·simp [lk, BClo, hR, hM, hU]
  simp [lk]
 refine WP.S s_modelT fun _ z => ?_; simp +decide only [TF, q2, ↓reduceIte]; apply z; clear z
 refine WP.cond rfl (fun q3 => ?_) (fun q3 => ?_)
 ·have h0 := h23 (.inr (by assumption))
  have hU : (upd ms c o.text o.sig o.now).2 = (ms, c) := by rw [h0]; exact upd_nil _ _ _ _
  have hR := do_3 (ms := ms) (c := c) (o := o) (by assumption) (by assumption) (by assumption)
  have hV := doR_3 (ms := ms) (c := c) (o := o) (by assumption) (by assumption) (by assumption)
  have hM := mnl_n (ms := ms) (c := c) (nl := nl) (o := o) (by assumption)
  refine WP.R fun _ z => ?_
  simp +decide only [TF, q3, ↓reduceIte]
  refine CallK.imp (c_r_upd0 ms nl hnl hln hk c o.text o.sig ho.2.2.2.2.1 ho.2.2.2.2.2.1 o.now h0) rfl rfl (by simp [lk, BClo]) (by simp [lk]) (by simp [lk]) ?_
  simp +decide only [TF, ↓reduceIte]
  apply z; clear z
  show WP ..
  refine WP.S s_modelT fun _ z => ?_; simp +decide only [TF, ↓reduceIte]; apply z; clear z
  apply WP.ret
  refine Ends.imp (.inr rfl) rfl (by rw [hV]; simp +decide only [W, Pr_prog, sz52]; first | exact le_rz _ _ | exact le_rl _ _ _ _ | (rw [hQ]; first | exact le_rz _ _ | exact le_rp _ _)) ?_ ?_ ?_
  ·simp
  ·simp [lk, BClo, hR, hM, hU]
  simp [lk]
 refine WP.S s_modelT fun _ z => ?_; simp +decide only [TF, q3, ↓reduceIte]; apply z; clear z
 refine WP.cond rfl (fun q4 => ?_) (fun q4 => ?_)
 ·have hR := do_4 (ms := ms) (c := c) (o := o) (by assumption) (by assumption) (by assumption) (by assumption)
  have hV := doR_4 (ms := ms) (c := c) (o := o) (by assumption) (by assumption) (by assumption) (by assumption)
  have hM := mnl_n (ms := ms) (c := c) (nl := nl) (o := o) (by assumption)
  rcases part_R ms o.id o.now with ⟨e, hP, hQ⟩ | ⟨a, hP, hQ⟩
  ·refine WP.R fun _ z => ?_
   simp +decide only [TF, q4, ↓reduceIte]
   refine CallK.imp (c_r_partner43 ms nl hnl hln hk o.id o.now) rfl rfl (by simp [lk, BClo]) (by simp [lk]) (by simp [lk]) ?_
   simp +decide only [TF, hP, zpD, ↓reduceIte]
   apply z; clear z
   show WP ..
   refine WP.S s_modelT fun _ z => ?_; simp +decide only [TF, ↓reduceIte]; apply z; clear z
   apply WP.ret
   refine Ends.imp (.inr rfl) rfl (by rw [hV]; simp +decide only [W, Pr_prog, sz52]; first | exact le_rz _ _ | exact le_rl _ _ _ _ | (rw [hQ]; first | exact le_rz _ _ | exact le_rp _ _)) ?_ ?_ ?_
   ·simp
   ·simp [lk, BClo, hR, hM]
   simp [lk]
  refine WP.R fun _ z => ?_
  simp +decide only [TF, q4, ↓reduceIte]
  refine CallK.imp (c_r_partner43 ms nl hnl hln hk o.id o.now) rfl rfl (by simp [lk, BClo]) (by simp [lk]) (by simp [lk]) ?_
  simp +decide only [TF, hP, Par.cs, ↓reduceIte]
  apply z; clear z
  show WP ..
  refine WP.S s_modelT fun _ z => ?_; simp +decide only [TF, ↓reduceIte]; apply z; clear z
  apply WP.ret
  refine Ends.imp (.inr rfl) rfl (by rw [hV]; simp +decide only [W, Pr_prog, sz52]; first | exact le_rz _ _ | exact le_rl _ _ _ _ | (rw [hQ]; first | exact le_rz _ _ | exact le_rp _ _)) ?_ ?_ ?_
  ·simp
  ·simp [lk, BClo, hR, hM]
  simp [lk]
 refine WP.S s_modelT fun _ z => ?_; simp +decide only [TF, q4, ↓reduceIte]; apply z; clear z
 refine WP.cond rfl (fun q5 => ?_) (fun q5 => ?_)
 ·have hF := h5 (by assumption)
  have hDl := delT_none hF
  have hR := do_5 (ms := ms) (c := c) (o := o) (by assumption) (by assumption) (by assumption) (by assumption) (by assumption)
  have hV := doR_5 (ms := ms) (c := c) (o := o) (by assumption) (by assumption) (by assumption) (by assumption) (by assumption)
  have hM := mnl_n (ms := ms) (c := c) (nl := nl) (o := o) (by assumption)
  rw [hDl] at hR
  rw [hF] at hV
  refine WP.R fun _ z => ?_
  simp +decide only [TF, q5, ↓reduceIte]
  refine CallK.imp (c_r_removeN ms nl hnl hln hk o.id hF) rfl rfl (by simp [lk, BClo]) (by simp [lk]) (by simp [lk]) ?_
  simp +decide only [TF, ↓reduceIte]
  apply z; clear z
  show WP ..
  refine WP.S s_modelT fun _ z => ?_; simp +decide only [TF, ↓reduceIte]; apply z; clear z
  apply WP.ret
  refine Ends.imp (.inr rfl) rfl (by rw [hV]; simp +decide only [W, Pr_prog, sz52]; first | exact le_rz _ _ | exact le_rl _ _ _ _ | (rw [hQ]; first | exact le_rz _ _ | exact le_rp _ _)) ?_ ?_ ?_
  ·simp
  ·simp [lk, BClo, hR, hM]
  simp [lk]
 refine WP.S s_modelT fun _ z => ?_; simp +decide only [TF, q5, ↓reduceIte]; apply z; clear z
 refine WP.cond rfl (fun q6 => ?_) (fun q6 => ?_)
 ·have hR := do_6 (ms := ms) (c := c) (o := o) (by assumption) (by assumption) (by assumption) (by assumption) (by assumption)
  have hV := doR_6 (ms := ms) (c := c) (o := o) (by assumption) (by assumption) (by assumption) (by assumption) (by assumption) (by assumption)
  have hM := mnl_n (ms := ms) (c := c) (nl := nl) (o := o) (by assumption)
  refine WP.R fun _ z => ?_
  simp +decide only [TF, q6, ↓reduceIte]
  refine CallK.imp (c_r_list ms nl hnl hln hk hnd) rfl rfl (by simp [lk, BClo]) (by simp [lk]) (by simp [lk]) ?_
  simp +decide only [TF, listD, ↓reduceIte]
  apply z; clear z
  show WP ..
  refine WP.S s_modelT fun _ z => ?_; simp +decide only [TF, ↓reduceIte]; apply z; clear z
  apply WP.ret
  refine Ends.imp (.inr rfl) rfl (by rw [hV]; simp +decide only [W, Pr_prog, sz52]; first | exact le_rz _ _ | exact le_rl _ _ _ _ | (rw [hQ]; first | exact le_rz _ _ | exact le_rp _ _)) ?_ ?_ ?_
  ·simp
  ·simp [lk, BClo, hR, hM]
  simp [lk]
 have hR := do_6 (ms := ms) (c := c) (o := o) (by assumption) (by assumption) (by assumption) (by assumption) (by assumption)
 have hV := doR_7 (ms := ms) (c := c) (o := o) (by assumption) (by assumption) (by assumption) (by assumption) (by assumption) (by assumption)
 have hM := mnl_n (ms := ms) (c := c) (nl := nl) (o := o) (by assumption)
 iterate 2 first | (refine WP.S s_modelT fun _ z => ?_; simp +decide only [TF, q6, ↓reduceIte]; apply z; clear z) | (apply WP.skip; show WP ..)
 apply WP.ret
 refine Ends.imp (.inr rfl) rfl (by rw [hV]; simp +decide only [W, Pr_prog, sz52]; first | exact le_rz _ _ | exact le_rl _ _ _ _ | (rw [hQ]; first | exact le_rz _ _ | exact le_rp _ _)) ?_ ?_ ?_
 ·simp
 ·simp [lk, BClo, hR, hM]
 simp [lk]
theorem c_modelY (ms : TS) (nl : Bool) (hnl : nl = true → ms = []) (hln : ms.length ≤ 1000) (hk : TKey ms) (c : Nat) (o : Opd) (h5 : (o.kind == 5) = true) (a : Par) (hF : findT ms o.id = some a) : CallE Pr 28 [.ref 1 0, .agg [.int .i64 o.kind, .str o.p.id, .str o.p.addr, .slice 6 o.p.nk (o.p.keys.map Key.cs) none, .int .i64 o.p.f, .int .i64 o.p.u, .slice 6 o.nk (o.ks.map Key.cs) none, .str o.text, .str o.sig, .str o.id, .int .i64 o.at_, .int .i64 o.now]] [(0, .tip 26 5 ms.length), (1, .box 95 [.slice 5 nl (tsR ms) (some 0)])] (.agg (doR ms c o).cs) [(0, .tip 26 5 ms.length), (7, .tip 26 5 (doS ms c o).1.length), (1, .box 95 [.slice 5 false (tsR ((doS ms c o).1)) (some 7)])] := by
 have e5 : o.kind = 5 := by simpa using h5
 have hk1 : (o.kind == 1) = false := by rw [e5]; rfl
 have hk2 : (o.kind == 2) = false := by rw [e5]; rfl
 have hk3 : (o.kind == 3) = false := by rw [e5]; rfl
 have hk4 : (o.kind == 4) = false := by rw [e5]; rfl
 have hR := do_5 (ms := ms) (c := c) (o := o) hk1 hk2 hk3 hk4 h5
 have hV := doR_5 (ms := ms) (c := c) (o := o) hk1 hk2 hk3 hk4 h5
 rw [hF] at hV
 refine CallE.of_wp Tryz.func28 rfl (by kernel_rfl) Tryz.ntmps28 (by simp) ?_
 simp only [frameOf, Nat.zero_add, List.map_cons, List.map_nil]
 iterate 15 first | (refine WP.S [0, 3, 4, 5, 11, 12, 21, 45, 56, 69] fun _ z => ?_; simp +decide only [TF, hk1, hk2, hk3, hk4, h5, ↓reduceIte]; apply z; clear z) | apply WP.block | refine WP.cF ?_ | refine WP.cT ?_ | apply WP.seq
 refine WP.R fun _ z => ?_
 simp +decide only [TF, ↓reduceIte]
 refine CallK.imp (c_r_remove7 ms nl hnl hln hk o.id a hF) rfl rfl (by simp [lk, BClo]) (by simp [lk]) (by simp [lk]) ?_
 simp +decide only [TF, ↓reduceIte]
 apply z; clear z
 show WP ..
 refine WP.S [0, 3, 4, 5, 11, 12, 21, 45, 56, 69] fun _ z => ?_; simp +decide only [TF, ↓reduceIte]; apply z; clear z
 apply WP.ret
 refine Ends.imp (.inr rfl) rfl (by rw [hV]; simp +decide only [W, Pr_prog, sz52]; first | exact le_rz _ _ | exact le_rl _ _ _ _ | (rw [hQ]; first | exact le_rz _ _ | exact le_rp _ _)) ?_ ?_ ?_
 ·simp
 ·simp [lk, BClo, hR]
 simp [lk]
abbrev s_modelA : List Nat := [0, 3, 4, 5, 6, 8, 11, 12, 21, 45]
theorem c_modelA (ms : TS) (hln : ms.length ≤ 1000) (hk : TKey ms) (hms : TS.ok ms) (c : Nat) (o : Opd) (ho : o.ok) (h1 : (o.kind == 1) = false) (h23 : (o.kind == 2) = true ∨ (o.kind == 3) = true) : CallE Pr 28 [.ref 1 0, .agg [.int .i64 o.kind, .str o.p.id, .str o.p.addr, .slice 6 o.p.nk (o.p.keys.map Key.cs) none, .int .i64 o.p.f, .int .i64 o.p.u, .slice 6 o.nk (o.ks.map Key.cs) none, .str o.text, .str o.sig, .str o.id, .int .i64 o.at_, .int .i64 o.now]] [(0, .arr 26 (tsR ms).flatten), (1, .box 95 [.arr 0 5 ms.length])] (.agg (doR ms c o).cs) [(0, .arr 26 (tsR ((doS ms c o).1)).flatten), (1, .box 95 [.arr 0 5 ((doS ms c o).1).length])] := by
 have htl : (textP o.p).1.length ≤ 4096 := text_len o.p
 have hsl := sign_len (s := (textP o.p).1) (now := o.at_) ho.2.2.2.2.2.2
 refine CallE.of_wp Tryz.func28 rfl (by kernel_rfl) Tryz.ntmps28 (by simp) ?_
 simp only [frameOf, Nat.zero_add, List.map_cons, List.map_nil]
 iterate 8 first | (refine WP.S s_modelA fun _ z => ?_; simp +decide only [TF, h1, ↓reduceIte]; apply z; clear z) | apply WP.block | refine WP.cF ?_ | apply WP.seq
 refine WP.cond rfl (fun q1 => ?_) (fun q1 => ?_)
 ·have hR := do_2 (ms := ms) (c := c) (o := o) (by assumption) (by assumption)
  have hV := doR_2 (ms := ms) (c := c) (o := o) (by assumption) (by assumption)
  skip
  refine WP.S s_modelA fun _ z => ?_
  simp +decide only [TF, q1, ↓reduceIte]
  refine CallK.P (c_r_text43 o.p ho.1) rfl rfl ?_
  simp +decide only [TF, ↓reduceIte]
  apply z; clear z
  refine WP.S s_modelA fun _ z => ?_
  simp +decide only [TF, ↓reduceIte]
  refine CallK.P (c_r_sign o.ks o.nk ho.2.2.1 ho.2.2.2.1 ho.2.1 (textP o.p).1 (by omega) o.at_) rfl rfl ?_
  simp +decide only [TF, ↓reduceIte]
  apply z; clear z
  refine WP.R fun _ z => ?_
  simp +decide only [TF, ↓reduceIte]
  refine CallK.imp (c_r_updA ms hln hk hms c (textP o.p).1 (signP o.ks (textP o.p).1 o.at_).1 (by omega) (by omega) o.now) rfl rfl (by simp [lk, BClo]) (by simp [lk]) (by simp [lk]) ?_
  simp +decide only [TF, ↓reduceIte]
  apply z; clear z
  show WP ..
  refine WP.S s_modelA fun _ z => ?_; simp +decide only [TF, ↓reduceIte]; apply z; clear z
  apply WP.ret
  refine Ends.imp (.inr rfl) rfl (by rw [hV]; simp +decide only [W, Pr_prog, sz52]; first | exact le_rz _ _ | exact le_rl _ _ _ _ | (rw [hQ]; first | exact le_rz _ _ | exact le_rp _ _)) ?_ ?_ ?_
  ·simp
  ·simp [lk, BClo, hR]
  simp [lk]
 refine WP.S s_modelA fun _ z => ?_; simp +decide only [TF, q1, ↓reduceIte]; apply z; clear z
 refine WP.cond rfl (fun q2 => ?_) (fun q2 => ?_)
 ·have hR := do_3 (ms := ms) (c := c) (o := o) (by assumption) (by assumption) (by assumption)
  have hV := doR_3 (ms := ms) (c := c) (o := o) (by assumption) (by assumption) (by assumption)
  skip
  refine WP.R fun _ z => ?_
  simp +decide only [TF, q2, ↓reduceIte]
  refine CallK.imp (c_r_updA ms hln hk hms c o.text o.sig ho.2.2.2.2.1 ho.2.2.2.2.2.1 o.now) rfl rfl (by simp [lk, BClo]) (by simp [lk]) (by simp [lk]) ?_
  simp +decide only [TF, ↓reduceIte]
  apply z; clear z
  show WP ..
  refine WP.S s_modelA fun _ z => ?_; simp +decide only [TF, ↓reduceIte]; apply z; clear z
  apply WP.ret
  refine Ends.imp (.inr rfl) rfl (by rw [hV]; simp +decide only [W, Pr_prog, sz52]; first | exact le_rz _ _ | exact le_rl _ _ _ _ | (rw [hQ]; first | exact le_rz _ _ | exact le_rp _ _)) ?_ ?_ ?_
  ·simp
  ·simp [lk, BClo, hR]
  simp [lk]
 exact (by simp_all : False).elim
def patP : List Kd := [.s, .s, .l, .i, .i]
theorem sh_keys (t : Nat) (l : List Key) (nk : Bool) : ShG t patP (.slice 6 nk (l.map Key.cs) none) := by
 refine .slice (fun e he d hd => ?_) (fun e he => ?_) nofun
 ·obtain ⟨k, _, rfl⟩ := List.mem_map.1 he
  simp only [Key.cs, List.mem_cons, List.not_mem_nil, or_false] at hd
  rcases hd with rfl | rfl | rfl | rfl | rfl | rfl <;> first | exact .str _ | exact .int _ _
 ·have := List.mem_of_getElem? he
  obtain ⟨k, _, rfl⟩ := List.mem_map.1 this
  rfl
theorem sh_par (t : Nat) (p : Par) : ∀ d ∈ p.cs, ShG t patP d := by
 intro d hd
 simp only [Par.cs, List.mem_cons, List.not_mem_nil, or_false] at hd
 rcases hd with rfl | rfl | rfl | rfl | rfl <;> first | exact .str _ | exact .int _ _ | exact sh_keys _ _ _
theorem sh_opds (t : Nat) (l : List Opd) (nl : Bool) : ShG t patP (.slice 12 nl (l.map Opd.cs) none) := by
 refine .slice (fun e he d hd => ?_) (fun e he => ?_) nofun
 ·obtain ⟨o, _, rfl⟩ := List.mem_map.1 he
  simp only [Opd.cs, List.mem_cons, List.not_mem_nil, or_false] at hd
  rcases hd with rfl | rfl | rfl | rfl | rfl | rfl | rfl | rfl | rfl | rfl | rfl | rfl <;> first | exact .str _ | exact .int _ _ | exact sh_keys _ _ _
 ·have := List.mem_of_getElem? he
  obtain ⟨o, _, rfl⟩ := List.mem_map.1 this
  have e : o.cs.map kdD = [some .i, some .s, some .s, some .l, some .i, some .i, some .l, some .s, some .s, some .s, some .i, some .i] := rfl
  rw [e]
  decide
def sgA (ms : TS) (c : Nat) : List (Nat × Blk) := [(0, .map (tsE ms) c), (1, .box 91 [.map 0]), (2, .arr 26 (tsR ms).flatten), (3, .box 95 [.arr 2 5 ms.length])]
theorem weak_toA {st st' : St} {ms : TS} {c : Nat} (h0 : lk st.σ 0 = some (.map (tsE ms) c)) (h1 : lk st.σ 1 = some (.box 91 [.map 0])) (h2 : lk st.σ 2 = some (.tip 26 5 ms.length)) (h3 : lk st.σ 3 = some (.box 95 [.slice 5 false (tsR ms) (some 2)])) (hn : ∀ i, 3 < i → lk st.σ i = none)
  (hF : ∀ p ∈ st'.F, st.get p.1 = p.2 ∧ ShG 2 patP p.2) (hs : st'.σ = sgA ms c) : Weak [] st st' := by
 refine Weak.tipArrG 2 patP 26 5 (tsR ms) 3 95 _ 0 h3 rfl (by rw [tsR_len]; exact h2) (by decide) rfl (fun x hx => ?_) hF (by rw [hs]; rfl) (fun b hb => ?_)
 ·obtain ⟨e, _, rfl⟩ := List.mem_map.1 hx
  exact ⟨rfl, sh_par _ _⟩
 ·rw [hs]
  rcases (by omega : b = 0 ∨ b = 1 ∨ b = 3 ∨ 3 < b ∨ b = 2) with rfl | rfl | rfl | h | h
  ·refine .inr ⟨_, _, h0, rfl, rfl, fun e he => ?_⟩
   obtain ⟨x, _, rfl⟩ := List.mem_map.1 he
   exact .agg (sh_par _ _)
  ·exact .inr ⟨_, _, h1, rfl, rfl, .inl ⟨rfl, .map (by decide)⟩, trivial⟩
  ·refine .inr ⟨_, _, h3, rfl, rfl, .inr ⟨rfl, by rw [tsR_len]⟩, trivial⟩
  ·refine .inl ⟨hn b h, ?_⟩
   simp only [sgA, lk]
   rw [if_neg (by omega), if_neg (by omega), if_neg (by omega), if_neg (by omega)]
  ·exact absurd h hb
def sgT (ms : TS) (c : Nat) (nl : Bool) (x y : List D) : List (Nat × Blk) := [(0, .map (tsE ms) c), (1, .box 91 [.map 0]), (2, .tip 26 5 ms.length), (3, .box 95 [.slice 5 nl (tsR ms) (some 2)]), (4, .box 52 x), (5, .box 52 y)]
theorem clo_ne {S : Nat → Prop} (r : Rs) : ∀ d ∈ r.cs, Clo S d := (clo_rs r).2 trivial
theorem weak_toT {st st' : St} {ms : TS} {c : Nat} {x y : Rs} (h0 : lk st.σ 0 = some (.map (tsE ms) c)) (h1 : lk st.σ 1 = some (.box 91 [.map 0])) (h2 : lk st.σ 2 = some (.arr 26 (tsR ms).flatten)) (h3 : lk st.σ 3 = some (.box 95 [.arr 2 5 ms.length]))
  (h4 : lk st.σ 4 = some (.box 52 x.cs)) (h5 : lk st.σ 5 = some (.box 52 y.cs)) (hn : ∀ i, 5 < i → lk st.σ i = none)
  (hF : ∀ p ∈ st'.F, st.get p.1 = p.2 ∧ Clo (fun i => i ≠ 2) p.2) (hs : st'.σ = sgT ms c false x.cs y.cs) : Weak [] st st' := by
 refine Weak.arrTipB 2 26 5 (tsR ms) 3 95 _ 0 h3 (by rw [tsR_len]; rfl) h2 (fun x hx => ?_) (by simp) hF (fun x hx => ?_) (by rw [hs, tsR_len]; rfl) (fun b hb => ?_)
 ·obtain ⟨e, _, rfl⟩ := List.mem_map.1 hx; rfl
 ·exact (clo_tsR ms).2 trivial x hx
 ·rw [hs]
  rcases (by omega : b = 0 ∨ b = 1 ∨ b = 3 ∨ b = 4 ∨ b = 5 ∨ 5 < b ∨ b = 2) with rfl | rfl | rfl | rfl | rfl | h | h
  ·refine .inr ⟨_, _, h0, rfl, rfl, fun e he => ?_⟩
   obtain ⟨x, _, rfl⟩ := List.mem_map.1 he
   simp [Par.cs]
  ·exact .inr ⟨_, _, h1, rfl, rfl, .inl ⟨rfl, .map (by decide)⟩, trivial⟩
  ·refine .inr ⟨_, _, h3, rfl, rfl, .inr ⟨by rw [tsR_len], rfl⟩, trivial⟩
  ·exact .inr ⟨_, _, h4, rfl, rfl, .inl ⟨rfl, .str _⟩, .inl ⟨rfl, .str _⟩, .inl ⟨rfl, by simp⟩, .inl ⟨rfl, .int _ _⟩, .inl ⟨rfl, .int _ _⟩, .inl ⟨rfl, by simp⟩, .inl ⟨rfl, .bool _⟩, .inl ⟨rfl, .int _ _⟩, trivial⟩
  ·exact .inr ⟨_, _, h5, rfl, rfl, .inl ⟨rfl, .str _⟩, .inl ⟨rfl, .str _⟩, .inl ⟨rfl, by simp⟩, .inl ⟨rfl, .int _ _⟩, .inl ⟨rfl, .int _ _⟩, .inl ⟨rfl, by simp⟩, .inl ⟨rfl, .bool _⟩, .inl ⟨rfl, .int _ _⟩, trivial⟩
  ·refine .inl ⟨hn b h, ?_⟩
   simp only [sgT, lk]
   rw [if_neg (by omega), if_neg (by omega), if_neg (by omega), if_neg (by omega), if_neg (by omega), if_neg (by omega)]
  ·exact absurd h hb
theorem ren_opds (f : Nat → Nat) (l : List Opd) : renLL f (l.map Opd.cs) = l.map Opd.cs := by
 rw [renLL_map]
 refine (List.map_congr_left fun x hx => ?_).trans (List.map_id _)
 obtain ⟨o, _, rfl⟩ := List.mem_map.1 hx
 simp [Opd.cs, renD, ren_keys]
theorem ren_rs (f : Nat → Nat) (r : Rs) : renL f r.cs = r.cs := ren_cloL f fun d hd => clo_ne r d hd
theorem weak_ren {st st' : St} {ms : TS} {c : Nat} {nl : Bool} {x y : Rs} {g : D} {l : List Opd} {n k : Int} (hs : st.σ = [(0, .map (tsE ms) c), (1, .box 91 [.map 0]), (4, .tip 26 5 ms.length), (3, .box 95 [.slice 5 nl (tsR ms) (some 4)]), (5, .box 52 x.cs), (6, .box 52 y.cs)])
  (hF : st.F = [(0, .slice 12 false (l.map Opd.cs) none), (3, .ref 1 0), (4, .ref 3 0), (6, .ref 5 0), (7, .ref 6 0), (18, .int .i64 n), (19, .int .i64 k)]) (hs' : st'.σ = sgT ms c nl x.cs y.cs)
  (hF' : st'.F = [(0, .slice 12 false (l.map Opd.cs) none), (3, .ref 1 0), (4, .ref 3 0), (6, .ref 4 0), (7, .ref 5 0), (18, .int .i64 n), (19, .int .i64 k)]) : Weak [] st st' := by
 obtain ⟨f, g, h1, h2⟩ := ren_ex [0, 1, 6, 3, 2, 4, 5] (by decide)
 have f0 : f 0 = 0 := h2 0 0 rfl
 have f1 : f 1 = 1 := h2 1 1 rfl
 have f3 : f 3 = 3 := h2 3 3 rfl
 have f4 : f 4 = 2 := h2 4 2 rfl
 have f5 : f 5 = 4 := h2 5 4 rfl
 have f6 : f 6 = 5 := h2 6 5 rfl
 refine Weak.ren h1 ?_ ?_
 ·rw [hF']
  intro p hp
  simp only [List.mem_cons, List.not_mem_nil, or_false] at hp
  rcases hp with rfl | rfl | rfl | rfl | rfl | rfl | rfl <;> simp [St.get, hF, lk, renD, ren_opds, f1, f3, f5, f6]
 ·intro b
  rw [hs', hs]
  simp [sgT, renS, renB, renL, renD, ren_ts, ren_tsR, ren_rs, f0, f1, f3, f4, f5, f6]
theorem op_cases (ms : TS) (o : Opd) : (∃ a, (o.kind == 5) = true ∧ findT ms o.id = some a) ∨ ((o.kind == 1) = false ∧ ((o.kind == 2) = true ∨ (o.kind == 3) = true) ∧ ms ≠ []) ∨ (((o.kind == 2) = true ∨ (o.kind == 3) = true → ms = []) ∧ ((o.kind == 5) = true → findT ms o.id = none)) := by
 by_cases h5 : o.kind = 5
 ·cases hf : findT ms o.id with
  | some a => exact .inl ⟨a, by simpa using h5, rfl⟩
  | none => exact .inr (.inr ⟨fun h => (by rw [h5] at h; rcases h with h | h <;> cases h), fun _ => rfl⟩)
 ·by_cases h23 : (o.kind == 2) = true ∨ (o.kind == 3) = true
  ·by_cases hm : ms = []
   ·exact .inr (.inr ⟨fun _ => hm, fun h => absurd (by simpa using h) h5⟩)
   ·refine .inr (.inl ⟨?_, h23, hm⟩)
    rcases h23 with h | h
    ·rw [beq_iff_eq.1 h]; rfl
    ·rw [beq_iff_eq.1 h]; rfl
  ·exact .inr (.inr ⟨fun h => absurd h h23, fun h => absurd (by simpa using h) h5⟩)
theorem mnl_ok {ms : TS} {c : Nat} {nl : Bool} {o : Opd} (h : nl = true → ms = []) (hm : mnl ms c nl o = true) : (doS ms c o).1 = [] := by
 unfold mnl at hm
 split at hm
 ·rename_i h1
  rw [do_1 h1]
  unfold rnl at hm
  split at hm
  ·cases hm
  ·rename_i he
   unfold anch at he ⊢
   split
   ·rename_i h0; rw [if_pos h0] at he; exact absurd rfl he
   ·exact h hm
 ·have hn := h hm
  subst hn
  rename_i h1
  have h1 : (o.kind == 1) = false := by simpa using h1
  unfold doS
  rw [if_neg (by rw [h1]; simp)]
  repeat' split
  all_goals first | rfl | rw [upd_nil]
theorem c_r_new3 : CallE Pr 26 [] [] (.ref 3 0) [(3, .box 95 [.slice 0 true [] none])] := by
 obtain ⟨f, g, h1, h2⟩ := ren_ex [3] (by decide)
 have := CallE.rename h1 c_r_new43
 have f0 : f 0 = 3 := h2 0 3 rfl
 simpa [renS, renB, renD, renL, renLL, f0] using this
theorem c_modelT2 (ms : TS) (nl : Bool) (hnl : nl = true → ms = []) (hln : ms.length ≤ 1000) (hk : TKey ms) (c : Nat) (hms : TS.ok ms) (hnd : (ms.map (·.1)).Nodup) (o : Opd) (ho : o.ok) (h23 : (o.kind == 2) = true ∨ (o.kind == 3) = true → ms = []) (h5 : (o.kind == 5) = true → findT ms o.id = none) :
  CallE Pr 28 [.ref 3 0, .agg o.cs] [(2, .tip 26 5 ms.length), (3, .box 95 [.slice 5 nl (tsR ms) (some 2)])] (.agg (doR ms c o).cs) [(2, .tip 26 5 (doS ms c o).1.length), (3, .box 95 [.slice 5 (mnl ms c nl o) (tsR (doS ms c o).1) (some 2)])] := by
 obtain ⟨f, g, h1, h2⟩ := ren_ex [2, 3] (by decide)
 have := CallE.rename h1 (c_modelT ms nl hnl hln hk c hms hnd o ho h23 h5)
 have f0 : f 0 = 2 := h2 0 2 rfl
 have f1 : f 1 = 3 := h2 1 3 rfl
 simpa [renS, ren_tsR, renB, renD, renL, ren_keys, ren_rs, Opd.cs, f0, f1] using this
theorem c_modelY2 (ms : TS) (nl : Bool) (hnl : nl = true → ms = []) (hln : ms.length ≤ 1000) (hk : TKey ms) (c : Nat) (o : Opd) (h5 : (o.kind == 5) = true) (a : Par) (hF : findT ms o.id = some a) :
  CallE Pr 28 [.ref 3 0, .agg o.cs] [(2, .tip 26 5 ms.length), (3, .box 95 [.slice 5 nl (tsR ms) (some 2)])] (.agg (doR ms c o).cs) [(2, .tip 26 5 ms.length), (4, .tip 26 5 (doS ms c o).1.length), (3, .box 95 [.slice 5 false (tsR (doS ms c o).1) (some 4)])] := by
 obtain ⟨f, g, h1, h2⟩ := ren_ex [2, 3, 0, 1, 5, 6, 7, 4] (by decide)
 have := CallE.rename h1 (c_modelY ms nl hnl hln hk c o h5 a hF)
 have f0 : f 0 = 2 := h2 0 2 rfl
 have f1 : f 1 = 3 := h2 1 3 rfl
 have f7 : f 7 = 4 := h2 7 4 rfl
 simpa [renS, ren_tsR, renB, renD, renL, ren_keys, ren_rs, Opd.cs, f0, f1, f7] using this
theorem c_modelA2 (ms : TS) (hln : ms.length ≤ 1000) (hk : TKey ms) (hms : TS.ok ms) (c : Nat) (o : Opd) (ho : o.ok) (h1 : (o.kind == 1) = false) (h23 : (o.kind == 2) = true ∨ (o.kind == 3) = true) :
  CallE Pr 28 [.ref 3 0, .agg o.cs] [(2, .arr 26 (tsR ms).flatten), (3, .box 95 [.arr 2 5 ms.length])] (.agg (doR ms c o).cs) [(2, .arr 26 (tsR (doS ms c o).1).flatten), (3, .box 95 [.arr 2 5 (doS ms c o).1.length])] := by
 obtain ⟨f, g, h1', h2⟩ := ren_ex [2, 3] (by decide)
 have := CallE.rename h1' (c_modelA ms hln hk hms c o ho h1 h23)
 have f0 : f 0 = 2 := h2 0 2 rfl
 have f1 : f 1 = 3 := h2 1 3 rfl
 have ef : ∀ ms : TS, renL f (tsR ms).flatten = (tsR ms).flatten := fun ms => ren_cloL f fun d hd => by
  obtain ⟨x, hx, hdx⟩ := List.mem_flatten.1 hd
  exact (clo_tsR ms).2 trivial x hx d hdx
 simpa [renS, renB, renD, renL, ren_keys, ren_rs, ef, Opd.cs, f0, f1] using this
theorem c_r_list2 (ms : TS) (nl : Bool) (hnl : nl = true → ms = []) (hln : ms.length ≤ 1000) (hk : TKey ms) (hnd : (ms.map (·.1)).Nodup) :
  CallE Pr 31 [.ref 3 0] [(2, .tip 26 5 ms.length), (3, .box 95 [.slice 5 nl (tsR ms) (some 2)])] (listD ms) [(2, .tip 26 5 ms.length), (3, .box 95 [.slice 5 nl (tsR ms) (some 2)])] := by
 obtain ⟨f, g, h1, h2⟩ := ren_ex [2, 3] (by decide)
 have := CallE.rename h1 (c_r_list ms nl hnl hln hk hnd)
 have f0 : f 0 = 2 := h2 0 2 rfl
 have f1 : f 1 = 3 := h2 1 3 rfl
 have e : renD f (listD ms) = listD ms := ren_clo f (by simp)
 rw [e] at this
 simpa [renS, ren_tsR, renB, renD, renL, f0, f1] using this
theorem listT_len (ms : TS) : (listT ms).length = ms.length := by rw [listT, sortS_len, List.length_map]
theorem listT_nil (ms : TS) (h : ms.isEmpty = true) : listT ms = [] := by
 have : ms = [] := List.isEmpty_iff.1 h
 subst this
 exact List.eq_nil_of_length_eq_zero (listT_len [])
@[simp] theorem clo_opd1 {S : Nat → Prop} (o : Opd) : (∀ d ∈ o.cs, Clo S d) ↔ True := by
 simp only [iff_true]
 intro d hd
 simp only [Opd.cs, List.mem_cons, List.not_mem_nil, or_false] at hd
 rcases hd with rfl | rfl | rfl | rfl | rfl | rfl | rfl | rfl | rfl | rfl | rfl | rfl <;> simp
end Go.Proofs
set_option maxRecDepth 100000
namespace Go.Proofs.YthepmnlpfhmddaaGreatDoor.Rw
open Go Go.Id Go.Proofs Go.ChangeShapes Go.WideShapes Go.ChangeAt Go.RowKit
section
variable {H : Type} {enc : TypeId × Value → H} {W : World}
theorem cl55 : Tryz.prog.cellsOf 55 = 12 := by kernel_rfl
theorem rdO : RdP enc W 55 (fun ds => ∃ o : Opd, ds = o.cs ∧ o.big) := by
 refine (rd_struct (As := [_, _, _, _, _, _, _, _]) Tryz.underlying55 ⟨rfl, rdI, by kernel_rfl, rdPa, by kernel_rfl, rdKs, by kernel_rfl, rdS, by kernel_rfl, rdS, by kernel_rfl, rdS, by kernel_rfl, rdI, by kernel_rfl, rdI, by show _ = _; kernel_rfl⟩).mono ?_
 rintro ds ⟨_, _, ⟨kd, rfl, _⟩, ⟨_, _, ⟨p, rfl, h1, h2⟩, ⟨_, _, ⟨nl, l, rfl, h3, h4⟩, ⟨_, _, ⟨s1, rfl, _⟩, ⟨_, _, ⟨s2, rfl, _⟩, ⟨_, _, ⟨s3, rfl, _⟩, ⟨_, _, ⟨a, rfl, _⟩, ⟨_, _, ⟨b, rfl, _⟩, rfl, rfl⟩, rfl⟩, rfl⟩, rfl⟩, rfl⟩, rfl⟩, rfl⟩, rfl⟩
 exact ⟨⟨kd, p, l, nl, s1, s2, s3, a, b⟩, rfl, h1, h2, h4, h3⟩
theorem rdOs : RdP enc W 44 (fun ds => ∃ nl l, ds = [.slice 12 nl (l.map Opd.cs) none] ∧ (nl = true → l = []) ∧ l.length ≤ 9223372036854775807 ∧ ∀ o ∈ l, o.big) := by
 refine (rd_slice Tryz.underlying44 (by rw [cl55]; omega) (fun _ _ h => h) rdO).mono ?_
 rintro ds ⟨nl, es, rfl, h1, h2, h3⟩
 obtain ⟨l, rfl, hl⟩ := list_form (f := Opd.cs) (g := Opd.big) es (fun e he => let ⟨o, hs, hb⟩ := h3 e he; ⟨o, hb, hs⟩)
 exact ⟨nl, l, by rw [cl55], fun h => by simpa using h1 h, by rw [maxl] at h2; simpa using h2, hl⟩
variable {r : Reach} {b0 : Nat} {v : Value} {d : DataW H} {ps : List MemPlace}
theorem arg_ops (hval : Value.okWide Tryz.prog W r b0 44 v) (h : DataW.Trod enc Tryz.prog W 0 (fun _ => true) true 44 v d ps) :
  ∃ (l : List Opd) (nl : Bool), l.length ≤ 9223372036854775807 ∧ (nl = true → l = []) ∧ (∀ o ∈ l, o.big) ∧ RepP W (.slice 12 nl (l.map Opd.cs) none) v := by
 obtain ⟨a, len, cap, rfl⟩ := okWide_slice Tryz.underlying44 hval
 obtain ⟨e, ⟨nl, l, rfl, h1, h2, h3⟩, hr⟩ := rd_arg (D' := fun e => ∃ nl l, e = .slice 12 nl (l.map Opd.cs) none ∧ (nl = true → l = []) ∧ l.length ≤ 9223372036854775807 ∧ ∀ o ∈ l, o.big) rdOs h (fun cs => by simp) (by rintro ds ⟨nl, l, rfl, h⟩; exact ⟨_, rfl, nl, l, rfl, h⟩)
 exact ⟨l, nl, h2, h1, h3, hr⟩
end
end Go.Proofs.YthepmnlpfhmddaaGreatDoor.Rw
