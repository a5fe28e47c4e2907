import Derived.Test.YthepmnlpfhmddaaGreatDoorG06
import Derived.Test.YthepmnlpfhmddaaGreatDoorG02
import Derived.Test.YthepmnlpfhmddaaGreatDoorG10
import Derived.ChangeBears
import Derived.ReadAgain
import Derived.Test.YthepmnlpfhmddaaGreatDoorG04
set_option linter.unusedVariables false
set_option linter.unusedSimpArgs false
set_option linter.unnecessarySimpa false
set_option maxRecDepth 100000
namespace Go.Proofs.YthepmnlpfhmddaaGreatDoor.Rw
open Go Go.Id Go.Proofs Go.ChangeShapes Go.WideShapes Go.ChangeAt Go.RowKit
section
variable {H : Type} {enc : TypeId × Value → H} {W : World}
abbrev RdP (enc : TypeId × Value → H) (W : World) (t : TypeId) (A : List D → Prop) : Prop := Rd enc Tryz.prog W (fun _ _ => False) (fun _ => none) 0 (fun _ => true) true t A
abbrev RepP (W : World) (d : D) (v : Value) : Prop := Rep (fun _ _ => False) (fun _ => none) W d v
theorem maxl : maxLen = 9223372036854775807 := by decide
theorem kids : Kids Tryz.prog (· < Tryz.prog.types.size) := kids_rows (by kernel_rfl) (by kernel_rfl)
theorem full : ∀ t e, t < Tryz.prog.types.size → Tryz.prog.underlying t = some (.slice e) → 0 < Tryz.prog.cellsOf e := slices_full_of Tryz.prog (by kernel_rfl)
theorem cl39 : Tryz.prog.cellsOf 39 = 6 := by kernel_rfl
theorem rdS : RdP enc W 9 (fun ds => ∃ s, ds = [.str s] ∧ s.length ≤ maxLen) := rd_str Tryz.underlying9
theorem rdI : RdP enc W 3 (fun ds => ∃ n, ds = [.int .i64 n] ∧ (Lit.int .i64 n).wf = true) := rd_int Tryz.underlying3
theorem rdW : RdP enc W 24 (fun ds => ∃ f u, ds = [.int .i64 f, .int .i64 u]) := by
 refine (rd_struct (As := [_, _]) Tryz.underlying24 ⟨rfl, rdI, by kernel_rfl, rdI, by show _ = _; kernel_rfl⟩).mono ?_
 rintro ds ⟨_, _, ⟨f, rfl, _⟩, ⟨_, _, ⟨u, rfl, _⟩, rfl, rfl⟩, rfl⟩
 exact ⟨f, u, rfl⟩
theorem rdK1 : RdP enc W 39 (fun ds => ∃ k : Key, ds = k.cs) := by
 refine (rd_struct (As := [_, _, _, _]) Tryz.underlying39 ⟨rfl, rdS, by kernel_rfl, rdS, by kernel_rfl, rdW, by kernel_rfl, rdW, by show _ = _; kernel_rfl⟩).mono ?_
 rintro ds ⟨_, _, ⟨s1, rfl, _⟩, ⟨_, _, ⟨s2, rfl, _⟩, ⟨_, _, ⟨a, b, rfl⟩, ⟨_, _, ⟨c, d, rfl⟩, rfl, rfl⟩, rfl⟩, rfl⟩, rfl⟩
 exact ⟨⟨s1, s2, a, b, c, d⟩, rfl⟩
theorem rdKs : RdP enc W 22 (fun ds => ∃ nl l, ds = [.slice 6 nl (l.map Key.cs) none] ∧ (nl = true → l = []) ∧ l.length ≤ 9223372036854775807) := by
 refine (rd_slice Tryz.underlying22 (by rw [cl39]; omega) (fun _ _ h => h) rdK1).mono ?_
 rintro ds ⟨nl, es, rfl, h1, h2, h3⟩
 obtain ⟨l, rfl, _⟩ := list_form (f := Key.cs) (g := fun _ => True) es (fun e he => let ⟨s, hs⟩ := h3 e he; ⟨s, trivial, hs⟩)
 exact ⟨nl, l, by rw [cl39], fun h => by simpa using h1 h, by rw [maxl] at h2; simpa using h2⟩
theorem rdPa : RdP enc W 26 (fun ds => ∃ p : Par, ds = p.cs ∧ p.keys.length ≤ 9223372036854775807 ∧ (p.nk = true → p.keys = [])) := by
 refine (rd_struct (As := [_, _, _, _]) Tryz.underlying26 ⟨rfl, rdS, by kernel_rfl, rdS, by kernel_rfl, rdKs, by kernel_rfl, rdW, by show _ = _; kernel_rfl⟩).mono ?_
 rintro ds ⟨_, _, ⟨s1, rfl, _⟩, ⟨_, _, ⟨s2, rfl, _⟩, ⟨_, _, ⟨nl, l, rfl, h1, h2⟩, ⟨_, _, ⟨f, u, rfl⟩, rfl, rfl⟩, rfl⟩, rfl⟩, rfl⟩
 exact ⟨⟨s1, s2, l, nl, f, u⟩, rfl, h2, h1⟩
variable {r : Reach} {b0 : Nat} {v : Value} {d : DataW H} {ps : List MemPlace}
theorem arg_str (hval : Value.okWide Tryz.prog W r b0 9 v) (h : DataW.Trod enc Tryz.prog W 0 (fun _ => true) true 9 v d ps) : ∃ s, RepP W (.str s) v := by
 obtain ⟨s, rfl⟩ := okWide_string Tryz.underlying9 hval
 exact ⟨_, .str s⟩
theorem arg_int (hval : Value.okWide Tryz.prog W r b0 3 v) (h : DataW.Trod enc Tryz.prog W 0 (fun _ => true) true 3 v d ps) : ∃ n, RepP W (.int .i64 n) v := by
 obtain ⟨n, rfl⟩ := okWide_int Tryz.underlying3 hval
 exact ⟨_, .int _ _⟩
theorem arg_par (hval : Value.okWide Tryz.prog W r b0 26 v) (h : DataW.Trod enc Tryz.prog W 0 (fun _ => true) true 26 v d ps) :
  ∃ p : Par, p.keys.length ≤ 9223372036854775807 ∧ (p.nk = true → p.keys = []) ∧ RepP W (.agg [.str p.id, .str p.addr, .slice 6 p.nk (p.keys.map Key.cs) none, .int .i64 p.f, .int .i64 p.u]) v := by
 obtain ⟨cs, rfl, _⟩ := okWide_struct Tryz.underlying26 hval
 obtain ⟨ds, ⟨p, rfl, h1, h2⟩, hr⟩ := rd_agg rdPa h
 exact ⟨p, h1, h2, hr⟩
theorem post_all {f : Func} {s : ChangeSpec} {apart again : Bool} {W W' : World} {args : Array Value} {ds gs : List (DataW H)} {before : List MemPlace}
  (hW : DataW.Whole enc Tryz.prog f.params.toList s.vars apart W args.toList ds gs before) (hv : s.vars = []) (hb : Below W.heap.size W W') (ht : ∀ t ∈ f.params.toList, t < Tryz.prog.types.size)
  (hr : f.resultTypes = #[4]) (hres : (s.fn H (ds ++ gs)).results = [.lit (.bool true)]) (hargs : (s.fn H (ds ++ gs)).args = ds) (hvars : (s.fn H (ds ++ gs)).vars = []) :
  s.post enc Tryz.prog f apart true false again W args (.bool true) W' := by
 refine post_true hW hv hb hr Tryz.underlying4 hres hargs hvars fun sp hs => ?_
 have hlt := hW.lt
 obtain ⟨p, q, hA, hV, rfl, hz, hn⟩ := hW
 rw [hv] at hV
 obtain ⟨rfl, rfl⟩ := trodVars_none hV
 rw [List.append_nil] at hlt hs ⊢
 exact trodAll_keep kids full hb ht hA hlt sp hs
end
theorem one {W : World} {d : D} {v : Value} (h : RepP W d v) : ∀ (i : Nat) e u, [d][i]? = some e → [v][i]? = some u → RepP W e u := by
 intro i e u h1 h2
 match i with
 | 0 => simp at h1 h2; subst h1; subst h2; exact h
 | i + 1 => simp at h1
theorem consR {W : World} {d : D} {v : Value} {ds : List D} {vs : List Value} (h : RepP W d v) (k : ∀ (i : Nat) e u, ds[i]? = some e → vs[i]? = some u → RepP W e u) : ∀ (i : Nat) e u, (d :: ds)[i]? = some e → (v :: vs)[i]? = some u → RepP W e u := by
 intro i e u h1 h2
 match i with
 | 0 => simp at h1 h2; subst h1; subst h2; exact h
 | i + 1 => exact k i e u (by simpa using h1) (by simpa using h2)
end Go.Proofs.YthepmnlpfhmddaaGreatDoor.Rw
namespace Go.Proofs
open Go Go.Id
structure Opd where
 kind : Int
 p : Par
 ks : List Key
 nk : Bool
 text : List UInt8
 sig : List UInt8
 id : List UInt8
 at_ : Int
 now : Int
def Opd.cs (o : Opd) : List D := [.int .i64 o.kind, .str o.p.id, .str o.p.addr, .slice 6 o.p.nk (o.p.keys.map Key.cs) none, .int .i64 o.p.f, .int .i64 o.p.u, .slice 6 o.nk (o.ks.map Key.cs) none, .str o.text, .str o.sig, .str o.id, .int .i64 o.at_, .int .i64 o.now]
def Opd.big (o : Opd) : Prop := o.p.keys.length ≤ 9223372036854775807 ∧ (o.p.nk = true → o.p.keys = []) ∧ o.ks.length ≤ 9223372036854775807 ∧ (o.nk = true → o.ks = [])
def Opd.kp (o : Opd) : Par := ⟨[], [], o.ks, o.nk, 0, 0⟩
def opG (o : Opd) : Bool := greatP o.p || greatP o.kp || decide ((o.text.length : Int) > 800) || shG [o.sig, o.id] 2 300
def longB (l : List Opd) (n : Int) : Bool := decide ((l.length : Int) > n) || l.any opG
def Opd.ok (o : Opd) : Prop := o.p.ok ∧ (∀ k ∈ o.ks, k.ok) ∧ o.ks.length ≤ 1099511627776 ∧ (o.nk = true → o.ks = []) ∧ o.text.length ≤ 1099511627776 ∧ o.sig.length ≤ 1099511627776 ∧ ∀ k ∈ o.ks, k.id.length ≤ 300
theorem great_ids {p : Par} (h : greatP p = false) : ∀ k ∈ p.keys, k.id.length ≤ 300 := by
 simp only [greatP, greatB, Bool.or_eq_false_iff, List.any_eq_false, decide_eq_false_iff_not] at h
 intro k hk
 have := h.2.2 k hk
 simp only [Bool.or_eq_true, decide_eq_true_eq, not_or] at this
 omega
theorem opG_no {o : Opd} (hb : o.big) (h : opG o = false) : o.ok := by
 simp only [opG, Bool.or_eq_false_iff, decide_eq_false_iff_not] at h
 obtain ⟨⟨⟨h1, h2⟩, h3⟩, h4⟩ := h
 obtain ⟨a1, _, _, _⟩ := great_p hb.2.1 h1
 obtain ⟨b1, _, _, b4⟩ := great_p (p := o.kp) hb.2.2.2 h2
 refine ⟨a1, b1.2.2.2.2, b1.2.2.1, hb.2.2.2, by omega, ?_, great_ids h2⟩
 simp only [shG, List.any_cons, List.any_nil, Bool.or_eq_false_iff, decide_eq_false_iff_not] at h4
 omega
theorem longB_no {l : List Opd} {n : Int} (hb : ∀ o ∈ l, o.big) (h : longB l n = false) : (l.length : Int) ≤ n ∧ ∀ o ∈ l, o.ok := by
 simp only [longB, Bool.or_eq_false_iff, decide_eq_false_iff_not, List.any_eq_false, Bool.not_eq_true] at h
 exact ⟨by omega, fun o ho => opG_no (hb o ho) (h.2 o ho)⟩
def doS (ms : TS) (c : Nat) (o : Opd) : TS × Nat :=
 if (o.kind == 1) = true then (anch ms c o.p o.now).2
 else if (o.kind == 2) = true then (upd ms c (textP o.p).1 (signP o.ks (textP o.p).1 o.at_).1 o.now).2
 else if (o.kind == 3) = true then (upd ms c o.text o.sig o.now).2
 else if (o.kind == 4) = true then (ms, c)
 else if (o.kind == 5) = true then (delT ms o.id, c)
 else (ms, c)
def runS (l : List Opd) (q : TS × Nat) : TS × Nat := l.foldl (fun q o => doS q.1 q.2 o) q
@[simp] theorem clo_opds {S : Nat → Prop} (l : List Opd) : (∀ a ∈ l, ∀ d ∈ a.cs, Clo S d) ↔ True := by
 simp only [iff_true]
 intro o _ d hd
 simp only [Opd.cs, List.mem_cons, List.not_mem_nil, or_false] at hd
 rcases hd with rfl | rfl | rfl | rfl | rfl | rfl | rfl | rfl | rfl | rfl | rfl | rfl <;> simp
theorem longB_y {l : List Opd} {n : Int} {k : Nat} (hk : k < l.length) (h : opG l[k] = true) : longB l n = true := by
 unfold longB
 rw [List.any_eq_true.2 ⟨_, List.getElem_mem hk, h⟩, Bool.or_true]
theorem opG_1 {o : Opd} (h : greatP o.p = true) : opG o = true := by unfold opG; rw [h]; rfl
theorem opG_2 {o : Opd} (h : greatP o.kp = true) : opG o = true := by unfold opG; rw [h]; simp
theorem opG_3 {o : Opd} (h : decide ((o.text.length : Int) > 800) = true) : opG o = true := by unfold opG; rw [h]; simp
theorem opG_4 {o : Opd} (h : shG [o.sig, o.id] 2 300 = true) : opG o = true := by unfold opG; rw [h]; simp
theorem opG_0 {o : Opd} (h1 : greatP o.p = false) (h2 : greatP o.kp = false) (h3 : decide ((o.text.length : Int) > 800) = false) (h4 : shG [o.sig, o.id] 2 300 = false) : opG o = false := by unfold opG; rw [h1, h2, h3, h4]; rfl
theorem do_1 {ms : TS} {c : Nat} {o : Opd} (h : (o.kind == 1) = true) : doS ms c o = (anch ms c o.p o.now).2 := by unfold doS; rw [if_pos h]
theorem do_2 {ms : TS} {c : Nat} {o : Opd} (h1 : (o.kind == 1) = false) (h : (o.kind == 2) = true) : doS ms c o = (upd ms c (textP o.p).1 (signP o.ks (textP o.p).1 o.at_).1 o.now).2 := by unfold doS; rw [if_neg (by rw [h1]; simp), if_pos h]
theorem do_3 {ms : TS} {c : Nat} {o : Opd} (h1 : (o.kind == 1) = false) (h2 : (o.kind == 2) = false) (h : (o.kind == 3) = true) : doS ms c o = (upd ms c o.text o.sig o.now).2 := by unfold doS; rw [if_neg (by rw [h1]; simp), if_neg (by rw [h2]; simp), if_pos h]
theorem do_4 {ms : TS} {c : Nat} {o : Opd} (h1 : (o.kind == 1) = false) (h2 : (o.kind == 2) = false) (h3 : (o.kind == 3) = false) (h : (o.kind == 4) = true) : doS ms c o = (ms, c) := by unfold doS; rw [if_neg (by rw [h1]; simp), if_neg (by rw [h2]; simp), if_neg (by rw [h3]; simp), if_pos h]
theorem do_5 {ms : TS} {c : Nat} {o : Opd} (h1 : (o.kind == 1) = false) (h2 : (o.kind == 2) = false) (h3 : (o.kind == 3) = false) (h4 : (o.kind == 4) = false) (h : (o.kind == 5) = true) : doS ms c o = (delT ms o.id, c) := by unfold doS; rw [if_neg (by rw [h1]; simp), if_neg (by rw [h2]; simp), if_neg (by rw [h3]; simp), if_neg (by rw [h4]; simp), if_pos h]
theorem do_6 {ms : TS} {c : Nat} {o : Opd} (h1 : (o.kind == 1) = false) (h2 : (o.kind == 2) = false) (h3 : (o.kind == 3) = false) (h4 : (o.kind == 4) = false) (h5 : (o.kind == 5) = false) : doS ms c o = (ms, c) := by unfold doS; rw [if_neg (by rw [h1]; simp), if_neg (by rw [h2]; simp), if_neg (by rw [h3]; simp), if_neg (by rw [h4]; simp), if_neg (by rw [h5]; simp)]
theorem part_two (ms : TS) (id : List UInt8) (t : Int) : (∃ e, partD ms id t = .tup [zpD, .int .i64 e]) ∨ ∃ a : Par, partD ms id t = .tup [.agg a.cs, .int .i64 0] := by
 unfold partD
 split
 ·exact .inl ⟨_, rfl⟩
 ·split
  ·exact .inl ⟨_, rfl⟩
  ·exact .inr ⟨_, rfl⟩
theorem sign_len {l : List Key} {s : List UInt8} {now : Int} (h : ∀ k ∈ l, k.id.length ≤ 300) : (signP l s now).1.length ≤ 400 := by
 unfold signP
 split
 ·simp
 ·rename_i he
  have hm := (sgK_some (l := l) (now := now) (by simpa using he)).2.1
  have := h _ hm
  have := macB_len (sgK l now).sec s
  simp [sigB]
  omega
set_option maxRecDepth 10000
set_option maxHeartbeats 4000000
theorem c_long (l : List Opd) (nl : Bool) (hn : l.length ≤ 9223372036854775807) (hnl : nl = true → l = []) (hb : ∀ o ∈ l, o.big) (n : Int) (hn0 : n ≤ 1000) : CallP Pr 25 [.slice 12 nl (l.map Opd.cs) none, .int .i64 n] (.bool (longB l n)) := by
 refine CallP.of_wp Tryz.func25 rfl (by kernel_rfl) Tryz.ntmps25 (by simp) ?_
 simp only [frameOf, Nat.reduceAdd, Nat.zero_add]
 refine WP.sr [0, 1] (by kernel_rfl) fun K hK => ?_
 simp (decide := true) only [TF, ↓reduceIte, Int.reduceToNat]
 refine hK _ _ ?_; clear hK K
 refine WP.seq ?_
 refine WP.sr [0, 9] (by kernel_rfl) fun K hK => ?_
 simp (decide := true) only [TF, ↓reduceIte, Int.reduceToNat]
 refine hK _ _ ?_; clear hK K
 refine WP.cond (b := _) rfl (fun q1 => ?_) (fun q1 => ?_)
 ·
  have hR : longB l n = true := by unfold longB; rw [q1]; rfl
  refine WP.sr [4] (by kernel_rfl) fun K hK => ?_
  simp (decide := true) only [TF, q1, hR, ↓reduceIte, Int.reduceToNat]
  refine hK _ _ ?_; clear hK K
  refine WP.ret ?_
  exact Ends.pure (.inr rfl) rfl (Le.of_eq (by simp (decide := true) only [St.get, lk, W, longB, q1, hR, ↓reduceIte])) (by simp)
 ·
  have hgt := q1
  have hl10 : l.length ≤ 1000 := by have := of_decide_eq_false hgt; omega
  refine WP.skip ?_
  show WP _ _ _ _ _ _
  refine WP.seq ?_
  refine WP.sr [0, 11, 12] (by kernel_rfl) fun K hK => ?_
  simp (decide := true) only [TF, q1, ↓reduceIte, Int.reduceToNat]
  refine hK _ _ ?_; clear hK K
  refine WP.block ?_
  refine WP.lp [0, 11] (X := {k : Nat // k ≤ l.length ∧ l.any opG = (l.drop k).any opG}) (fun x => match x with | ⟨(k), _⟩ => [(12, .int .i64 k)]) (fun x => match x with | ⟨(k), _⟩ => []) (fun x => match x with | ⟨(k), _⟩ => l.length - k) (by simp (decide := true) only [W, ↓reduceIte, Int.reduceToNat]; rfl) ?_ ⟨(0), ⟨Nat.zero_le _, by simp⟩⟩ ?_
  rotate_left
  · exact Weak.store (by simp [St.get, lk, W, Le.refl, q1]) (by simp [lk, W, q1]) (by simp [lk, W]) (by simp [BClo, lk]) (by simp [lk])
  rintro ⟨k, hk, hI⟩
  dsimp only
  simp only [List.cons_append, List.nil_append]
  refine WP.sr [0, 11, 12, 13] (by kernel_rfl) fun K hK => ?_
  simp (decide := true) only [TF, q1, hk, ↓reduceIte, Int.reduceToNat]
  refine hK _ _ ?_; clear hK K
  refine WP.seq ?_
  refine WP.cond (b := _) rfl (fun q2 => ?_) (fun q2 => ?_)
  ·
   have hlt := lt_of_q q2
   have hg : (l.map Opd.cs)[k]? = some [.int .i64 l[k].kind, .str l[k].p.id, .str l[k].p.addr, .slice 6 l[k].p.nk (l[k].p.keys.map Key.cs) none, .int .i64 l[k].p.f, .int .i64 l[k].p.u, .slice 6 l[k].nk (l[k].ks.map Key.cs) none, .str l[k].text, .str l[k].sig, .str l[k].id, .int .i64 l[k].at_, .int .i64 l[k].now] := getM hlt
   have hnf := nl_false hnl hlt
   rw [dropE hlt] at hI
   simp only [List.any_cons] at hI
   have hob := hb _ (List.getElem_mem hlt)
   refine WP.skip ?_
   show WP _ _ _ _ _ _
   refine WP.seq ?_
   refine WP.block ?_
   refine WP.sr [0, 5, 11, 12] (by kernel_rfl) fun K hK => ?_
   simp (decide := true) only [TF, q1, hk, q2, hg, hnf, ↓reduceIte, Int.reduceToNat]
   refine hK _ _ ?_; clear hK K
   refine WP.sd [0, 11, 12, 52] (by kernel_rfl) (by kernel_rfl) fun K hK => ?_
   simp (decide := true) only [TF, q1, hk, q2, hg, hnf, ↓reduceIte, Int.reduceToNat]
   refine CallK.pure (c_r_great43 l[k].p hob.1 hob.2.1) rfl rfl (by simp [-List.map_take]) ?_
   refine runOps.take 1 fun J hJ => ?_
   simp (decide := true) only [TF, q1, hk, q2, hg, hnf, ↓reduceIte, Int.reduceToNat]
   refine hJ _ _ ?_; clear hJ J
   refine runOps.part 21 rfl (fun q3 => ?_) (fun q3 => ?_)
   ·
    have hR := longB_y (n := n) hlt (opG_1 q3)
    simp (decide := true) only [TF, q1, hk, q2, hg, hnf, q3, hR, ↓reduceIte, Int.reduceToNat]
    refine hK _ _ (by kernel_rfl) ?_
    clear hK K
    refine WP.cond (b := true) (by rfl) (fun _ => ?_) nofun
    refine WP.sr [4] (by kernel_rfl) fun K hK => ?_
    simp (decide := true) only [TF, q1, hk, q2, hg, hnf, q3, hR, ↓reduceIte, Int.reduceToNat]
    refine hK _ _ ?_; clear hK K
    refine WP.ret ?_
    exact Ends.pure (.inr rfl) rfl (Le.of_eq (by simp_all [St.get, lk, W, LN, bne, longB])) (by simp)
   ·
    simp (decide := true) only [TF, q1, hk, q2, hg, hnf, q3, ↓reduceIte, Int.reduceToNat]
    refine CallK.pure (c_r_great43 l[k].kp hob.2.2.1 hob.2.2.2) rfl rfl (by simp [-List.map_take]) ?_
    refine runOps.take 2 fun J hJ => ?_
    simp (decide := true) only [TF, q1, hk, q2, hg, hnf, q3, ↓reduceIte, Int.reduceToNat]
    refine hJ _ _ ?_; clear hJ J
    refine runOps.part 30 rfl (fun q4 => ?_) (fun q4 => ?_)
    ·
     have hR := longB_y (n := n) hlt (opG_2 (by assumption))
     simp (decide := true) only [TF, q1, hk, q2, hg, hnf, q3, q4, hR, ↓reduceIte, Int.reduceToNat]
     refine hK _ _ (by kernel_rfl) ?_
     clear hK K
     refine WP.cond (b := true) (by rfl) (fun _ => ?_) nofun
     refine WP.sr [4] (by kernel_rfl) fun K hK => ?_
     simp (decide := true) only [TF, q1, hk, q2, hg, hnf, q3, q4, hR, ↓reduceIte, Int.reduceToNat]
     refine hK _ _ ?_; clear hK K
     refine WP.ret ?_
     exact Ends.pure (.inr rfl) rfl (Le.of_eq (by simp_all [St.get, lk, W, LN, bne, longB])) (by simp)
    ·
     refine runOps.take 9 fun J hJ => ?_
     simp (decide := true) only [TF, q1, hk, q2, hg, hnf, q3, q4, ↓reduceIte, Int.reduceToNat]
     refine hJ _ _ ?_; clear hJ J
     refine runOps.part 39 rfl (fun q5 => ?_) (fun q5 => ?_)
     ·
      have hR := longB_y (n := n) hlt (opG_3 (by assumption))
      simp (decide := true) only [TF, q1, hk, q2, hg, hnf, q3, q4, q5, hR, ↓reduceIte, Int.reduceToNat]
      refine hK _ _ (by kernel_rfl) ?_
      clear hK K
      refine WP.cond (b := true) (by rfl) (fun _ => ?_) nofun
      refine WP.sr [4] (by kernel_rfl) fun K hK => ?_
      simp (decide := true) only [TF, q1, hk, q2, hg, hnf, q3, q4, q5, hR, ↓reduceIte, Int.reduceToNat]
      refine hK _ _ ?_; clear hK K
      refine WP.ret ?_
      exact Ends.pure (.inr rfl) rfl (Le.of_eq (by simp_all [St.get, lk, W, LN, bne, longB])) (by simp)
     ·
      simp (decide := true) only [TF, q1, hk, q2, hg, hnf, q3, q4, q5, ↓reduceIte, Int.reduceToNat]
      refine CallK.pure (c_r2great [l[k].sig, l[k].id] false 2 300 (by simp) nofun) rfl rfl (by simp [fg, fg0]) ?_
      simp (decide := true) only [TF, q1, hk, q2, hg, hnf, q3, q4, q5, ↓reduceIte, Int.reduceToNat]
      refine hK _ _ (by kernel_rfl) ?_
      clear hK K
      refine WP.cond (b := _) rfl (fun q6 => ?_) (fun q6 => ?_)
      ·
       have hR := longB_y (n := n) hlt (opG_4 (by assumption))
       refine WP.sr [4] (by kernel_rfl) fun K hK => ?_
       simp (decide := true) only [TF, q1, hk, q2, hg, hnf, q3, q4, q5, q6, hR, ↓reduceIte, Int.reduceToNat]
       refine hK _ _ ?_; clear hK K
       refine WP.ret ?_
       exact Ends.pure (.inr rfl) rfl (Le.of_eq (by simp_all [St.get, lk, W, LN, bne, longB])) (by simp)
      ·
       have hO := opG_0 (o := l[k]) (by assumption) (by assumption) (by assumption) (by assumption)
       rw [hO, Bool.false_or] at hI
       refine WP.skip ?_
       show WP _ _ _ _ _ _
       refine WP.region (by kernel_rfl) fun K hK => ?_
       simp (decide := true) only [TF, q1, hk, q2, hg, hnf, q3, q4, q5, q6, ↓reduceIte, Int.reduceToNat]
       refine hK _ _ ?_; clear hK K
       show ∃ y, _ ∧ Weak _ _ _
       refine ⟨⟨k + 1, ?_⟩, ?_, ?_⟩
       · exact ⟨by omega, by first | (simpa [q1, hk, q2, hg, hnf, q3, q4, q5, q6] using hI) | (simp_all; done)⟩
       · dsimp only; omega
       · exact Weak.store (by simp [St.get, lk, W, Le.refl, q1, hk, q2, hg, hnf, q3, q4, q5, q6, wrapS hlt (show l.length ≤ 140737488355328 by omega)]) (by simp [lk, W, q1, hk, q2, hg, hnf, q3, q4, q5, q6, wrapS hlt (show l.length ≤ 140737488355328 by omega)]) (by simp [lk, W]) (by simp [BClo, lk]) (by simp [lk])
  ·
   have hge := ge_of_q q2
   rw [dropN hge] at hI
   simp only [List.any_nil] at hI
   refine WP.exit ?_
   show WP _ _ _ _ _ _
   refine WP.sr [4] (by kernel_rfl) fun K hK => ?_
   simp (decide := true) only [TF, q1, hk, q2, ↓reduceIte, Int.reduceToNat]
   refine hK _ _ ?_; clear hK K
   refine WP.ret ?_
   exact Ends.pure (.inr rfl) rfl (Le.of_eq (by simp (decide := true) only [St.get, lk, W, longB, q1, hk, q2, hI, ↓reduceIte])) (by simp)
theorem c_doJ (ms : TS) (c : Nat) (hms : TS.ok ms) (hes : EsOk (tsE ms, c)) (hln : ms.length ≤ 1000) (o : Opd) (ho : o.ok) : CallE Pr 27 [.ref 1 0, .agg [.int .i64 o.kind, .str o.p.id, .str o.p.addr, .slice 6 o.p.nk (o.p.keys.map Key.cs) none, .int .i64 o.p.f, .int .i64 o.p.u, .slice 6 o.nk (o.ks.map Key.cs) none, .str o.text, .str o.sig, .str o.id, .int .i64 o.at_, .int .i64 o.now]] [(0, .map (tsE ms) (c)), (1, .box 91 [.map 0])] (.junk) [(0, .map (tsE (doS ms c o).1) ((doS ms c o).2)), (1, .box 91 [.map 0])] := by
 have htl : (textP o.p).1.length ≤ 4096 := text_len o.p
 have hsl := sign_len (s := (textP o.p).1) (now := o.at_) ho.2.2.2.2.2.2
 refine CallE.of_wp Tryz.func27 rfl (by kernel_rfl) Tryz.ntmps27 (by simp) ?_
 simp only [frameOf, Nat.reduceAdd, Nat.zero_add, List.map_cons, List.map_nil]
 refine WP.sr [0, 3, 4] (by kernel_rfl) fun K hK => ?_
 simp (decide := true) only [TF, Par.cs, zpD, listD, Key.cs, ↓reduceIte, Int.reduceToNat]
 refine hK _ _ ?_; clear hK K
 refine WP.sr [0, 3, 4, 5] (by kernel_rfl) fun K hK => ?_
 simp (decide := true) only [TF, Par.cs, zpD, listD, Key.cs, ↓reduceIte, Int.reduceToNat]
 refine hK _ _ ?_; clear hK K
 refine WP.seq ?_
 refine WP.sr [0, 3, 4, 5, 11] (by kernel_rfl) fun K hK => ?_
 simp (decide := true) only [TF, Par.cs, zpD, listD, Key.cs, ↓reduceIte, Int.reduceToNat]
 refine hK _ _ ?_; clear hK K
 refine WP.block ?_
 refine WP.sr [0, 3, 4, 5, 11, 12] (by kernel_rfl) fun K hK => ?_
 simp (decide := true) only [TF, Par.cs, zpD, listD, Key.cs, ↓reduceIte, Int.reduceToNat]
 refine hK _ _ ?_; clear hK K
 refine WP.cond (b := _) rfl (fun q1 => ?_) (fun q1 => ?_)
 ·
  have hR := do_1 (ms := ms) (c := c) (o := o) (by assumption)
  refine WP.region (by kernel_rfl) fun K hK => ?_
  simp (decide := true) only [TF, q1, hR, Par.cs, zpD, listD, Key.cs, ↓reduceIte, Int.reduceToNat]
  refine CallK.imp (c_anchor ms c hms o.p ho.1 o.now) rfl rfl (by simp [lk, BClo]) (by simp [lk]) (by simp [lk, fg]) ?_
  simp (decide := true) only [TF, q1, hR, Par.cs, zpD, listD, Key.cs, ↓reduceIte, Int.reduceToNat]
  refine hK _ _ ?_; clear hK K
  show WP _ _ _ _ _ _
  refine WP.sr [4] (by kernel_rfl) fun K hK => ?_
  simp (decide := true) only [TF, q1, hR, Par.cs, zpD, listD, Key.cs, ↓reduceIte, Int.reduceToNat]
  refine hK _ _ ?_; clear hK K
  refine WP.ret ?_
  refine Ends.imp (.inr rfl) rfl (Le.junk _) ?_ ?_ ?_
  · simp
  · simp [St.get, lk, W, BClo, q1, hR]
  · simp [lk]
 ·
  refine WP.sr [0, 3, 4, 5, 11, 21] (by kernel_rfl) fun K hK => ?_
  simp (decide := true) only [TF, q1, Par.cs, zpD, listD, Key.cs, ↓reduceIte, Int.reduceToNat]
  refine hK _ _ ?_; clear hK K
  refine WP.cond (b := _) rfl (fun q2 => ?_) (fun q2 => ?_)
  ·
   have hR := do_2 (ms := ms) (c := c) (o := o) (by assumption) (by assumption)
   refine WP.sr [0, 3, 4, 5, 6] (by kernel_rfl) fun K hK => ?_
   simp (decide := true) only [TF, q1, q2, hR, Par.cs, zpD, listD, Key.cs, ↓reduceIte, Int.reduceToNat]
   refine CallK.pure (c_m_text o.p ho.1) rfl rfl (by simp [-List.map_take]) ?_
   simp (decide := true) only [TF, q1, q2, hR, Par.cs, zpD, listD, Key.cs, ↓reduceIte, Int.reduceToNat]
   refine hK _ _ ?_; clear hK K
   refine WP.sr [0, 3, 4, 5, 6, 8] (by kernel_rfl) fun K hK => ?_
   simp (decide := true) only [TF, q1, q2, hR, Par.cs, zpD, listD, Key.cs, ↓reduceIte, Int.reduceToNat]
   refine CallK.pure (c_m_sign o.ks o.nk ho.2.2.1 ho.2.2.2.1 ho.2.1 (textP o.p).1 (by omega) o.at_) rfl rfl (by simp [-List.map_take]) ?_
   simp (decide := true) only [TF, q1, q2, hR, Par.cs, zpD, listD, Key.cs, ↓reduceIte, Int.reduceToNat]
   refine hK _ _ ?_; clear hK K
   refine WP.region (by kernel_rfl) fun K hK => ?_
   simp (decide := true) only [TF, q1, q2, hR, Par.cs, zpD, listD, Key.cs, ↓reduceIte, Int.reduceToNat]
   refine CallK.imp (c_update ms c hms (textP o.p).1 (signP o.ks (textP o.p).1 o.at_).1 (by omega) (by omega) o.now) rfl rfl (by simp [lk, BClo]) (by simp [lk]) (by simp [lk, fg]) ?_
   simp (decide := true) only [TF, q1, q2, hR, Par.cs, zpD, listD, Key.cs, ↓reduceIte, Int.reduceToNat]
   refine hK _ _ ?_; clear hK K
   show WP _ _ _ _ _ _
   refine WP.sr [4] (by kernel_rfl) fun K hK => ?_
   simp (decide := true) only [TF, q1, q2, hR, Par.cs, zpD, listD, Key.cs, ↓reduceIte, Int.reduceToNat]
   refine hK _ _ ?_; clear hK K
   refine WP.ret ?_
   refine Ends.imp (.inr rfl) rfl (Le.junk _) ?_ ?_ ?_
   · simp
   · simp [St.get, lk, W, BClo, q1, q2, hR]
   · simp [lk]
  ·
   refine WP.sr [0, 3, 4, 5, 11, 45] (by kernel_rfl) fun K hK => ?_
   simp (decide := true) only [TF, q1, q2, Par.cs, zpD, listD, Key.cs, ↓reduceIte, Int.reduceToNat]
   refine hK _ _ ?_; clear hK K
   refine WP.cond (b := _) rfl (fun q3 => ?_) (fun q3 => ?_)
   ·
    have hR := do_3 (ms := ms) (c := c) (o := o) (by assumption) (by assumption) (by assumption)
    refine WP.region (by kernel_rfl) fun K hK => ?_
    simp (decide := true) only [TF, q1, q2, q3, hR, Par.cs, zpD, listD, Key.cs, ↓reduceIte, Int.reduceToNat]
    refine CallK.imp (c_update ms c hms o.text o.sig ho.2.2.2.2.1 ho.2.2.2.2.2.1 o.now) rfl rfl (by simp [lk, BClo]) (by simp [lk]) (by simp [lk, fg]) ?_
    simp (decide := true) only [TF, q1, q2, q3, hR, Par.cs, zpD, listD, Key.cs, ↓reduceIte, Int.reduceToNat]
    refine hK _ _ ?_; clear hK K
    show WP _ _ _ _ _ _
    refine WP.sr [4] (by kernel_rfl) fun K hK => ?_
    simp (decide := true) only [TF, q1, q2, q3, hR, Par.cs, zpD, listD, Key.cs, ↓reduceIte, Int.reduceToNat]
    refine hK _ _ ?_; clear hK K
    refine WP.ret ?_
    refine Ends.imp (.inr rfl) rfl (Le.junk _) ?_ ?_ ?_
    · simp
    · simp [St.get, lk, W, BClo, q1, q2, q3, hR]
    · simp [lk]
   ·
    refine WP.sr [0, 3, 4, 5, 11, 56] (by kernel_rfl) fun K hK => ?_
    simp (decide := true) only [TF, q1, q2, q3, Par.cs, zpD, listD, Key.cs, ↓reduceIte, Int.reduceToNat]
    refine hK _ _ ?_; clear hK K
    refine WP.cond (b := _) rfl (fun q4 => ?_) (fun q4 => ?_)
    ·
     have hR := do_4 (ms := ms) (c := c) (o := o) (by assumption) (by assumption) (by assumption) (by assumption)
     rcases part_two ms o.id o.now with ⟨e, hP⟩ | ⟨a, hP⟩
     ·
      refine WP.region (by kernel_rfl) fun K hK => ?_
      simp (decide := true) only [TF, q1, q2, q3, q4, hR, hP, Par.cs, zpD, listD, Key.cs, ↓reduceIte, Int.reduceToNat]
      refine CallK.imp (c_partner1 ms c hms o.id o.now) rfl rfl (by simp [lk, BClo]) (by simp [lk]) (by simp [lk, fg]) ?_
      simp (decide := true) only [TF, q1, q2, q3, q4, hR, hP, Par.cs, zpD, listD, Key.cs, ↓reduceIte, Int.reduceToNat]
      refine hK _ _ ?_; clear hK K
      show WP _ _ _ _ _ _
      refine WP.sr [4] (by kernel_rfl) fun K hK => ?_
      simp (decide := true) only [TF, q1, q2, q3, q4, hR, hP, Par.cs, zpD, listD, Key.cs, ↓reduceIte, Int.reduceToNat]
      refine hK _ _ ?_; clear hK K
      refine WP.ret ?_
      refine Ends.imp (.inr rfl) rfl (Le.junk _) ?_ ?_ ?_
      · simp
      · simp [St.get, lk, W, BClo, q1, q2, q3, q4, hR, hP]
      · simp [lk]
     ·
      refine WP.region (by kernel_rfl) fun K hK => ?_
      simp (decide := true) only [TF, q1, q2, q3, q4, hR, hP, Par.cs, zpD, listD, Key.cs, ↓reduceIte, Int.reduceToNat]
      refine CallK.imp (c_partner1 ms c hms o.id o.now) rfl rfl (by simp [lk, BClo]) (by simp [lk]) (by simp [lk, fg]) ?_
      simp (decide := true) only [TF, q1, q2, q3, q4, hR, hP, Par.cs, zpD, listD, Key.cs, ↓reduceIte, Int.reduceToNat]
      refine hK _ _ ?_; clear hK K
      show WP _ _ _ _ _ _
      refine WP.sr [4] (by kernel_rfl) fun K hK => ?_
      simp (decide := true) only [TF, q1, q2, q3, q4, hR, hP, Par.cs, zpD, listD, Key.cs, ↓reduceIte, Int.reduceToNat]
      refine hK _ _ ?_; clear hK K
      refine WP.ret ?_
      refine Ends.imp (.inr rfl) rfl (Le.junk _) ?_ ?_ ?_
      · simp
      · simp [St.get, lk, W, BClo, q1, q2, q3, q4, hR, hP]
      · simp [lk]
    ·
     refine WP.sr [0, 3, 4, 5, 11, 69] (by kernel_rfl) fun K hK => ?_
     simp (decide := true) only [TF, q1, q2, q3, q4, Par.cs, zpD, listD, Key.cs, ↓reduceIte, Int.reduceToNat]
     refine hK _ _ ?_; clear hK K
     refine WP.cond (b := _) rfl (fun q5 => ?_) (fun q5 => ?_)
     ·
      have hR := do_5 (ms := ms) (c := c) (o := o) (by assumption) (by assumption) (by assumption) (by assumption) (by assumption)
      refine WP.region (by kernel_rfl) fun K hK => ?_
      simp (decide := true) only [TF, q1, q2, q3, q4, q5, hR, Par.cs, zpD, listD, Key.cs, ↓reduceIte, Int.reduceToNat]
      refine CallK.imp (c_remove ms c o.id) rfl rfl (by simp [lk, BClo]) (by simp [lk]) (by simp [lk, fg]) ?_
      simp (decide := true) only [TF, q1, q2, q3, q4, q5, hR, Par.cs, zpD, listD, Key.cs, ↓reduceIte, Int.reduceToNat]
      refine hK _ _ ?_; clear hK K
      show WP _ _ _ _ _ _
      refine WP.sr [4] (by kernel_rfl) fun K hK => ?_
      simp (decide := true) only [TF, q1, q2, q3, q4, q5, hR, Par.cs, zpD, listD, Key.cs, ↓reduceIte, Int.reduceToNat]
      refine hK _ _ ?_; clear hK K
      refine WP.ret ?_
      refine Ends.imp (.inr rfl) rfl (Le.junk _) ?_ ?_ ?_
      · simp
      · simp [St.get, lk, W, BClo, q1, q2, q3, q4, q5, hR]
      · simp [lk]
     ·
      have hR := do_6 (ms := ms) (c := c) (o := o) (by assumption) (by assumption) (by assumption) (by assumption) (by assumption)
      refine WP.sr [0, 4, 5, 76] (by kernel_rfl) fun K hK => ?_
      simp (decide := true) only [TF, q1, q2, q3, q4, q5, hR, Par.cs, zpD, listD, Key.cs, ↓reduceIte, Int.reduceToNat]
      refine hK _ _ ?_; clear hK K
      refine WP.cond (b := _) rfl (fun q6 => ?_) (fun q6 => ?_)
      ·
       refine WP.region (by kernel_rfl) fun K hK => ?_
       simp (decide := true) only [TF, q1, q2, q3, q4, q5, hR, q6, Par.cs, zpD, listD, Key.cs, ↓reduceIte, Int.reduceToNat]
       refine CallK.imp (c_list ms c hes (by omega)) rfl rfl (by simp [lk, BClo]) (by simp [lk]) (by simp [lk, fg]) ?_
       simp (decide := true) only [TF, q1, q2, q3, q4, q5, hR, q6, Par.cs, zpD, listD, Key.cs, ↓reduceIte, Int.reduceToNat]
       refine hK _ _ ?_; clear hK K
       show WP _ _ _ _ _ _
       refine WP.sr [4] (by kernel_rfl) fun K hK => ?_
       simp (decide := true) only [TF, q1, q2, q3, q4, q5, hR, q6, Par.cs, zpD, listD, Key.cs, ↓reduceIte, Int.reduceToNat]
       refine hK _ _ ?_; clear hK K
       refine WP.ret ?_
       refine Ends.imp (.inr rfl) rfl (Le.junk _) ?_ ?_ ?_
       · simp
       · simp [St.get, lk, W, BClo, q1, q2, q3, q4, q5, hR, q6]
       · simp [lk]
      ·
       refine WP.skip ?_
       show WP _ _ _ _ _ _
       refine WP.sr [4] (by kernel_rfl) fun K hK => ?_
       simp (decide := true) only [TF, q1, q2, q3, q4, q5, hR, q6, Par.cs, zpD, listD, Key.cs, ↓reduceIte, Int.reduceToNat]
       refine hK _ _ ?_; clear hK K
       refine WP.ret ?_
       refine Ends.imp (.inr rfl) rfl (Le.junk _) ?_ ?_ ?_
       · simp
       · simp [St.get, lk, W, BClo, q1, q2, q3, q4, q5, hR, q6]
       · simp [lk]
structure TOk (ms : TS) (c : Nat) : Prop where
 ok : TS.ok ms
 keys : (ms.map (·.1)).Nodup
 born : (ms.map (·.2.2)).Nodup
 lt : ∀ e ∈ ms, e.2.2 < c
theorem TOk.es {ms : TS} {c : Nat} (h : TOk ms c) : EsOk (tsE ms, c) := by
 have e1 : (tsE ms).map (·.1) = ms.map (·.1) := by simp [tsE]
 have e2 : (tsE ms).map (·.2.2) = ms.map (·.2.2) := by simp [tsE]
 refine ⟨by show ((tsE ms).map _).Nodup; rw [e1]; exact h.keys, by show ((tsE ms).map _).Nodup; rw [e2]; exact h.born, fun e he => ?_⟩
 obtain ⟨x, hx, rfl⟩ := List.mem_map.1 he
 exact h.lt x hx
theorem TOk.nil : TOk [] 0 := ⟨nil_ok, by simp, by simp, by simp⟩
theorem findT_no : ∀ {ms : TS} {s : List UInt8}, findT ms s = none → s ∉ ms.map (·.1)
 | [], _, _ => by simp
 | (k, p, n) :: ms, s, h => by
  unfold findT at h
  split at h
  ·cases h
  ·rename_i e; simp only [List.map_cons, List.mem_cons, not_or]; exact ⟨e, findT_no h⟩
theorem setT_keys : ∀ (ms : TS) (s : List UInt8) (x : Par), (setT ms s x).map (·.1) = ms.map (·.1)
 | [], _, _ => rfl
 | (k, p, n) :: ms, s, x => by unfold setT; split <;> simp [setT_keys ms s x]
theorem setT_born : ∀ (ms : TS) (s : List UInt8) (x : Par), (setT ms s x).map (·.2.2) = ms.map (·.2.2)
 | [], _, _ => rfl
 | (k, p, n) :: ms, s, x => by unfold setT; split <;> simp [setT_born ms s x]
theorem setT_mem : ∀ {ms : TS} {s : List UInt8} {x : Par} {e}, e ∈ setT ms s x → e ∈ ms ∨ e.2.1 = x
 | [], _, _, _, h => by simp [setT] at h
 | (k, p, n) :: ms, s, x, e, h => by
  unfold setT at h
  split at h
  ·rcases List.mem_cons.1 h with rfl | h
   ·exact .inr rfl
   ·exact .inl (List.mem_cons_of_mem _ h)
  ·rcases List.mem_cons.1 h with rfl | h
   ·exact .inl (by simp)
   ·exact (setT_mem h).imp (List.mem_cons_of_mem _) id
theorem setT_len (ms : TS) (s : List UInt8) (x : Par) : (setT ms s x).length = ms.length := by
 have := congrArg List.length (setT_keys ms s x)
 simpa using this
theorem TOk.put {ms : TS} {c : Nat} (h : TOk ms c) (s : List UInt8) {x : Par} (hx : x.ok ∧ x.keys ≠ []) : TOk (putT ms c s x) (putTC ms c s) ∧ (putT ms c s x).length ≤ ms.length + 1 := by
 unfold putT putTC
 cases hf : findT ms s with
 | some d =>
  refine ⟨⟨fun e he => ?_, by rw [setT_keys]; exact h.keys, by rw [setT_born]; exact h.born, fun e he => ?_⟩, by rw [setT_len]; omega⟩
  ·rcases setT_mem he with he | he
   ·exact h.ok e he
   ·rw [he]; exact hx
  ·have : e.2.2 ∈ (setT ms s x).map (·.2.2) := List.mem_map_of_mem he
   rw [setT_born, List.mem_map] at this
   obtain ⟨y, hy, hye⟩ := this
   rw [← hye]; exact h.lt y hy
 | none =>
  have hn := findT_no hf
  refine ⟨⟨fun e he => ?_, ?_, ?_, fun e he => ?_⟩, by simp⟩
  ·rcases List.mem_append.1 he with he | he
   ·exact h.ok e he
   ·rw [List.mem_singleton.1 he]; exact hx
  ·rw [List.map_append, List.nodup_append]
   exact ⟨h.keys, by simp, fun a ha b hb => by simp at hb; subst hb; exact fun e => hn (e ▸ ha)⟩
  ·rw [List.map_append, List.nodup_append]
   refine ⟨h.born, by simp, fun a ha b hb => ?_⟩
   simp at hb; subst hb
   obtain ⟨y, hy, rfl⟩ := List.mem_map.1 ha
   exact Nat.ne_of_lt (h.lt y hy)
  ·rcases List.mem_append.1 he with he | he
   ·have := h.lt e he; show e.2.2 < c + 1; omega
   ·rw [List.mem_singleton.1 he]; exact Nat.lt_succ_self c
theorem delT_sub : ∀ (ms : TS) (s : List UInt8), (delT ms s).Sublist ms
 | [], _ => .slnil
 | (k, p, n) :: ms, s => by
  unfold delT
  split
  ·exact List.sublist_cons_self _ _
  ·exact (delT_sub ms s).cons_cons _
theorem TOk.del {ms : TS} {c : Nat} (h : TOk ms c) (s : List UInt8) : TOk (delT ms s) c ∧ (delT ms s).length ≤ ms.length + 1 := by
 have hs := delT_sub ms s
 exact ⟨⟨fun e he => h.ok e (hs.subset he), h.keys.sublist (hs.map _), h.born.sublist (hs.map _), fun e he => h.lt e (hs.subset he)⟩, Nat.le_succ_of_le hs.length_le⟩
theorem anch_zero {ms : TS} {p : Par} {t : Int} (h : anchE ms p t = 0) : checkP p = 0 ∧ ¬ p.u ≤ limB t ∧ findT ms p.id = none := by
 unfold anchE at h
 split at h
 ·rename_i h1; simp at h1; exact absurd h h1
 ·rename_i h1
  split at h
  ·cases h
  ·rename_i h2
   split at h
   ·cases h
   ·rename_i h3
    exact ⟨by simpa using h1, by simpa using h2, by simpa using h3⟩
theorem TOk.anch {ms : TS} {c : Nat} (h : TOk ms c) {p : Par} (hp : p.ok) (t : Int) : TOk (anch ms c p t).2.1 (anch ms c p t).2.2 ∧ (anch ms c p t).2.1.length ≤ ms.length + 1 := by
 unfold Go.Proofs.anch
 split
 ·rename_i h0
  obtain ⟨h1, _, _⟩ := anch_zero h0
  exact h.put _ ⟨hp, check_keys (by rw [h1]; rfl)⟩
 ·exact ⟨h, Nat.le_succ _⟩
theorem upd_pars {ms : TS} {text sig : List UInt8} {t : Int} (h : updE ms text sig t = 0) : (pP text).2.2 = 0 ∧ (sgnR sig).2 = true ∧ ∃ a, findT ms (pP text).1.id = some a ∧ (accD a.keys (sgnR sig).1 t 0).2 = 0 ∧ sig = sigB (accD a.keys (sgnR sig).1 t 0).1 text ∧ ¬ (pP text).1.f ≤ a.f := by
 unfold updE at h
 split at h
 ·cases h
 ·rename_i h1
  split at h
  ·cases h
  ·rename_i h2
   split at h
   ·cases h
   ·rename_i a h3
    split at h
    ·rename_i h4; simp at h4; exact absurd h h4
    ·rename_i h4
     split at h
     ·cases h
     ·rename_i h5
      split at h
      ·cases h
      ·rename_i h6
       exact ⟨by simpa using h1, by simpa using h2, a, h3, by simpa using h4, by simpa using h5, by simpa using h6⟩
theorem parse_ok2 {s : List UInt8} (h : (pP s).2.2 = 0) : checkP (pP s).1 = 0 := (parse_textP (s := s) (by rw [h]; rfl)).2
theorem TOk.upd {ms : TS} {c : Nat} (h : TOk ms c) (text sig : List UInt8) (t : Int) : TOk (upd ms c text sig t).2.1 (upd ms c text sig t).2.2 ∧ (upd ms c text sig t).2.1.length ≤ ms.length + 1 := by
 unfold Go.Proofs.upd
 split
 ·rename_i h0
  obtain ⟨h1, _⟩ := upd_pars h0
  exact h.put _ ⟨pP_ok text, check_keys (by rw [parse_ok2 h1]; rfl)⟩
 ·exact ⟨h, Nat.le_succ _⟩
theorem TOk.step {ms : TS} {c : Nat} (h : TOk ms c) {o : Opd} (ho : o.ok) : TOk (doS ms c o).1 (doS ms c o).2 ∧ (doS ms c o).1.length ≤ ms.length + 1 := by
 unfold doS
 split
 ·exact h.anch ho.1 _
 ·split
  ·exact h.upd _ _ _
  ·split
   ·exact h.upd _ _ _
   ·split
    ·exact ⟨h, Nat.le_succ _⟩
    ·split
     ·exact h.del _
     ·exact ⟨h, Nat.le_succ _⟩
theorem runS_snoc (l : List Opd) (o : Opd) (q : TS × Nat) : runS (l ++ [o]) q = doS (runS l q).1 (runS l q).2 o := by simp [runS]
theorem run_ok : ∀ (l : List Opd) (q : TS × Nat), TOk q.1 q.2 → (∀ o ∈ l, o.ok) → TOk (runS l q).1 (runS l q).2 ∧ (runS l q).1.length ≤ q.1.length + l.length
 | [], q, h, _ => ⟨h, by simp [runS]⟩
 | o :: l, q, h, hl => by
  obtain ⟨a1, a2⟩ := h.step (hl o (by simp))
  obtain ⟨b1, b2⟩ := run_ok l (doS q.1 q.2 o) a1 fun x hx => hl x (List.mem_cons_of_mem _ hx)
  exact ⟨b1, by simp only [List.length_cons]; show (runS l (doS q.1 q.2 o)).1.length ≤ _; omega⟩
theorem c_run (l : List Opd) (nl : Bool) (hn : l.length ≤ 1000) (hnl : nl = true → l = []) (hl : ∀ o ∈ l, o.ok) : CallE Pr 32 [.slice 12 nl (l.map Opd.cs) none] [] (.ref 1 0) [(0, .map (tsE (runS l ([], 0)).1) ((runS l ([], 0)).2)), (1, .box 91 [.map 0])] := by
 refine CallE.of_wp Tryz.func32 rfl (by kernel_rfl) Tryz.ntmps32 (by simp) ?_
 simp only [frameOf, Nat.reduceAdd, Nat.zero_add, List.map_cons, List.map_nil]
 refine WP.sr [0] (by kernel_rfl) fun K hK => ?_
 simp (decide := true) only [TF, ↓reduceIte, Int.reduceToNat]
 refine hK _ _ ?_; clear hK K
 refine WP.sr [0, 3] (by kernel_rfl) fun K hK => ?_
 simp (decide := true) only [TF, ↓reduceIte, Int.reduceToNat]
 refine CallK.imp (c_new) rfl rfl (by simp [lk, BClo]) (by simp [lk]) (by simp [lk, fg]) ?_
 simp (decide := true) only [TF, ↓reduceIte, Int.reduceToNat]
 refine hK _ _ ?_; clear hK K
 refine WP.seq ?_
 refine WP.sr [0, 3, 7, 8] (by kernel_rfl) fun K hK => ?_
 simp (decide := true) only [TF, ↓reduceIte, Int.reduceToNat]
 refine hK _ _ ?_; clear hK K
 refine WP.block ?_
 refine WP.lp [0, 3, 7] (X := {k : Nat // k ≤ l.length}) (fun x => match x with | ⟨(k), _⟩ => [(8, .int .i64 k)]) (fun x => match x with | ⟨(k), _⟩ => [(0, .map (tsE (runS (l.take k) ([], 0)).1) ((runS (l.take k) ([], 0)).2)), (1, .box 91 [.map 0])]) (fun x => match x with | ⟨(k), _⟩ => l.length - k) (by simp (decide := true) only [W, ↓reduceIte, Int.reduceToNat]; rfl) ?_ ⟨(0), Nat.zero_le _⟩ ?_
 rotate_left
 · exact Weak.store (by simp [St.get, lk, W, Le.refl, W]) (by simp [lk, W, runS, W]) (by simp [lk, W]) (by simp [BClo, lk]) (by simp [lk])
 rintro ⟨k, hk⟩
 dsimp only
 simp only [List.cons_append, List.nil_append]
 obtain ⟨hk1, hk2⟩ := run_ok (l.take k) ([], 0) TOk.nil (fun o ho => hl o (List.mem_of_mem_take ho))
 have hk3 : (runS (l.take k) ([], 0)).1.length ≤ 1000 := by simp only [List.length_take, List.length_nil] at hk2; omega
 refine WP.sr [0, 3, 7, 8, 9] (by kernel_rfl) fun K hK => ?_
 simp (decide := true) only [TF, ↓reduceIte, Int.reduceToNat]
 refine hK _ _ ?_; clear hK K
 refine WP.seq ?_
 refine WP.cond (b := _) rfl (fun q1 => ?_) (fun q1 => ?_)
 ·
  have hlt := lt_of_q q1
  have hg : (l.map Opd.cs)[k]? = some [.int .i64 l[k].kind, .str l[k].p.id, .str l[k].p.addr, .slice 6 l[k].p.nk (l[k].p.keys.map Key.cs) none, .int .i64 l[k].p.f, .int .i64 l[k].p.u, .slice 6 l[k].nk (l[k].ks.map Key.cs) none, .str l[k].text, .str l[k].sig, .str l[k].id, .int .i64 l[k].at_, .int .i64 l[k].now] := getM hlt
  have hnf := nl_false hnl hlt
  have hst : runS (l.take (k + 1)) ([], 0) = doS (runS (l.take k) ([], 0)).1 (runS (l.take k) ([], 0)).2 l[k] := by rw [← List.take_append_getElem hlt, runS_snoc]
  refine WP.skip ?_
  show WP _ _ _ _ _ _
  refine WP.seq ?_
  refine WP.block ?_
  refine WP.sr [0, 3, 4, 7, 8] (by kernel_rfl) fun K hK => ?_
  simp (decide := true) only [TF, q1, hg, hnf, ↓reduceIte, Int.reduceToNat]
  refine hK _ _ ?_; clear hK K
  refine WP.region (by kernel_rfl) fun K hK => ?_
  simp (decide := true) only [TF, q1, hg, hnf, ↓reduceIte, Int.reduceToNat]
  refine CallK.imp (c_doJ (runS (l.take k) ([], 0)).1 (runS (l.take k) ([], 0)).2 hk1.ok hk1.es (by omega) l[k] (hl _ (List.getElem_mem hlt))) rfl rfl (by simp [lk, BClo]) (by simp [lk]) (by simp [lk, fg]) ?_
  simp (decide := true) only [TF, q1, hg, hnf, ↓reduceIte, Int.reduceToNat]
  refine hK _ _ ?_; clear hK K
  show WP _ _ _ _ _ _
  refine WP.region (by kernel_rfl) fun K hK => ?_
  simp (decide := true) only [TF, q1, hg, hnf, ↓reduceIte, Int.reduceToNat]
  refine hK _ _ ?_; clear hK K
  show ∃ y, _ ∧ Weak _ _ _
  refine ⟨⟨k + 1, ?_⟩, ?_, ?_⟩
  · omega
  · dsimp only; omega
  · exact Weak.store (by simp [St.get, lk, W, Le.refl, q1, hg, hnf, wrapS hlt (show l.length ≤ 140737488355328 by omega)]) (by simp [lk, W, hst, q1, hg, hnf]) (by simp [lk, W]) (by simp [BClo, lk]) (by simp [lk])
 ·
  have hge := ge_of_q q1
  have hte : l.take k = l := List.take_of_length_le hge
  rw [hte]
  refine WP.exit ?_
  show WP _ _ _ _ _ _
  refine WP.sr [2] (by kernel_rfl) fun K hK => ?_
  simp (decide := true) only [TF, q1, ↓reduceIte, Int.reduceToNat]
  refine hK _ _ ?_; clear hK K
  refine WP.ret ?_
  refine Ends.imp (.inr rfl) rfl (Le.of_eq (by simp (decide := true) only [St.get, lk, W, q1, ↓reduceIte])) ?_ ?_ ?_
  · simp [lk]
  · simp [St.get, lk, W, BClo, q1]
  · simp [lk]
theorem ren_ts (f : Nat → Nat) (ms : TS) : (tsE ms).map (fun e => (e.1, renD f e.2.1, e.2.2)) = tsE ms := by
 simp only [tsE, List.map_map]
 refine List.map_congr_left fun e _ => ?_
 simp [renD, Par.cs, renL, ren_keys]
theorem c_anchor_at (m b : Nat) (hmb : m ≠ b) (ms : TS) (c : Nat) (hms : TS.ok ms) (p : Par) (hp : p.ok) (t : Int) : CallE Pr 33 [.ref b 0, .agg [.str p.id, .str p.addr, .slice 6 p.nk (p.keys.map Key.cs) none, .int .i64 p.f, .int .i64 p.u], .int .i64 t]
  [(m, .map (tsE ms) c), (b, .box 91 [.map m])] (.int .i64 (anch ms c p t).1) [(m, .map (tsE (anch ms c p t).2.1) (anch ms c p t).2.2), (b, .box 91 [.map m])] := by
 obtain ⟨f, g, h1, h2⟩ := ren_ex [m, b] (by simp [hmb])
 have := CallE.rename h1 (c_anchor ms c hms p hp t)
 have f0 : f 0 = m := h2 0 m rfl
 have f1 : f 1 = b := h2 1 b rfl
 simpa [renS, ren_ts, renB, renD, renL, ren_keys, f0, f1] using this
theorem c_update_at (m b : Nat) (hmb : m ≠ b) (ms : TS) (c : Nat) (hms : TS.ok ms) (text sig : List UInt8) (ht : text.length ≤ 1099511627776) (hs : sig.length ≤ 1099511627776) (t : Int) : CallE Pr 34 [.ref b 0, .str text, .str sig, .int .i64 t]
  [(m, .map (tsE ms) c), (b, .box 91 [.map m])] (.int .i64 (upd ms c text sig t).1) [(m, .map (tsE (upd ms c text sig t).2.1) (upd ms c text sig t).2.2), (b, .box 91 [.map m])] := by
 obtain ⟨f, g, h1, h2⟩ := ren_ex [m, b] (by simp [hmb])
 have := CallE.rename h1 (c_update ms c hms text sig ht hs t)
 have f0 : f 0 = m := h2 0 m rfl
 have f1 : f 1 = b := h2 1 b rfl
 simpa [renS, ren_ts, renB, renD, renL, f0, f1] using this
theorem c_run_at (m b : Nat) (hmb : m ≠ b) (l : List Opd) (nl : Bool) (hn : l.length ≤ 1000) (hnl : nl = true → l = []) (hl : ∀ o ∈ l, o.ok) : CallE Pr 32 [.slice 12 nl (l.map Opd.cs) none] [] (.ref b 0)
  [(m, .map (tsE (runS l ([], 0)).1) (runS l ([], 0)).2), (b, .box 91 [.map m])] := by
 obtain ⟨f, g, h1, h2⟩ := ren_ex [m, b] (by simp [hmb])
 have := CallE.rename h1 (c_run l nl hn hnl hl)
 have f0 : f 0 = m := h2 0 m rfl
 have f1 : f 1 = b := h2 1 b rfl
 have e : renLL f (l.map Opd.cs) = l.map Opd.cs := by
  rw [renLL_map]
  refine (List.map_congr_left fun x hx => ?_).trans (List.map_id _)
  obtain ⟨o, _, rfl⟩ := List.mem_map.1 hx
  simp [Opd.cs, renL, renD, ren_keys]
 simpa [renS, ren_ts, renB, renD, renL, e, f0, f1] using this
theorem accD_in : ∀ {l : List Key} {id : List UInt8} {now : Int}, (accD l id now 0).2 = 0 → (accD l id now 0).1 ∈ l ∧ chkW (accD l id now 0).1.af (accD l id now 0).1.au now 0 = 0
 | [], _, _, h => by rw [accD_nil] at h; cases h
 | k :: t, id, now, h => by
  rw [accD_cons] at h ⊢
  split
  ·rename_i h1
   rw [if_pos h1] at h
   split
   ·rename_i h2; rw [if_pos h2] at h; simp at h2; exact absurd h h2
   ·rename_i h2; exact ⟨by simp, by simpa using h2⟩
  ·rename_i h1
   rw [if_neg h1] at h
   obtain ⟨a, b⟩ := accD_in h
   exact ⟨List.mem_cons_of_mem _ a, b⟩
theorem chk_in {f u t : Int} (h : chkW f u t 0 = 0) : inB f u t = true := by
 unfold chkW at h
 have hs : skB 0 = 0 := by rfl
 split at h
 ·cases h
 ·split at h
  ·cases h
  ·split at h
   ·cases h
   ·rename_i h1 h2 h3
    simp only [decide_eq_true_eq, hs] at h1 h2 h3
    unfold inB
    simp
    omega
theorem find_setT : ∀ {ms : TS} {s : List UInt8} {x a : Par}, findT ms s = some a → findT (setT ms s x) s = some x
 | (k, p, n) :: ms, s, x, a, h => by
  unfold findT at h
  unfold setT
  split
  ·rename_i e; simp [findT, e]
  ·rename_i e; rw [if_neg e] at h; rw [findT, if_neg e]; exact find_setT h
theorem find_app : ∀ {ms : TS} {s : List UInt8} {x : Par} {c : Nat}, findT ms s = none → findT (ms ++ [(s, x, c)]) s = some x
 | [], s, x, c, _ => by simp [findT]
 | (k, p, n) :: ms, s, x, c, h => by
  unfold findT at h
  split at h
  ·cases h
  ·rename_i e; rw [List.cons_append, findT, if_neg e]; exact find_app h
theorem find_put (ms : TS) (c : Nat) (s : List UInt8) (x : Par) : findT (putT ms c s x) s = some x := by
 unfold putT
 cases h : findT ms s with
 | none => exact find_app h
 | some a => exact find_setT h
theorem anch_find {ms : TS} {c : Nat} {p : Par} {t : Int} (h : (anch ms c p t).1 = 0) : anchE ms p t = 0 ∧ (anch ms c p t).2 = (putT ms c p.id p, putTC ms c p.id) := by
 unfold anch at h ⊢
 split at h
 ·rename_i h0; rw [if_pos h0]; exact ⟨h0, rfl⟩
 ·rename_i h0; exact absurd h h0
theorem upd_done {ms : TS} {c : Nat} {text sig : List UInt8} {t : Int} (h : (upd ms c text sig t).1 = 0) : updE ms text sig t = 0 ∧ (upd ms c text sig t).2 = (putT ms c (pP text).1.id (pP text).1, putTC ms c (pP text).1.id) := by
 unfold upd at h ⊢
 split at h
 ·rename_i h0; rw [if_pos h0]; exact ⟨h0, rfl⟩
 ·rename_i h0; exact absurd h h0
theorem signed_by {ms : TS} {c : Nat} {p : Par} {text sig : List UInt8} {t : Int} (h1 : (anch ms c p t).1 = 0) (h2 : (upd (anch ms c p t).2.1 (anch ms c p t).2.2 text sig t).1 = 0) (h3 : (pP text).1.id = p.id) :
  ∃ q ∈ p.keys.drop 0, (sig == q.id ++ [58] ++ macB q.sec text) = true ∧ inB q.af q.au t = true := by
 obtain ⟨a1, a2⟩ := anch_find h1
 obtain ⟨b1, b2⟩ := upd_done h2
 obtain ⟨_, _, a, f1, f2, f3, _⟩ := upd_pars b1
 rw [a2, h3, find_put] at f1
 cases f1
 obtain ⟨g1, g2⟩ := accD_in f2
 exact ⟨_, by simpa using g1, by rw [beq_iff_eq]; exact f3, chk_in g2⟩
theorem upd_parsed {ms : TS} {c : Nat} {text sig : List UInt8} {t : Int} (h : (upd ms c text sig t).1 = 0) : (pP text).2.2 = 0 := (upd_pars (upd_done h).1).1
theorem next_q {p : Par} {k : Nat} (hk : k < p.keys.length) {P : Key → Prop} (h : ∃ q ∈ p.keys.drop k, P q) (hn : ¬ P p.keys[k]) : ∃ q ∈ p.keys.drop (k + 1), P q := by
 obtain ⟨q, hq, hp⟩ := h
 rw [List.drop_eq_getElem_cons hk] at hq
 rcases List.mem_cons.1 hq with rfl | hq
 ·exact absurd hp hn
 ·exact ⟨q, hq, hp⟩
theorem no_q {p : Par} {k : Nat} (hk : p.keys.length ≤ k) {P : Key → Prop} (h : ∃ q ∈ p.keys.drop k, P q) : False := by
 obtain ⟨q, hq, _⟩ := h
 rw [List.drop_of_length_le hk] at hq
 simp at hq
theorem sgn_sig {k : Key} {text : List UInt8} (hw : wordB k.id = true) : sgnR (sigB k text) = (k.id, true) := by
 have e : sigB k text = k.id ++ 58 :: macB k.sec text := by simp [sigB]
 rw [e, sgn_of (by unfold macB txtB; exact hex_no _ _), if_pos hw]
 have hr : rdH (macB k.sec text) = (sumU (preM k.sec ++ txtB (preM k.sec ++ text)), 0) := rdH_hex (sumU_rng _).1 (sumU_rng _).2
 rw [hr]
 rfl
theorem sign_done {l : List Key} {s : List UInt8} {now : Int} (h : (signP l s now).2 = 0) : eqK (sgK l now) zeroK = false ∧ (signP l s now).1 = sigB (sgK l now) s := by
 unfold signP at h ⊢
 split at h
 ·cases h
 ·rename_i he; rw [if_neg he]; exact ⟨by simpa using he, rfl⟩
theorem text_done {p : Par} (h : (textP p).2 = 0) : pP (textP p).1 = ({ p with nk := false }, 0, 0) ∧ checkP p = 0 := by
 refine ⟨text_parseP (by rw [h]; rfl), ?_⟩
 unfold textP at h
 split at h
 ·rename_i h1; simp at h1; exact absurd h h1
 ·rename_i h1; simpa using h1
theorem upd_signed {ms : TS} {c : Nat} {a q : Par} {t : Int} (hf : findT ms q.id = some a) (ht : (textP q).2 = 0) (hs : (signP a.keys (textP q).1 t).2 = 0) (hw : wordB (sgK a.keys t).id = true) :
  upd ms c (textP q).1 (signP a.keys (textP q).1 t).1 t = if q.f ≤ a.f then (12, ms, c) else (0, putT ms c q.id { q with nk := false }, putTC ms c q.id) := by
 obtain ⟨hz, hsig⟩ := sign_done hs
 obtain ⟨hp, _⟩ := text_done ht
 have hg : sgnR (signP a.keys (textP q).1 t).1 = ((sgK a.keys t).id, true) := by rw [hsig]; exact sgn_sig hw
 have hacc := sign_acc 0 hz
 have h1 : ((pP (textP q).1).2.2 != 0) = false := by rw [hp]; rfl
 have h2 : (!(sgnR (signP a.keys (textP q).1 t).1).2) = false := by rw [hg]; rfl
 have h3 : findT ms (pP (textP q).1).1.id = some a := by rw [hp]; exact hf
 have h4 : ((accD a.keys (sgnR (signP a.keys (textP q).1 t).1).1 t 0).2 != 0) = false := by rw [hg]; show ((accD a.keys (sgK a.keys t).id t 0).2 != 0) = false; rw [hacc]; rfl
 have h5 : (!((signP a.keys (textP q).1 t).1 == sigB (accD a.keys (sgnR (signP a.keys (textP q).1 t).1).1 t 0).1 (textP q).1)) = false := by
  rw [hg]; show (!((signP a.keys (textP q).1 t).1 == sigB (accD a.keys (sgK a.keys t).id t 0).1 (textP q).1)) = false; rw [hacc, hsig]; simp
 have hpf : (pP (textP q).1).1.f = q.f := by rw [hp]
 split
 ·rename_i hle
  exact upd_12 h1 h2 h3 h4 h5 (by rw [hpf]; simpa using hle)
 ·rename_i hle
  have := upd_y (c := c) h1 h2 h3 h4 h5 (by rw [hpf]; simpa using hle)
  rw [this, hp]
theorem upd_old {ms : TS} {c : Nat} {a b q : Par} {t : Int} (hf : findT ms q.id = some b) (ht : (textP q).2 = 0) (hs : (signP a.keys (textP q).1 t).2 = 0) (hw : wordB (sgK a.keys t).id = true) (hno : ∀ k ∈ b.keys, k.id ≠ (sgK a.keys t).id) :
  upd ms c (textP q).1 (signP a.keys (textP q).1 t).1 t = (26, ms, c) := by
 obtain ⟨hz, hsig⟩ := sign_done hs
 obtain ⟨hp, _⟩ := text_done ht
 have hg : sgnR (signP a.keys (textP q).1 t).1 = ((sgK a.keys t).id, true) := by rw [hsig]; exact sgn_sig hw
 have hacc := accD_none (sgK a.keys t).id t 0 b.keys hno
 have h4 : (accD b.keys (sgnR (signP a.keys (textP q).1 t).1).1 t 0).2 = 26 := by rw [hg]; show (accD b.keys (sgK a.keys t).id t 0).2 = 26; rw [hacc]
 have := upd_k (ms := ms) (c := c) (text := (textP q).1) (sig := (signP a.keys (textP q).1 t).1) (t := t) (a := b) (by rw [hp]; rfl) (by rw [hg]; rfl) (by rw [hp]; exact hf) (by rw [h4]; rfl)
 rw [this, h4]
theorem sgK_word {l : List Key} {now : Int} (h : eqK (sgK l now) zeroK = false) : wordB (sgK l now).id = true := by
 obtain ⟨h1, h2, _⟩ := sgK_some h
 obtain ⟨_, hg, _⟩ := (checkK_iff l).1 h1
 exact (hg _ h2).1
end Go.Proofs
namespace Go.Proofs
open Go Go.Id
theorem c_tpart_at (m b : Nat) (hmb : m ≠ b) (ms : TS) (c : Nat) (hms : TS.ok ms) (s : List UInt8) (t : Int) (d : D) (hd : partD ms s t = d) (hr : ∀ f, renD f d = d) : CallE Pr 35 [.ref b 0, .str s, .int .i64 t]
  [(m, .map (tsE ms) c), (b, .box 91 [.map m])] d [(m, .map (tsE ms) c), (b, .box 91 [.map m])] := by
 obtain ⟨f, g, h1, h2⟩ := ren_ex [m, b] (by simp [hmb])
 have := CallE.rename h1 (c_partner1 ms c hms s t)
 have f0 : f 0 = m := h2 0 m rfl
 have f1 : f 1 = b := h2 1 b rfl
 rw [hd, hr] at this
 simpa [renS, ren_ts, renB, renD, renL, f0, f1] using this
theorem ren_par (f : Nat → Nat) (p : Par) (e : D) (he : renD f e = e) : renD f (.tup [.agg p.cs, e]) = .tup [.agg p.cs, e] := by
 simp [renD, renL, Par.cs, ren_keys, he]
theorem win_chk {p : Par} (h : checkP p = 0) : chkW p.f p.u p.f 0 = 0 := by
 obtain ⟨_, _, h3, _, _⟩ := (checkP_iff p).1 h
 simp only [winB, Bool.and_eq_true, decide_eq_true_eq] at h3
 have hs : skB 0 = 0 := by rfl
 have hl : limB p.f = p.f := by unfold limB; omega
 unfold chkW
 rw [hs, hl, if_neg (by simp; omega), if_neg (by simp), if_neg (by simp; omega)]
theorem part_put {ms : TS} {c : Nat} {q : Par} (h : checkP q = 0) : partD (putT ms c q.id { q with nk := false }) q.id q.f = .tup [.agg ({ q with nk := false } : Par).cs, .int .i64 0] := by
 refine part_0 (find_put _ _ _ _) ?_
 show (chkW q.f q.u q.f 0 != 0) = false
 rw [win_chk h]; rfl
theorem find_setO {k s : List UInt8} {x : Par} (h : s ≠ k) : ∀ ms : TS, findT (setT ms k x) s = findT ms s
 | [] => rfl
 | (j, p, n) :: ms => by
  unfold setT
  split
  ·rename_i e; subst e; simp [findT, h]
  ·simp only [findT]; rw [find_setO h ms]
theorem find_appO {k s : List UInt8} {x : Par} {c : Nat} (h : s ≠ k) : ∀ ms : TS, findT (ms ++ [(k, x, c)]) s = findT ms s
 | [] => by simp [findT, h]
 | (j, p, n) :: ms => by simp only [List.cons_append, findT]; rw [find_appO h ms]
theorem find_putO {k s : List UInt8} {x : Par} {c : Nat} (h : s ≠ k) (ms : TS) : findT (putT ms c k x) s = findT ms s := by
 unfold putT
 split
 ·exact find_setO h ms
 ·exact find_appO h ms
theorem find_delO {k s : List UInt8} (h : s ≠ k) : ∀ ms : TS, findT (delT ms k) s = findT ms s
 | [] => rfl
 | (j, p, n) :: ms => by
  unfold delT
  split
  ·rename_i e; subst e; simp [findT, h]
  ·simp only [findT]; rw [find_delO h ms]
theorem anch_f {ms : TS} {c : Nat} {s : List UInt8} {a q : Par} {t : Int} (hf : findT ms s = some a) : findT (anch ms c q t).2.1 s = some a := by
 unfold anch
 split
 ·rename_i h0
  obtain ⟨_, _, h3⟩ := anch_zero h0
  have hne : s ≠ q.id := by rintro rfl; rw [h3] at hf; cases hf
  show findT (putT ms c q.id q) s = _
  rw [find_putO hne]; exact hf
 ·exact hf
theorem upd_f {ms : TS} {c : Nat} {s : List UInt8} {a : Par} {text sig : List UInt8} {t : Int} (hf : findT ms s = some a) : ∃ b, findT (upd ms c text sig t).2.1 s = some b ∧ a.f ≤ b.f := by
 unfold upd
 split
 ·rename_i h0
  obtain ⟨_, _, a', f1, _, _, f4⟩ := upd_pars h0
  by_cases hs : s = (pP text).1.id
  ·refine ⟨(pP text).1, ?_, ?_⟩
   ·show findT (putT ms c (pP text).1.id (pP text).1) s = _
    rw [hs]; exact find_put _ _ _ _
   ·rw [← hs, hf] at f1; cases f1; omega
  ·refine ⟨a, ?_, Int.le_refl _⟩
   show findT (putT ms c (pP text).1.id (pP text).1) s = _
   rw [find_putO hs]; exact hf
 ·exact ⟨a, hf, Int.le_refl _⟩
theorem step_f {ms : TS} {c : Nat} {s : List UInt8} {a : Par} {o : Opd} (hf : findT ms s = some a) (hn : ((o.kind == 5) && (o.id == s)) = false) : ∃ b, findT (doS ms c o).1 s = some b ∧ a.f ≤ b.f := by
 unfold doS
 split
 ·exact ⟨a, anch_f hf, Int.le_refl _⟩
 ·split
  ·exact upd_f hf
  ·split
   ·exact upd_f hf
   ·split
    ·exact ⟨a, hf, Int.le_refl _⟩
    ·split
     ·rename_i h5
      have hne : s ≠ o.id := by rintro rfl; rw [h5] at hn; simp at hn
      exact ⟨a, by show findT (delT ms o.id) s = _; rw [find_delO hne]; exact hf, Int.le_refl _⟩
     ·exact ⟨a, hf, Int.le_refl _⟩
theorem part_f {ms : TS} {s : List UInt8} {a : Par} (t : Int) (hf : findT ms s = some a) : (∃ e, (e != 0) = true ∧ partD ms s t = .tup [zpD, .int .i64 e]) ∨ partD ms s t = .tup [.agg a.cs, .int .i64 0] := by
 cases h : chkW a.f a.u t 0 != 0 with
 | true => exact .inl ⟨_, h, part_e hf h⟩
 | false => exact .inr (part_0 hf h)
theorem c_doJ_at (m b : Nat) (hmb : m ≠ b) (ms : TS) (c : Nat) (hms : TS.ok ms) (hes : EsOk (tsE ms, c)) (hln : ms.length ≤ 1000) (o : Opd) (ho : o.ok) : CallE Pr 27 [.ref b 0, .agg [.int .i64 o.kind, .str o.p.id, .str o.p.addr, .slice 6 o.p.nk (o.p.keys.map Key.cs) none, .int .i64 o.p.f, .int .i64 o.p.u, .slice 6 o.nk (o.ks.map Key.cs) none, .str o.text, .str o.sig, .str o.id, .int .i64 o.at_, .int .i64 o.now]]
  [(m, .map (tsE ms) c), (b, .box 91 [.map m])] .junk [(m, .map (tsE (doS ms c o).1) (doS ms c o).2), (b, .box 91 [.map m])] := by
 obtain ⟨f, g, h1, h2⟩ := ren_ex [m, b] (by simp [hmb])
 have := CallE.rename h1 (c_doJ ms c hms hes hln o ho)
 have f0 : f 0 = m := h2 0 m rfl
 have f1 : f 1 = b := h2 1 b rfl
 simpa [renS, ren_ts, renB, renD, renL, ren_keys, f0, f1] using this
theorem ren_zp (f : Nat → Nat) (e : Int) : renD f (.tup [zpD, .int .i64 e]) = .tup [zpD, .int .i64 e] := by simp [renD, renL, zpD, renLL]
end Go.Proofs
set_option maxRecDepth 100000
namespace Go.Proofs.YthepmnlpfhmddaaGreatDoor.Rw
open Go Go.Id Go.Proofs Go.ChangeShapes Go.WideShapes Go.ChangeAt Go.RowKit
section
variable {H : Type} {enc : TypeId × Value → H} {W : World}
theorem cl55 : Tryz.prog.cellsOf 55 = 12 := by kernel_rfl
theorem rdO : RdP enc W 55 (fun ds => ∃ o : Opd, ds = o.cs ∧ o.big) := by
 refine (rd_struct (As := [_, _, _, _, _, _, _, _]) Tryz.underlying55 ⟨rfl, rdI, by kernel_rfl, rdPa, by kernel_rfl, rdKs, by kernel_rfl, rdS, by kernel_rfl, rdS, by kernel_rfl, rdS, by kernel_rfl, rdI, by kernel_rfl, rdI, by show _ = _; kernel_rfl⟩).mono ?_
 rintro ds ⟨_, _, ⟨kd, rfl, _⟩, ⟨_, _, ⟨p, rfl, h1, h2⟩, ⟨_, _, ⟨nl, l, rfl, h3, h4⟩, ⟨_, _, ⟨s1, rfl, _⟩, ⟨_, _, ⟨s2, rfl, _⟩, ⟨_, _, ⟨s3, rfl, _⟩, ⟨_, _, ⟨a, rfl, _⟩, ⟨_, _, ⟨b, rfl, _⟩, rfl, rfl⟩, rfl⟩, rfl⟩, rfl⟩, rfl⟩, rfl⟩, rfl⟩, rfl⟩
 exact ⟨⟨kd, p, l, nl, s1, s2, s3, a, b⟩, rfl, h1, h2, h4, h3⟩
theorem rdOs : RdP enc W 44 (fun ds => ∃ nl l, ds = [.slice 12 nl (l.map Opd.cs) none] ∧ (nl = true → l = []) ∧ l.length ≤ 9223372036854775807 ∧ ∀ o ∈ l, o.big) := by
 refine (rd_slice Tryz.underlying44 (by rw [cl55]; omega) (fun _ _ h => h) rdO).mono ?_
 rintro ds ⟨nl, es, rfl, h1, h2, h3⟩
 obtain ⟨l, rfl, hl⟩ := list_form (f := Opd.cs) (g := Opd.big) es (fun e he => let ⟨o, hs, hb⟩ := h3 e he; ⟨o, hb, hs⟩)
 exact ⟨nl, l, by rw [cl55], fun h => by simpa using h1 h, by rw [maxl] at h2; simpa using h2, hl⟩
variable {r : Reach} {b0 : Nat} {v : Value} {d : DataW H} {ps : List MemPlace}
theorem arg_ops (hval : Value.okWide Tryz.prog W r b0 44 v) (h : DataW.Trod enc Tryz.prog W 0 (fun _ => true) true 44 v d ps) :
  ∃ (l : List Opd) (nl : Bool), l.length ≤ 9223372036854775807 ∧ (nl = true → l = []) ∧ (∀ o ∈ l, o.big) ∧ RepP W (.slice 12 nl (l.map Opd.cs) none) v := by
 obtain ⟨a, len, cap, rfl⟩ := okWide_slice Tryz.underlying44 hval
 obtain ⟨e, ⟨nl, l, rfl, h1, h2, h3⟩, hr⟩ := rd_arg (D' := fun e => ∃ nl l, e = .slice 12 nl (l.map Opd.cs) none ∧ (nl = true → l = []) ∧ l.length ≤ 9223372036854775807 ∧ ∀ o ∈ l, o.big) rdOs h (fun cs => by simp) (by rintro ds ⟨nl, l, rfl, h⟩; exact ⟨_, rfl, nl, l, rfl, h⟩)
 exact ⟨l, nl, h2, h1, h3, hr⟩
end
end Go.Proofs.YthepmnlpfhmddaaGreatDoor.Rw
