import Derived.Test.YthepmnlpfhmddaaGreatDoorG06
import Derived.Test.YthepmnlpfhmddaaGreatDoorG02
import Derived.Test.YthepmnlpfhmddaaGreatDoorG10
import Derived.ChangeBears
import Derived.ReadAgain
import Derived.Test.YthepmnlpfhmddaaGreatDoorG04
set_option linter.unusedVariables false
set_option linter.unusedSimpArgs false
set_option linter.unnecessarySimpa false
set_option maxRecDepth 100000
namespace Go.Proofs.YthepmnlpfhmddaaGreatDoor.Rw
open Go Go.Id Go.Proofs Go.ChangeShapes Go.WideShapes Go.ChangeAt Go.RowKit
section
variable {H : Type} {enc : TypeId × Value → H} {W : World}
abbrev RepP (W : World) (d : D) (v : Value) : Prop := Rep (fun _ _ => False) (fun _ => none) W d v
theorem kids : Kids Tryz.prog (· < Tryz.prog.types.size) := kids_rows (by kernel_rfl) (by kernel_rfl)
theorem full : ∀ t e, t < Tryz.prog.types.size → Tryz.prog.underlying t = some (.slice e) → 0 < Tryz.prog.cellsOf e := slices_full_of Tryz.prog (by kernel_rfl)
variable {r : Reach} {b0 : Nat} {v : Value} {d : DataW H} {ps : List MemPlace}
theorem arg_str (hval : Value.okWide Tryz.prog W r b0 9 v) (h : DataW.Trod enc Tryz.prog W 0 (fun _ => true) true 9 v d ps) : ∃ s, RepP W (.str s) v := by
 obtain ⟨s, rfl⟩ := okWide_string Tryz.underlying9 hval
 exact ⟨_, .str s⟩
theorem post_all {f : Func} {s : ChangeSpec} {apart again : Bool} {W W' : World} {args : Array Value} {ds gs : List (DataW H)} {before : List MemPlace}
  (hW : DataW.Whole enc Tryz.prog f.params.toList s.vars apart W args.toList ds gs before) (hv : s.vars = []) (hb : Below W.heap.size W W') (ht : ∀ t ∈ f.params.toList, t < Tryz.prog.types.size)
  (hr : f.resultTypes = #[4]) (hres : (s.fn H (ds ++ gs)).results = [.lit (.bool true)]) (hargs : (s.fn H (ds ++ gs)).args = ds) (hvars : (s.fn H (ds ++ gs)).vars = []) :
  s.post enc Tryz.prog f apart true false again W args (.bool true) W' := by
 refine post_true hW hv hb hr Tryz.underlying4 hres hargs hvars fun sp hs => ?_
 have hlt := hW.lt
 obtain ⟨p, q, hA, hV, rfl, hz, hn⟩ := hW
 rw [hv] at hV
 obtain ⟨rfl, rfl⟩ := trodVars_none hV
 rw [List.append_nil] at hlt hs ⊢
 exact trodAll_keep kids full hb ht hA hlt sp hs
end
theorem one {W : World} {d : D} {v : Value} (h : RepP W d v) : ∀ (i : Nat) e u, [d][i]? = some e → [v][i]? = some u → RepP W e u := by
 intro i e u h1 h2
 match i with
 | 0 => simp at h1 h2; subst h1; subst h2; exact h
 | i + 1 => simp at h1
end Go.Proofs.YthepmnlpfhmddaaGreatDoor.Rw
namespace Go.Proofs
open Go Go.Id
structure Opd where
 kind : Int
 p : Par
 ks : List Key
 nk : Bool
 text : List UInt8
 sig : List UInt8
 id : List UInt8
 at_ : Int
 now : Int
def Opd.cs (o : Opd) : List D := [.int .i64 o.kind, .str o.p.id, .str o.p.addr, .slice 6 o.p.nk (o.p.keys.map Key.cs) none, .int .i64 o.p.f, .int .i64 o.p.u, .slice 6 o.nk (o.ks.map Key.cs) none, .str o.text, .str o.sig, .str o.id, .int .i64 o.at_, .int .i64 o.now]
def Opd.big (o : Opd) : Prop := o.p.keys.length ≤ 9223372036854775807 ∧ (o.p.nk = true → o.p.keys = []) ∧ o.ks.length ≤ 9223372036854775807 ∧ (o.nk = true → o.ks = [])
def Opd.ok (o : Opd) : Prop := o.p.ok ∧ (∀ k ∈ o.ks, k.ok) ∧ o.ks.length ≤ 1099511627776 ∧ (o.nk = true → o.ks = []) ∧ o.text.length ≤ 1099511627776 ∧ o.sig.length ≤ 1099511627776 ∧ ∀ k ∈ o.ks, k.id.length ≤ 300
def doS (ms : TS) (c : Nat) (o : Opd) : TS × Nat :=
 if (o.kind == 1) = true then (anch ms c o.p o.now).2
 else if (o.kind == 2) = true then (upd ms c (textP o.p).1 (signP o.ks (textP o.p).1 o.at_).1 o.now).2
 else if (o.kind == 3) = true then (upd ms c o.text o.sig o.now).2
 else if (o.kind == 4) = true then (ms, c)
 else if (o.kind == 5) = true then (delT ms o.id, c)
 else (ms, c)
@[simp] theorem clo_opds {S : Nat → Prop} (l : List Opd) : (∀ a ∈ l, ∀ d ∈ a.cs, Clo S d) ↔ True := by
 simp only [iff_true]
 intro o _ d hd
 simp only [Opd.cs, List.mem_cons, List.not_mem_nil, or_false] at hd
 rcases hd with rfl | rfl | rfl | rfl | rfl | rfl | rfl | rfl | rfl | rfl | rfl | rfl <;> simp
set_option maxRecDepth 10000
set_option maxHeartbeats 4000000
structure TOk (ms : TS) (c : Nat) : Prop where
 ok : TS.ok ms
 keys : (ms.map (·.1)).Nodup
 born : (ms.map (·.2.2)).Nodup
 lt : ∀ e ∈ ms, e.2.2 < c
theorem TOk.nil : TOk [] 0 := ⟨nil_ok, by simp, by simp, by simp⟩
theorem findT_no : ∀ {ms : TS} {s : List UInt8}, findT ms s = none → s ∉ ms.map (·.1)
 | [], _, _ => by simp
 | (k, p, n) :: ms, s, h => by
  unfold findT at h
  split at h
  ·cases h
  ·rename_i e; simp only [List.map_cons, List.mem_cons, not_or]; exact ⟨e, findT_no h⟩
theorem setT_keys : ∀ (ms : TS) (s : List UInt8) (x : Par), (setT ms s x).map (·.1) = ms.map (·.1)
 | [], _, _ => rfl
 | (k, p, n) :: ms, s, x => by unfold setT; split <;> simp [setT_keys ms s x]
theorem setT_born : ∀ (ms : TS) (s : List UInt8) (x : Par), (setT ms s x).map (·.2.2) = ms.map (·.2.2)
 | [], _, _ => rfl
 | (k, p, n) :: ms, s, x => by unfold setT; split <;> simp [setT_born ms s x]
theorem setT_mem : ∀ {ms : TS} {s : List UInt8} {x : Par} {e}, e ∈ setT ms s x → e ∈ ms ∨ e.2.1 = x
 | [], _, _, _, h => by simp [setT] at h
 | (k, p, n) :: ms, s, x, e, h => by
  unfold setT at h
  split at h
  ·rcases List.mem_cons.1 h with rfl | h
   ·exact .inr rfl
   ·exact .inl (List.mem_cons_of_mem _ h)
  ·rcases List.mem_cons.1 h with rfl | h
   ·exact .inl (by simp)
   ·exact (setT_mem h).imp (List.mem_cons_of_mem _) id
theorem setT_len (ms : TS) (s : List UInt8) (x : Par) : (setT ms s x).length = ms.length := by
 have := congrArg List.length (setT_keys ms s x)
 simpa using this
theorem TOk.put {ms : TS} {c : Nat} (h : TOk ms c) (s : List UInt8) {x : Par} (hx : x.ok ∧ x.keys ≠ []) : TOk (putT ms c s x) (putTC ms c s) ∧ (putT ms c s x).length ≤ ms.length + 1 := by
 unfold putT putTC
 cases hf : findT ms s with
 | some d =>
  refine ⟨⟨fun e he => ?_, by rw [setT_keys]; exact h.keys, by rw [setT_born]; exact h.born, fun e he => ?_⟩, by rw [setT_len]; omega⟩
  ·rcases setT_mem he with he | he
   ·exact h.ok e he
   ·rw [he]; exact hx
  ·have : e.2.2 ∈ (setT ms s x).map (·.2.2) := List.mem_map_of_mem he
   rw [setT_born, List.mem_map] at this
   obtain ⟨y, hy, hye⟩ := this
   rw [← hye]; exact h.lt y hy
 | none =>
  have hn := findT_no hf
  refine ⟨⟨fun e he => ?_, ?_, ?_, fun e he => ?_⟩, by simp⟩
  ·rcases List.mem_append.1 he with he | he
   ·exact h.ok e he
   ·rw [List.mem_singleton.1 he]; exact hx
  ·rw [List.map_append, List.nodup_append]
   exact ⟨h.keys, by simp, fun a ha b hb => by simp at hb; subst hb; exact fun e => hn (e ▸ ha)⟩
  ·rw [List.map_append, List.nodup_append]
   refine ⟨h.born, by simp, fun a ha b hb => ?_⟩
   simp at hb; subst hb
   obtain ⟨y, hy, rfl⟩ := List.mem_map.1 ha
   exact Nat.ne_of_lt (h.lt y hy)
  ·rcases List.mem_append.1 he with he | he
   ·have := h.lt e he; show e.2.2 < c + 1; omega
   ·rw [List.mem_singleton.1 he]; exact Nat.lt_succ_self c
theorem delT_sub : ∀ (ms : TS) (s : List UInt8), (delT ms s).Sublist ms
 | [], _ => .slnil
 | (k, p, n) :: ms, s => by
  unfold delT
  split
  ·exact List.sublist_cons_self _ _
  ·exact (delT_sub ms s).cons_cons _
theorem TOk.del {ms : TS} {c : Nat} (h : TOk ms c) (s : List UInt8) : TOk (delT ms s) c ∧ (delT ms s).length ≤ ms.length + 1 := by
 have hs := delT_sub ms s
 exact ⟨⟨fun e he => h.ok e (hs.subset he), h.keys.sublist (hs.map _), h.born.sublist (hs.map _), fun e he => h.lt e (hs.subset he)⟩, Nat.le_succ_of_le hs.length_le⟩
theorem anch_zero {ms : TS} {p : Par} {t : Int} (h : anchE ms p t = 0) : checkP p = 0 ∧ ¬ p.u ≤ limB t ∧ findT ms p.id = none := by
 unfold anchE at h
 split at h
 ·rename_i h1; simp at h1; exact absurd h h1
 ·rename_i h1
  split at h
  ·cases h
  ·rename_i h2
   split at h
   ·cases h
   ·rename_i h3
    exact ⟨by simpa using h1, by simpa using h2, by simpa using h3⟩
theorem TOk.anch {ms : TS} {c : Nat} (h : TOk ms c) {p : Par} (hp : p.ok) (t : Int) : TOk (anch ms c p t).2.1 (anch ms c p t).2.2 ∧ (anch ms c p t).2.1.length ≤ ms.length + 1 := by
 unfold Go.Proofs.anch
 split
 ·rename_i h0
  obtain ⟨h1, _, _⟩ := anch_zero h0
  exact h.put _ ⟨hp, check_keys (by rw [h1]; rfl)⟩
 ·exact ⟨h, Nat.le_succ _⟩
theorem upd_pars {ms : TS} {text sig : List UInt8} {t : Int} (h : updE ms text sig t = 0) : (pP text).2.2 = 0 ∧ (sgnR sig).2 = true ∧ ∃ a, findT ms (pP text).1.id = some a ∧ (accD a.keys (sgnR sig).1 t 0).2 = 0 ∧ sig = sigB (accD a.keys (sgnR sig).1 t 0).1 text ∧ ¬ (pP text).1.f ≤ a.f := by
 unfold updE at h
 split at h
 ·cases h
 ·rename_i h1
  split at h
  ·cases h
  ·rename_i h2
   split at h
   ·cases h
   ·rename_i a h3
    split at h
    ·rename_i h4; simp at h4; exact absurd h h4
    ·rename_i h4
     split at h
     ·cases h
     ·rename_i h5
      split at h
      ·cases h
      ·rename_i h6
       exact ⟨by simpa using h1, by simpa using h2, a, h3, by simpa using h4, by simpa using h5, by simpa using h6⟩
theorem parse_ok2 {s : List UInt8} (h : (pP s).2.2 = 0) : checkP (pP s).1 = 0 := (parse_textP (s := s) (by rw [h]; rfl)).2
theorem TOk.upd {ms : TS} {c : Nat} (h : TOk ms c) (text sig : List UInt8) (t : Int) : TOk (upd ms c text sig t).2.1 (upd ms c text sig t).2.2 ∧ (upd ms c text sig t).2.1.length ≤ ms.length + 1 := by
 unfold Go.Proofs.upd
 split
 ·rename_i h0
  obtain ⟨h1, _⟩ := upd_pars h0
  exact h.put _ ⟨pP_ok text, check_keys (by rw [parse_ok2 h1]; rfl)⟩
 ·exact ⟨h, Nat.le_succ _⟩
theorem TOk.step {ms : TS} {c : Nat} (h : TOk ms c) {o : Opd} (ho : o.ok) : TOk (doS ms c o).1 (doS ms c o).2 ∧ (doS ms c o).1.length ≤ ms.length + 1 := by
 unfold doS
 split
 ·exact h.anch ho.1 _
 ·split
  ·exact h.upd _ _ _
  ·split
   ·exact h.upd _ _ _
   ·split
    ·exact ⟨h, Nat.le_succ _⟩
    ·split
     ·exact h.del _
     ·exact ⟨h, Nat.le_succ _⟩
end Go.Proofs
namespace Go.Proofs
open Go Go.Id
end Go.Proofs
set_option maxRecDepth 100000
namespace Go.Proofs.YthepmnlpfhmddaaGreatDoor.Rw
open Go Go.Id Go.Proofs Go.ChangeShapes Go.WideShapes Go.ChangeAt Go.RowKit
section
variable {H : Type} {enc : TypeId × Value → H} {W : World}
variable {r : Reach} {b0 : Nat} {v : Value} {d : DataW H} {ps : List MemPlace}
end
end Go.Proofs.YthepmnlpfhmddaaGreatDoor.Rw
