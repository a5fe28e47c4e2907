import Derived.Test.YthepmnlpfhmddaaGreatDoorG03
import Derived.Test.YthepmnlpfhmddaaGreatDoorCards
import Derived.Test.YthepmnlpfhmddaaGreatDoorTie
import Derived.WalkKit
import Derived.ProofKit
import Derived.OpenShut
import Derived.Deep.DeepHandedRow
import Derived.Deep.DeepWitnessRowRef
import Derived.Lib.LaidTab
import Derived.Lib.LaidU8
import Derived.Lib.LaidIn
import Derived.LaidMore
import Derived.Stop.LaidErr
import Derived.Shelf.Vars
set_option linter.unusedVariables false
set_option linter.unusedSimpArgs false
set_option linter.unnecessarySimpa false
set_option maxRecDepth 100000
namespace Go.Proofs.YthepmnlpfhmddaaGreatDoor.Rw
open Go Go.Id Go.Proofs Go.ChangeShapes Go.WideShapes Go.ChangeAt Go.RowKit
theorem own : ownKnob Tryz.prog.godebug = none := by kernel_rfl
abbrev laidL : List (String × DataW Unit) := Rows.metadataChecksRow.laid
theorem gSyn : Tryz.prog.globalNamed "strconv.ErrSyntax" = some 3 := by kernel_rfl
theorem gRng : Tryz.prog.globalNamed "strconv.ErrRange" = some 4 := by kernel_rfl
theorem gSynT : (Tryz.prog.globals[3]?).map (·.type) = some 140 := by kernel_rfl
theorem gRngT : (Tryz.prog.globals[4]?).map (·.type) = some 140 := by kernel_rfl
theorem gPowT : (Tryz.prog.globals[2]?).map (·.type) = some 195 := by kernel_rfl
theorem gDigT : (Tryz.prog.globals[0]?).map (·.type) = some 152 := by kernel_rfl
noncomputable def laidWorld (os : Os) : World :=
 { World.doorLaid Tryz.prog 72 os with heap := (World.doorLaid Tryz.prog 72 os).heap.modify 7 fun
   | .cells _ t frozen => .cells (Lib.firstTab.map fun z => Value.int .u8 z).toArray t frozen
   | o => o }
noncomputable abbrev memW (os : Os) (args : Array Value) : World := ((laidWorld os).forCall (fun _ _ => 0) ⟨#[], args, []⟩).memory
theorem run1 (os : Os) (args : Array Value) : (DataW.laidRun Tryz.prog (memW os args) 8 (laidL.map (·.1))).map (·.1) = some laidL := by kernel_rfl
theorem run2 (os : Os) (args : Array Value) : (DataW.laidRun Tryz.prog (memW os args) 8 (laidL.map (·.1))).map (fun x => decide x.2.Nodup && laidRowsB Tryz.prog (memW os args) x.2) = some true := by kernel_rfl
theorem laid_met (os : Os) (args : Array Value) : laidMet Tryz.prog laidL (memW os args) := laidMet_of_run' 8 (run1 os args) (run2 os args)
theorem row148 (u : TypeId) (h : Tryz.prog.typeName? 3 u = some "*errors.errorString") : u = 227 :=
 typeName_ptr_named (nm := "errors.errorString") (by kernel_rfl) (by kernel_rfl) (by decide) u h
theorem polI_of {W : World} (hL : laidMetH Tryz.prog laidL W) (hS : W.ShapedOpen Tryz.prog) : PolI W := by
 have hM : laidMet Tryz.prog laidL W := hL
 have hP := hM.tail.tail
 have hR := hM.tail.tail.tail.tail
 have hY := hM.tail.tail.tail.tail.tail
 have hD := hM.tail.tail.tail.tail.tail.tail
 refine ⟨cell_of_shapedOpen_int (t := 3) (zero := #[.int .i64 0]) hS (of_decide_eq_true (by kernel_rfl)) (by kernel_rfl) rfl (by kernel_rfl) (by kernel_rfl) (by kernel_rfl),
  Lib.tabIs_of_head glob_pow10 gPowT (n := 20) (e := 124) (by kernel_rfl) (by kernel_rfl) (by kernel_rfl) (by kernel_rfl) hP, ?_, ?_,
  Lib.tabIs_of_head glob_digits gDigT (n := 16) (e := 5) (by kernel_rfl) (by kernel_rfl) (by kernel_rfl) (by kernel_rfl) hD⟩
 ·obtain ⟨a, s, hv, _⟩ := laid_sentinel hY gSyn gSynT Tryz.underlying140 row148 Tryz.underlying227 Tryz.underlying229 rfl rfl Tryz.underlying9 (by kernel_rfl) (by kernel_rfl)
  exact ⟨227, _, by simpa using World.var?_cell gSyn hv 0⟩
 ·obtain ⟨a, s, hv, _⟩ := laid_sentinel hR gRng gRngT Tryz.underlying140 row148 Tryz.underlying227 Tryz.underlying229 rfl rfl Tryz.underlying9 (by kernel_rfl) (by kernel_rfl)
  exact ⟨227, _, by simpa using World.var?_cell gRng hv 0⟩
theorem row7 : ((((begin Tryz.prog (fun _ _ => 0) default).world.heap[7]?).bind Obj.row?).isSome) = true := by kernel_rfl
theorem heap_of {W : World} (hS : W.ShapedOpen Tryz.prog) : 8 ≤ W.heap.size := by
 obtain ⟨x, hx⟩ := Option.isSome_iff_exists.1 row7
 obtain ⟨cs, h, _⟩ := hS.1 7 x.1 x.2 (of_decide_eq_true (by kernel_rfl)) hx
 have := (Array.getElem?_eq_some_iff.1 h).1
 omega
end Go.Proofs.YthepmnlpfhmddaaGreatDoor.Rw
namespace Go.Proofs.YthepmnlpfhmddaaGreatDoor.Rw
open Go Go.Id Go.Proofs Go.ChangeShapes Go.WideShapes Go.ChangeAt Go.RowKit
section
variable {H : Type} {enc : TypeId × Value → H} {P : Program}
theorem post_true {f : Func} {s : ChangeSpec} {apart again : Bool} {W W' : World} {args : Array Value} {ds gs : List (DataW H)} {before : List MemPlace}
  (hW : DataW.Whole enc P f.params.toList s.vars apart W args.toList ds gs before) (hv : s.vars = []) (hb : Below W.heap.size W W')
  (hr : f.resultTypes = #[4]) (h4 : P.underlying 4 = some .bool) (hres : (s.fn H (ds ++ gs)).results = [.lit (.bool true)]) (hargs : (s.fn H (ds ++ gs)).args = ds) (hvars : (s.fn H (ds ++ gs)).vars = [])
  (hT : ∀ sp : Nat → Bool, (∀ x ∈ before, sp x.block = true) → DataW.TrodAll enc P W' 0 sp true f.params.toList args.toList ds before) :
  s.post enc P f apart true false again W args (.bool true) W' := by
 have hW' := hW
 obtain ⟨p, q, hA, hV, rfl, hz, hn⟩ := hW
 rw [hv] at hV
 have hlt := hW'.lt
 cases gs with
 | cons g gs => exact hV.elim
 | nil =>
  have hq : q = [] := hV
  subst hq
  rw [List.append_nil] at hz hn hlt hW'
  rw [List.append_nil] at hT
  have hR : ∀ (b : Nat) (sp : Nat → Bool) (hd : Bool), DataW.TrodAll enc P W' b sp hd f.resultTypes.toList ((Value.bool true).resultList f.resultTypes.size) (s.fn H (ds ++ [])).results [] := by
   intro b sp hd
   rw [hres, hr]
   exact trodAll_cons_mk (shut_bool h4 _) trodAll_mk0
  refine ⟨ds, [], p, [], p, [], hW', hR _ _ _, by rw [hargs]; exact hT _ (fun x hx => by simpa using hlt x hx), by rw [hvars, hv]; rfl, hb.frame _, fun _ => ?_⟩
  refine ⟨ok_one hr rfl (okWide_bool_mk h4 _), _, _, ([] ++ p) ++ [], ⟨[] ++ p, [], trodAll_append (hT _ (fun _ _ => rfl)) (hR _ _ _), by rw [hv]; exact (show DataW.TrodVars enc P W' (fun _ => true) [] ([] : List (DataW H)) [] from rfl), rfl, ?_, ?_⟩, ?_⟩
  ·intro b off hp
   simp only [List.nil_append, List.append_nil] at hp
   rw [hb.frozen (hlt _ hp)]
   exact hz b off hp
  ·intro ha
   simpa using hn ha
  ·intro x hx _
   simpa using hx
end
end Go.Proofs.YthepmnlpfhmddaaGreatDoor.Rw
