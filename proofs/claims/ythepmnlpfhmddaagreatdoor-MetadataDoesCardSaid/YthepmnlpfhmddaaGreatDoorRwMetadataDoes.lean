import Derived.Test.YthepmnlpfhmddaaGreatDoorG10
import Derived.Test.YthepmnlpfhmddaaGreatDoorG09
import Derived.Test.YthepmnlpfhmddaaGreatDoorG03
import Derived.ChangeMaps5
set_option linter.unusedVariables false
set_option linter.unusedSimpArgs false
set_option maxRecDepth 10000
namespace Go.Proofs
open Go Go.Id
set_option maxHeartbeats 8000000
set_option maxRecDepth 100000
abbrev s_l_does : List Nat := [0, 2, 3, 4, 5, 14, 18, 19, 20, 61]
theorem c_l_does (l : List Opd) (nl : Bool) (hn : l.length ≤ 9223372036854775807) (hnl : nl = true → l = []) (hb : ∀ o ∈ l, o.big) : CallP Pr 7 [.slice 12 nl (l.map Opd.cs) none] (.bool true) := by
 refine CallP.W Tryz.func7 Tryz.ntmps7 ?_
 simp only [frameOf]
 refine WP.S s_l_does fun _ z => ?_; simp +decide only [TF, ↓reduceIte]; apply z; clear z
 refine WP.S s_l_does fun _ z => ?_
 simp +decide only [TF, ↓reduceIte]
 refine CallK.I (c_new) rfl rfl ?_
 simp +decide only [TF, ↓reduceIte]
 apply z; clear z
 apply WP.seq
 refine WP.S s_l_does fun _ z => ?_
 simp +decide only [TF, ↓reduceIte]
 refine CallK.P (c_long l nl hn hnl hb 14 (by decide)) rfl rfl ?_
 refine runOps.take 1 fun J hJ => ?_
 simp +decide only [TF, ↓reduceIte]
 refine hJ _ _ ?_; clear hJ J
 refine runOps.part 11 rfl (fun q1 => ?_) (fun q1 => ?_)
 ·simp +decide only [TF, q1, ↓reduceIte]
  apply z; clear z
  refine WP.cT ?_
  refine WP.S s_l_does fun _ z => ?_
  simp +decide only [TF, ↓reduceIte]
  refine CallK.P (c_live) rfl rfl ?_
  simp +decide only [TF, ↓reduceIte]
  apply z; clear z
  apply WP.ret
  exact Ends.P rfl (Le.of_eq (by simp +decide only [St.get, W, ↓reduceIte]))
 have hlg : longB l 14 = false := by simpa using q1
 obtain ⟨hl10, hlo⟩ := longB_no hb hlg
 have hl1k : l.length ≤ 1000 := by omega
 simp +decide only [TF, q1, ↓reduceIte]
 apply z; clear z
 iterate 2 first | (apply WP.skip; show WP ..) | refine WP.cF ?_
 refine WP.S s_l_does fun _ z => ?_
 simp +decide only [TF, ↓reduceIte]
 refine CallK.I (c_r_new3) rfl rfl ?_
 simp +decide only [TF, ↓reduceIte]
 apply z; clear z
 apply WP.seq
 refine WP.S [0, 3, 4, 18, 19] fun _ z => ?_; simp +decide only [TF, ↓reduceIte]; apply z; clear z
 apply WP.block
 refine WP.lp [0, 3, 4, 18] (X := {x : (Nat) × (TS × Nat) × (Bool) // match x with | (k, w, nq) => k ≤ l.length ∧ TOk w.1 w.2 ∧ TKey w.1 ∧ w.1.length ≤ k ∧ (nq = true → w.1 = [])}) (fun x => match x with | ⟨(k, w, nq), _⟩ => [(19, .int .i64 k)]) (fun x => match x with | ⟨(k, w, nq), _⟩ => [(0, .map (tsE w.1) w.2), (1, .box 91 [.map 0]), (2, .tip 26 5 w.1.length), (3, .box 95 [.slice 5 nq (tsR w.1) (some 2)])]) (fun x => match x with | ⟨(k, w, nq), _⟩ => l.length - k) (by simp +decide only [W, ↓reduceIte]; rfl) ?_ ⟨(0, ([], 0), true), ⟨Nat.zero_le _, TOk.nil, TKey.nil, Nat.le_refl _, fun _ => rfl⟩⟩ ?_
 rotate_left
 ·refine Weak.trans (Weak.store (st' := ⟨[(0, .slice 12 nl (l.map Opd.cs) none), (3, .ref 1 0), (4, .ref 3 0), (18, .int .i64 (l.length : Int)), (19, .int .i64 0)], [(0, .map (tsE []) 0), (1, .box 91 [.map 0]), (3, .box 95 [.slice 0 true [] none])]⟩) (by simp [St.get, lk, W, Le.refl]) (by simp [lk]) (by simp [lk]) (by simp [BClo, lk]) (by simp [lk])) ?_; refine Weak.trans (Weak.ghost 2 26 5 (F' := [(0, .slice 12 nl (l.map Opd.cs) none), (3, .ref 1 0), (4, .ref 3 0), (18, .int .i64 (l.length : Int)), (19, .int .i64 0)]) (σ' := [(0, .map (tsE []) 0), (1, .box 91 [.map 0]), (3, .box 95 [.slice 5 true [] (some 2)])]) (by simp [lk]) (by simp [UpF, UpD]) (by simp [UpS, UpB, UpL, UpD])) ?_; exact Weak.store (by simp [St.get, lk, Le.refl]) (by simp [lk, tsR]) (by simp [lk]) (by simp [BClo, lk]) (by simp [lk])
 rintro ⟨⟨k, w, nq⟩, ⟨hk, hq, hky, hlq, hnq⟩⟩
 dsimp only
 simp only [List.cons_append, List.nil_append]
 iterate 2 first | (refine WP.S s_l_does fun _ z => ?_; simp +decide only [TF, ↓reduceIte]; apply z; clear z) | apply WP.seq
 refine WP.cond rfl (fun q2 => ?_) (fun q2 => ?_)
 ·have hlt := lt_of_q q2
  have hg : (l.map Opd.cs)[k]? = some [.int .i64 l[k].kind, .str l[k].p.id, .str l[k].p.addr, .slice 6 l[k].p.nk (l[k].p.keys.map Key.cs) none, .int .i64 l[k].p.f, .int .i64 l[k].p.u, .slice 6 l[k].nk (l[k].ks.map Key.cs) none, .str l[k].text, .str l[k].sig, .str l[k].id, .int .i64 l[k].at_, .int .i64 l[k].now] := getM hlt
  have hnf := nl_false hnl hlt
  have hok := hlo _ (List.getElem_mem hlt)
  obtain ⟨hs1, hs2⟩ := hq.step hok
  have hk2 := hky.step (c := w.2) l[k]
  iterate 3 first | (apply WP.skip; show WP ..) | apply WP.block | apply WP.seq
  refine WP.S [0, 3, 4, 5, 18, 19] fun _ z => ?_; simp +decide only [TF, q2, hnf, ↓reduceIte]; apply z; clear z
  refine WP.meet ⟨[(0, .slice 12 false (l.map Opd.cs) none), (3, .ref 1 0), (4, .ref 3 0), (6, .ref 4 0), (7, .ref 5 0), (18, .int .i64 (l.length : Int)), (19, .int .i64 k)], [(0, .map (tsE (doS w.1 w.2 l[k]).1) (doS w.1 w.2 l[k]).2), (1, .box 91 [.map 0]), (2, .tip 26 5 (doS w.1 w.2 l[k]).1.length), (3, .box 95 [.slice 5 (mnl w.1 w.2 nq l[k]) (tsR (doS w.1 w.2 l[k]).1) (some 2)]), (4, .box 52 (doR w.1 w.2 l[k]).cs), (5, .box 52 (doR w.1 w.2 l[k]).cs)]⟩ ?_ ?_
  ·rcases op_cases w.1 l[k] with ⟨a, h5, hF⟩ | ⟨hk1, hk23, hm0⟩ | ⟨h23, h5⟩
   ·have hk1 : (l[k].kind == 1) = false := by rw [beq_iff_eq.1 h5]; rfl
    have hm := mnl_n (ms := w.1) (c := w.2) (nl := false) hk1
    have hm0 : w.1 ≠ [] := by rintro h; rw [h] at hF; cases hF
    have hnq0 : nq = false := by cases hh : nq with | false => rfl | true => exact absurd (hnq hh) hm0
    refine WP.E fun _ z => ?_
    simp +decide only [TF, hg, hnq0, ↓reduceIte]
    refine CallK.imp (c_do w.1 w.2 hq.ok hq.es (by omega) l[k] hok) rfl rfl (by simp [lk, BClo]) (by simp [lk]) (by simp [lk]) ?_
    simp +decide only [TF, hg, Rs.cs, ↓reduceIte]
    refine CallK.imp (c_modelY2 w.1 nq hnq (by omega) hky w.2 l[k] h5 a hF) rfl rfl (by simp [lk, BClo, hnq0]) (by simp [lk]) (by simp [lk, hnq0]) ?_
    simp +decide only [TF, hnq0, Rs.cs, ↓reduceIte]
    refine z _ _ (by kernel_rfl) ?_; clear z
    show Weak _ _ _
    refine Weak.trans (Weak.store (st' := ⟨[(0, .slice 12 false (l.map Opd.cs) none), (3, .ref 1 0), (4, .ref 3 0), (6, .ref 5 0), (7, .ref 6 0), (18, .int .i64 (l.length : Int)), (19, .int .i64 k)], [(0, .map (tsE (doS w.1 w.2 l[k]).1) (doS w.1 w.2 l[k]).2), (1, .box 91 [.map 0]), (4, .tip 26 5 (doS w.1 w.2 l[k]).1.length), (3, .box 95 [.slice 5 false (tsR (doS w.1 w.2 l[k]).1) (some 4)]), (5, .box 52 (doR w.1 w.2 l[k]).cs), (6, .box 52 (doR w.1 w.2 l[k]).cs)]⟩) (by simp [St.get, lk, Le.refl]) (by simp [lk, Rs.cs]) (by simp [lk]) (by simp [BClo, lk]) (by simp [lk])) ?_
    exact weak_ren (g := .junk) rfl rfl (by simp [sgT, hm, hnq0]) (by simp [q1])
   ·have hm := mnl_n (ms := w.1) (c := w.2) (nl := false) hk1
    have hnq0 : nq = false := by cases hh : nq with | false => rfl | true => exact absurd (hnq hh) hm0
    refine WP.weak (st' := ⟨[(0, .slice 12 false (l.map Opd.cs) none), (3, .ref 1 0), (4, .ref 3 0), (5, .int .i64 k), (18, .int .i64 (l.length : Int)), (19, .int .i64 k)], sgA w.1 w.2⟩) (weak_toA rfl rfl rfl (by simp [lk, hnq0]) (by intro i hi; simp only [lk]; rw [if_neg (by omega), if_neg (by omega), if_neg (by omega), if_neg (by omega)]) ?_ rfl) ?_
    ·intro p hp
     simp only [List.mem_cons, List.not_mem_nil, or_false] at hp
     rcases hp with rfl | rfl | rfl | rfl | rfl | rfl
     ·exact ⟨by simp [St.get, lk, W], sh_opds _ _ _⟩
     ·exact ⟨by simp [St.get, lk, W], .ref (by decide)⟩
     ·exact ⟨by simp [St.get, lk, W], .ref (by decide)⟩
     ·exact ⟨by simp [St.get, W], .int _ _⟩
     ·exact ⟨by simp [St.get, lk, W], .int _ _⟩
     exact ⟨by simp [St.get, lk, W], .int _ _⟩
    unfold sgA
    refine WP.E fun _ z => ?_
    simp +decide only [TF, hg, ↓reduceIte]
    refine CallK.imp (c_do w.1 w.2 hq.ok hq.es (by omega) l[k] hok) rfl rfl (by simp [lk, BClo]) (by simp [lk]) (by simp [lk]) ?_
    simp +decide only [TF, hg, Rs.cs, ↓reduceIte]
    refine CallK.imp (c_modelA2 w.1 (by omega) hky hq.ok w.2 l[k] hok hk1 hk23) rfl rfl (by simp [lk, BClo]) (by simp [lk]) (by simp [lk]) ?_
    simp +decide only [TF, Rs.cs, ↓reduceIte]
    refine z _ _ (by kernel_rfl) ?_; clear z
    show Weak _ _ _
    refine Weak.trans (Weak.store (st' := ⟨[(0, .slice 12 false (l.map Opd.cs) none), (3, .ref 1 0), (4, .ref 3 0), (6, .ref 4 0), (7, .ref 5 0), (18, .int .i64 (l.length : Int)), (19, .int .i64 k)], [(0, .map (tsE (doS w.1 w.2 l[k]).1) (doS w.1 w.2 l[k]).2), (1, .box 91 [.map 0]), (2, .arr 26 (tsR (doS w.1 w.2 l[k]).1).flatten), (3, .box 95 [.arr 2 5 (doS w.1 w.2 l[k]).1.length]), (4, .box 52 (doR w.1 w.2 l[k]).cs), (5, .box 52 (doR w.1 w.2 l[k]).cs)]⟩) (by simp [St.get, lk, Le.refl]) (by simp [lk, Rs.cs]) (by simp [lk]) (by simp [BClo, lk]) (by simp [lk])) ?_
    exact weak_toT rfl rfl rfl rfl rfl rfl (by intro i hi; simp only [lk]; rw [if_neg (by omega), if_neg (by omega), if_neg (by omega), if_neg (by omega), if_neg (by omega), if_neg (by omega)]) (by simp [St.get, lk]) (by simp [sgT, hm, hnq0])
   refine WP.E fun _ z => ?_
   simp +decide only [TF, hg, ↓reduceIte]
   refine CallK.imp (c_do w.1 w.2 hq.ok hq.es (by omega) l[k] hok) rfl rfl (by simp [lk, BClo]) (by simp [lk]) (by simp [lk]) ?_
   simp +decide only [TF, hg, Rs.cs, ↓reduceIte]
   refine CallK.imp (c_modelT2 w.1 nq hnq (by omega) hky w.2 hq.ok hq.keys l[k] hok h23 h5) rfl rfl (by simp [lk, BClo]) (by simp [lk]) (by simp [lk]) ?_
   simp +decide only [TF, Rs.cs, ↓reduceIte]
   refine z _ _ (by kernel_rfl) ?_; clear z
   show Weak _ _ _
   exact Weak.store (by simp [St.get, lk, Le.refl]) (by simp [lk, Rs.cs]) (by simp [lk]) (by simp [BClo, lk]) (by simp [lk])
  have hsm := sameP_refl (doR w.1 w.2 l[k]).p
  refine WP.S s_l_does fun _ z => ?_
  simp +decide only [TF, Rs.cs, ↓reduceIte]
  refine CallK.P (c_r_same43 (doR w.1 w.2 l[k]).p (doR w.1 w.2 l[k]).p (doR_ok hq.ok _ _) (doR_ok hq.ok _ _)) rfl rfl ?_
  simp +decide only [TF, hsm, ↓reduceIte]
  refine CallK.P (c_same2 (doR w.1 w.2 l[k]).l (doR w.1 w.2 l[k]).l (doR w.1 w.2 l[k]).nl (doR w.1 w.2 l[k]).nl (by have := (doR_l w.1 w.2 l[k]).1; omega) (doR_l w.1 w.2 l[k]).2 (doR_l w.1 w.2 l[k]).2) rfl rfl ?_
  simp +decide only [TF, ↓reduceIte]
  apply z; clear z
  iterate 3 first | (refine WP.R fun _ z => ?_; simp +decide only [TF, ↓reduceIte]; apply z; clear z) | (apply WP.skip; show WP ..) | refine WP.cF ?_
  show ∃ y, _ ∧ Weak _ _ _
  refine ⟨⟨(k + 1, (doS w.1 w.2 l[k]), mnl w.1 w.2 nq l[k]), ?_⟩, ?_, ?_⟩
  ·exact ⟨by omega, hs1, hk2, by show (doS w.1 w.2 l[k]).1.length ≤ k + 1; omega, mnl_ok hnq⟩
  ·dsimp only; omega
  exact Weak.store (by simp [St.get, lk, Le.refl, hnf, wrapS hlt (show l.length ≤ 140737488355328 by omega)]) (by simp [lk]) (by simp [lk]) (by simp [BClo, lk]) (by simp [lk])
 have hge := ge_of_q q2
 apply WP.exit; show WP ..
 refine WP.S s_l_does fun _ z => ?_
 simp +decide only [TF, q2, ↓reduceIte]
 refine CallK.imp (c_list w.1 w.2 hq.es (by omega)) rfl rfl (by simp [lk, BClo]) (by simp [lk]) (by simp [lk]) ?_
 simp +decide only [TF, ↓reduceIte]
 refine CallK.imp (c_r_list2 w.1 nq hnq (by omega) hky hq.keys) rfl rfl (by simp [lk, BClo]) (by simp [lk]) (by simp [lk]) ?_
 simp +decide only [TF, ↓reduceIte]
 refine CallK.P (c_same2 (listT w.1) (listT w.1) w.1.isEmpty w.1.isEmpty (by rw [listT_len]; omega) (listT_nil w.1) (listT_nil w.1)) rfl rfl ?_
 refine runOps.take 1 fun J hJ => ?_
 simp +decide only [TF, ↓reduceIte]
 refine hJ _ _ ?_; clear hJ J
 refine runOps.part 68 rfl (fun q3 => ?_) (fun q3 => ?_)
 ·simp +decide only [TF, ↓reduceIte]
  refine CallK.P (c_live) rfl rfl ?_
  simp +decide only [TF, ↓reduceIte]
  apply z; clear z
  apply WP.ret
  exact Ends.P rfl (Le.of_eq (by simp +decide only [St.get, W, ↓reduceIte]))
 simp +decide only [TF, q3, ↓reduceIte]
 apply z; clear z
 apply WP.ret
 exact Ends.P rfl (Le.of_eq (by simp_all [St.get]))
end Go.Proofs
set_option maxRecDepth 100000
namespace Go.Proofs.YthepmnlpfhmddaaGreatDoor.RwDoes
open Go Go.Id Go.Proofs Go.ChangeShapes Go.ChangeMaps Go.WideShapes Go.ChangeAt Go.RowKit Go.Proofs.YthepmnlpfhmddaaGreatDoor.Rw
theorem contract (H : Type) (enc : TypeId × Value → H) (W : World) (base : Nat) (args : Array Value) (ds gs : List (DataW H)) (before : List MemPlace)
    (hval : ∀ (j : Nat) t v, Tryz.f7.params[j]? = some t → args[j]? = some v → Value.okWide Tryz.prog W .any base t v)
    (hW : DataW.Whole enc Tryz.prog Tryz.f7.params.toList Rows.metadataDoesSpec.vars false W args.toList ds gs before) (hL : laidMetH Tryz.prog laidL W) (hS : W.ShapedOpen Tryz.prog) :
    Calls Tryz.prog 7 args W fun e W' => ∃ v, e = .returned v ∧ Rows.metadataDoesSpec.post enc Tryz.prog Tryz.f7 false true false false W args v W' := by
  have hW' := hW
  obtain ⟨p, q, hA0, hV, rfl, hfz, hnd⟩ := hW
  have hA : DataW.TrodAll enc Tryz.prog W 0 (fun _ => true) true Tryz.f7.params.toList args.toList ds p := hA0
  rw [Tryz.params7] at hA hval
  obtain ⟨al⟩ := args
  dsimp only at hA
  obtain ⟨v0, _, d0, _, p_0, _, rfl, rfl, rfl, h0, hA⟩ := trodAll_cons hA
  obtain ⟨rfl, rfl, rfl⟩ := trodAll_nil hA
  obtain ⟨rfl, rfl⟩ := trodVars_none hV
  obtain ⟨l0, nl0, hn0, hnl0, hb0, r0⟩ := arg_ops (hval 0 44 v0 rfl rfl) h0
  refine (CallP.run (c_l_does l0 nl0 hn0 hnl0 hb0) W (polI_of hL hS) (heap_of hS) [v0] rfl (Rw.one r0)).mono ?_
  rintro e W' ⟨v, rfl, hr, hb⟩
  cases hr
  exact ⟨_, rfl, post_all hW' rfl hb (of_decide_eq_true (by kernel_rfl)) (by kernel_rfl) rfl rfl rfl⟩
abbrev wit : Array Value := #[.slice none 0 0]
theorem reads (os : Os) {H : Type} (enc : TypeId × Value → H) : (DataW.whole enc Tryz.prog (memW os wit) Tryz.f7.params.toList Rows.metadataDoesSpec.vars false wit.toList 8).map (fun x => (x.1, x.2.1)) = some ([.nil], []) := by kernel_rfl
theorem lifted (os : Os) (started : os.Started) (H : Type) (enc : TypeId × Value → H) (F : Stop.Interp) :
    ReturnsInHanded {} Tryz.checked os 7 .any ((OpenSpec.ofChange Rows.metadataDoesSpec).preRow enc Tryz.prog Tryz.f7 Rows.metadataDoesRow.domain false Rows.metadataDoesRow.laid) (((OpenSpec.ofChange Rows.metadataDoesSpec).at F).post enc Tryz.prog Tryz.f7 false true false false) := by
  obtain ⟨⟨x1, x2, x3⟩, hx, hx1⟩ := Option.map_eq_some_iff.1 (reads os enc)
  simp only [Prod.mk.injEq] at hx1
  obtain ⟨rfl, rfl⟩ := hx1
  refine returnsInHanded_of_row (C := Tryz.checked) (s := OpenSpec.ofChange Rows.metadataDoesSpec) own started (by kernel_rfl) Tryz.func7
    (witness_row_atRef (enc := enc) (C := Tryz.checked) false (laidWorld os) wit rfl (by kernel_rfl) (by kernel_rfl) (by kernel_rfl)
      (OpenSpec.preRow_of_cond 8 hx (by kernel_rfl) (fun k hk => by cases hk) (by kernel_rfl) (laid_met os _))) ?_
  intro W base args ds gs before hval hW _ _ _ hL hS _
  exact contract H enc W base args ds gs before hval hW hL hS
theorem said : Rows.MetadataDoesSaid :=
  OpenClaim.holds_of_cond 7 Tryz.f7 rfl rfl rfl rfl rfl rfl rfl ⟨rfl, rfl, rfl, rfl, rfl⟩ rfl rfl rfl rfl rfl (by kernel_rfl) Tryz.func7 (by kernel_rfl)
    (of_decide_eq_true (by kernel_rfl)) (by unfold Func.isWrapper; first | (rw [if_pos (by decide +kernel)]; kernel_rfl) | (rw [if_neg (by decide +kernel)]; exact ⟨rfl, rfl⟩))
    (fun os started H enc _ F => by rw [OpenClaim.pre_eq_preRow]; exact lifted os started H enc F)
theorem plain (f : FuncId) (fn : Func) (hf : Tryz.pinned.checked.prog.funcNamed Rows.metadataDoesRow.func = some f) (hfn : Tryz.pinned.checked.prog.funcs[f]? = some fn) :
    true = Tryz.pinned.checked.prog.looks [] ∧ ∀ (j : Nat) t, fn.params[j]? = some t → Tryz.pinned.checked.prog.wantsStandIn t = false := by
  obtain rfl : f = 7 := Option.some.inj ((show Tryz.prog.funcNamed Rows.metadataDoesRow.func = some 7 by kernel_rfl).symm.trans hf) |>.symm
  obtain rfl : fn = Tryz.f7 := (Option.some.inj (Tryz.func7.symm.trans hfn)).symm
  refine ⟨by kernel_rfl, fun j t ht => ?_⟩
  have hall : (Tryz.f7.params.toList.all fun t => Tryz.prog.wantsStandIn t == false) = true := by kernel_rfl
  exact eq_of_beq (List.all_eq_true.1 hall t (by simpa using Array.mem_of_getElem? ht))
theorem card : Rows.MetadataDoesCardSaid :=
  Claim7.holds_tied_plain_at .later [] _ _ _ _ said (fun _ h => by cases h) (by kernel_rfl) (fun _ h => by cases h) metadataDoes_row_tie rfl ⟨rfl, rfl⟩ (by kernel_rfl) rfl plain (by kernel_rfl)
end Go.Proofs.YthepmnlpfhmddaaGreatDoor.RwDoes
#print axioms Go.Proofs.YthepmnlpfhmddaaGreatDoor.RwDoes.card
