import Derived.Test.YtekopfoidhhedaaGreatDoorG12
import Derived.Test.YtekopfoidhhedaaGreatDoorG14
import Derived.Test.YtekopfoidhhedaaGreatDoorG04
import Derived.ChangeMaps5
set_option linter.unusedVariables false
set_option linter.unusedSimpArgs false
set_option maxRecDepth 10000
namespace Go.Proofs
open Go Go.Id
set_option maxHeartbeats 8000000
abbrev gu:List Nat:=[1,2,4,5,6,7,8,9,10,11,12,20]
abbrev dU:List Nat:=[1,2,4,5,6,7,8,9,10,11,12,20,28,45,52,64]
theorem adg (a:As)(hb:a.big)(s:List UInt8):ak Pr 6 [.agg [.str a.id,.str a.iP,.str a.jI,.str a.sub,.str a.req,.int .i64 a.jd,.int .i64 a.fG,.int .i64 a.lvl,.slice 2 a.nl (a.ats.map At.cs) none],.str s] (.bool true):=by
 refine ak.W Tryz.func6 Tryz.ntmps6 ?_
 simp only[ay,Nat.zero_add]
 iterate 2 first|(refine WP.S dU fun _ z=>?_;simp +decide only[TF,↓reduceIte];apply z;clear z)|apply WP.seq
 refine WP.S dU fun _ z=>?_
 simp +decide only[TF,↓reduceIte]
 refine aj.pure (H9 a hb) rfl rfl (by simp[aO]) ?_
 refine ah.take 2 fun J hJ=>?_
 simp +decide only[TF,↓reduceIte]
 refine hJ _ _ ?_;clear hJ J
 refine ah.part 16 rfl (fun q1=>?_) (fun q1=>?_)
 ·simp only[Bool.not_eq_true'] at q1
  simp +decide only[TF,q1,↓reduceIte]
  apply z;clear z
  refine WP.cT ?_
  refine WP.S dU fun _ z=>?_
  simp +decide only[TF,↓reduceIte]
  refine aj.pure (fF) rfl rfl (by simp[aO]) ?_
  simp +decide only[TF,↓reduceIte]
  apply z;clear z
  apply WP.ret
  exact Ends.P rfl (Le.of_eq (by simp +decide only[St.get,W,↓reduceIte]))
 simp only[Bool.not_eq_false'] at q1
 have hl:iR a=true:=by simpa using q1
 have ha:=CU hb hl
 simp +decide only[TF,q1,↓reduceIte]
 apply z;clear z
 refine WP.cond rfl (fun q2=>?_) (fun q2=>?_)
 ·refine WP.S dU fun _ z=>?_
  simp +decide only[TF,q2,↓reduceIte]
  refine aj.pure (fF) rfl rfl (by simp[aO]) ?_
  simp +decide only[TF,↓reduceIte]
  apply z;clear z
  apply WP.ret
  exact Ends.P rfl (Le.of_eq (by simp +decide only[St.get,W,↓reduceIte]))
 have hs:s.length≤5000:=by have:=of_decide_eq_false q2;omega
 iterate 2 first|(apply WP.skip;show WP ..)|apply WP.seq
 refine WP.S dU fun _ z=>?_
 simp +decide only[TF,q2,↓reduceIte]
 refine aj.pure (jY a ha) rfl rfl (by simp[aO]) ?_
 simp +decide only[TF,↓reduceIte]
 apply z;clear z
 refine WP.S dU fun _ z=>?_;simp +decide only[TF,↓reduceIte];apply z;clear z
 refine WP.cond rfl (fun q3=>?_) (fun q3=>?_)
 ·have hEN:=ah1 q3
  have hXA:=CP a
  have hD1:ig (dw a).1=(nrm a,0):=Qo hEN
  have hck:bC a=0:=(o9 hEN).1
  refine WP.S dU fun _ z=>?_
  simp +decide only[TF,q3,↓reduceIte]
  refine aj.pure (xI (dw a).1 (by omega)) rfl rfl (by simp[aO]) ?_
  simp +decide only[TF,hD1,iy,As.cs,↓reduceIte]
  apply z;clear z
  refine WP.S dU fun _ z=>?_
  simp +decide only[TF,↓reduceIte]
  refine aj.pure (uQ a.ats a.nl ha.2.2.1 ha.2.2.2.1 ha.2.2.2.2 (xw (fO hck).2.2.2)) rfl rfl (by simp[aO]) ?_
  simp +decide only[TF,↓reduceIte]
  apply z;clear z
  refine WP.S dU fun _ z=>?_
  simp +decide only[TF,↓reduceIte]
  refine aj.pure (Aa (nrm a) (QD hck)) rfl rfl (by simp[nrm]) ?_
  simp +decide only[TF,↓reduceIte]
  apply z;clear z
  iterate 3 first|(apply WP.skip;show WP ..)|refine WP.cF ?_|apply WP.seq
  refine WP.S dU fun _ z=>?_
  simp +decide only[TF,↓reduceIte]
  refine aj.pure (xI s (by omega)) rfl rfl (by simp[aO]) ?_
  simp +decide only[TF,iy,As.cs,↓reduceIte]
  apply z;clear z
  refine WP.S dU fun _ z=>?_;simp +decide only[TF,↓reduceIte];apply z;clear z
  refine WP.cond rfl (fun q4=>?_) (fun q4=>?_)
  ·have hD2:=X8 q4
   refine WP.S dU fun _ z=>?_
   simp +decide only[TF,q4,↓reduceIte]
   refine aj.pure (jY (ig s).1 (KZ s)) rfl rfl (by simp[aO]) ?_
   simp +decide only[TF,hD2,↓reduceIte]
   apply z;clear z
   iterate 3 first|(refine WP.S dU fun _ z=>?_;simp +decide only[TF,↓reduceIte];apply z;clear z)|(apply WP.skip;show WP ..)|refine WP.cF ?_
   refine WP.S dU fun _ z=>?_
   simp +decide only[TF,↓reduceIte]
   refine aj.pure (fF) rfl rfl (by simp[aO]) ?_
   simp +decide only[TF,↓reduceIte]
   apply z;clear z
   apply WP.ret
   exact Ends.P rfl (Le.of_eq (by simp +decide only[St.get,W,↓reduceIte]))
  apply WP.skip;show WP ..
  refine WP.S dU fun _ z=>?_
  simp +decide only[TF,q4,↓reduceIte]
  refine aj.pure (fF) rfl rfl (by simp[aO]) ?_
  simp +decide only[TF,↓reduceIte]
  apply z;clear z
  apply WP.ret
  exact Ends.P rfl (Le.of_eq (by simp +decide only[St.get,W,↓reduceIte]))
 iterate 2 first|(apply WP.skip;show WP ..)|apply WP.seq
 refine WP.S dU fun _ z=>?_
 simp +decide only[TF,q3,↓reduceIte]
 refine aj.pure (xI s (by omega)) rfl rfl (by simp[aO]) ?_
 simp +decide only[TF,iy,As.cs,↓reduceIte]
 apply z;clear z
 refine WP.S dU fun _ z=>?_;simp +decide only[TF,↓reduceIte];apply z;clear z
 refine WP.cond rfl (fun q5=>?_) (fun q5=>?_)
 ·have hD2:=X8 q5
  refine WP.S dU fun _ z=>?_
  simp +decide only[TF,q5,↓reduceIte]
  refine aj.pure (jY (ig s).1 (KZ s)) rfl rfl (by simp[aO]) ?_
  simp +decide only[TF,hD2,↓reduceIte]
  apply z;clear z
  iterate 3 first|(refine WP.S dU fun _ z=>?_;simp +decide only[TF,↓reduceIte];apply z;clear z)|(apply WP.skip;show WP ..)|refine WP.cF ?_
  refine WP.S dU fun _ z=>?_
  simp +decide only[TF,↓reduceIte]
  refine aj.pure (fF) rfl rfl (by simp[aO]) ?_
  simp +decide only[TF,↓reduceIte]
  apply z;clear z
  apply WP.ret
  exact Ends.P rfl (Le.of_eq (by simp +decide only[St.get,W,↓reduceIte]))
 apply WP.skip;show WP ..
 refine WP.S dU fun _ z=>?_
 simp +decide only[TF,q5,↓reduceIte]
 refine aj.pure (fF) rfl rfl (by simp[aO]) ?_
 simp +decide only[TF,↓reduceIte]
 apply z;clear z
 apply WP.ret
 exact Ends.P rfl (Le.of_eq (by simp +decide only[St.get,W,↓reduceIte]))
end Go.Proofs
set_option maxRecDepth 100000
namespace Go.Proofs.YtekopfoidhhedaaGreatDoor.RwBack
open Go Go.Id Go.Proofs Go.ChangeShapes Go.ChangeMaps Go.WideShapes Go.ChangeAt Go.RowKit Go.Proofs.YtekopfoidhhedaaGreatDoor.Rw
theorem contract (H:Type)(enc:TypeId × Value→H)(W:World)(base:Nat)(args:Array Value)(ds gs:List (DataW H))(before:List MemPlace)
    (hval:∀(j:Nat) t v,Tryz.f6.params[j]?=some t→args[j]?=some v→Value.okWide Tryz.prog W .any base t v)
    (hW:DataW.Whole enc Tryz.prog Tryz.f6.params.toList Rows.assertionBackSpec.vars false W args.toList ds gs before) (hL:laidMetH Tryz.prog zq W) (hS:W.ShapedOpen Tryz.prog):
    Calls Tryz.prog 6 args W fun e W'=>∃v,e= .returned v∧Rows.assertionBackSpec.post enc Tryz.prog Tryz.f6 false true false false W args v W':=by
  have hW':=hW
  obtain⟨p,q,hA0,hV,rfl,hfz,hnd⟩:=hW
  have hA:DataW.TrodAll enc Tryz.prog W 0 (fun _=>true) true Tryz.f6.params.toList args.toList ds p:=hA0
  rw[Tryz.params6] at hA hval
  obtain⟨al⟩:=args
  dsimp only at hA
  obtain⟨v0,_,d0,_,p_0,_,rfl,rfl,rfl,h0,hA⟩:=trodAll_cons hA
  obtain⟨v1,_,d1,_,p_1,_,rfl,rfl,rfl,h1,hA⟩:=trodAll_cons hA
  obtain⟨rfl,rfl,rfl⟩:=trodAll_nil hA
  obtain⟨rfl,rfl⟩:=trodVars_none hV
  obtain⟨a0,hb0,r0⟩:=QK (hval 0 24 v0 rfl rfl) h0
  obtain⟨s1,r1⟩:=arg_str (hval 1 9 v1 rfl rfl) h1
  refine (ak.run (adg a0 hb0 s1) W (Hu hL hS) (Hw hS) [v0,v1] rfl (Rw.K_ r0 (Rw.one r1))).mono ?_
  rintro e W' ⟨v,rfl,hr,hb⟩
  cases hr
  exact⟨_,rfl,CV hW' rfl hb (of_decide_eq_true (by kernel_rfl)) (by kernel_rfl) rfl rfl rfl⟩
abbrev wit:Array Value:=#[.agg #[.string ⟨#[]⟩,.string ⟨#[]⟩,.string ⟨#[]⟩,.string ⟨#[]⟩,.string ⟨#[]⟩,.int .i64 0,.int .i64 0,.int .i64 0,.slice none 0 0],.string ⟨#[]⟩]
theorem reads (os:Os){H:Type}(enc:TypeId × Value→H):(DataW.whole enc Tryz.prog (RS os wit) Tryz.f6.params.toList Rows.assertionBackSpec.vars false wit.toList 8).map (fun x=>(x.1,x.2.1))=some ([.agg [.lit (.string []),.lit (.string []),.lit (.string []),.lit (.string []),.lit (.string []),.lit (.int .i64 0),.lit (.int .i64 0),.lit (.int .i64 0),.nil],.lit (.string [])],[]):=by kernel_rfl
theorem lifted (os:Os)(started:os.Started)(H:Type)(enc:TypeId × Value→H)(F:Stop.Interp):
    ReturnsInHanded {} Tryz.checked os 6 .any ((OpenSpec.ofChange Rows.assertionBackSpec).preRow enc Tryz.prog Tryz.f6 Rows.assertionBackRow.domain false Rows.assertionBackRow.laid) (((OpenSpec.ofChange Rows.assertionBackSpec).at F).post enc Tryz.prog Tryz.f6 false true false false):=by
  obtain⟨⟨x1,x2,x3⟩,hx,hx1⟩:=Option.map_eq_some_iff.1 (reads os enc)
  simp only[Prod.mk.injEq] at hx1
  obtain⟨rfl,rfl⟩:=hx1
  refine returnsInHanded_of_row (C:=Tryz.checked) (s:=OpenSpec.ofChange Rows.assertionBackSpec) own started (by kernel_rfl) Tryz.func6
    (witness_row_atRef (enc:=enc) (C:=Tryz.checked) false (laidWorld os) wit rfl (by kernel_rfl) (by kernel_rfl) (by kernel_rfl)
      (OpenSpec.preRow_of_cond 8 hx (by kernel_rfl) (fun k hk=>by cases hk) (by kernel_rfl) (laid_met os _))) ?_
  intro W base args ds gs before hval hW _ _ _ hL hS _
  exact contract H enc W base args ds gs before hval hW hL hS
set_option maxHeartbeats 40000000 in
theorem closed:joinedFacts Tryz.pinned.checked.prog 6 Tryz.f6 (OpenSpec.ofChange Rows.assertionBackSpec).bare Rows.assertionBackRow=true:=by
  unfold joinedFacts
  simp only[Bool.and_eq_true]
  repeat' apply And.intro
  all_goals (as_aux_lemma=>kernel_rfl)
theorem hfn:Tryz.pinned.checked.prog.funcNamed Rows.assertionBackRow.func=some 6:=by kernel_rfl
theorem hinst:Tryz.f6.isInstance Tryz.pinned.checked.prog Rows.assertionBackRow.origin Rows.assertionBackRow.targs:=of_decide_eq_true (by kernel_rfl)
theorem hwrap:Tryz.f6.isWrapper Tryz.pinned.checked.prog Rows.assertionBackRow.wrapper Rows.assertionBackRow.mainSum:=by
  unfold Func.isWrapper;first|(rw[if_pos (by decide +kernel)];kernel_rfl)|(rw[if_neg (by decide +kernel)];exact⟨rfl,rfl⟩)
theorem La (os:Os)(started:os.Started)(H:Type)(enc:TypeId × Value→H)(_:∀a b,enc a=enc b→a=b)(F:Stop.Interp):
    ReturnsInHanded Rows.assertionBackRow.assume Tryz.pinned.checked os 6 .any (Rows.assertionBackRow.pre enc Tryz.pinned.checked.prog Tryz.f6 (OpenSpec.ofChange Rows.assertionBackSpec)) (((OpenSpec.ofChange Rows.assertionBackSpec).at F).post enc Tryz.pinned.checked.prog Tryz.f6 Rows.assertionBackRow.apart Rows.assertionBackRow.fresh Rows.assertionBackRow.handsOn Rows.assertionBackRow.again):=by
  rw[OpenClaim.pre_eq_preRow];exact lifted os started H enc F
theorem said:Rows.AssertionBackSaid:=
  OpenClaim.holds_of_cond 6 Tryz.f6 rfl rfl rfl rfl rfl rfl rfl ⟨rfl,rfl,rfl,rfl,rfl⟩ rfl rfl rfl rfl rfl hfn Tryz.func6 closed hinst hwrap La
theorem plain (f:FuncId)(fn:Func)(hf:Tryz.pinned.checked.prog.funcNamed Rows.assertionBackRow.func=some f)(hfn:Tryz.pinned.checked.prog.funcs[f]?=some fn):
    true=Tryz.pinned.checked.prog.looks []∧∀(j:Nat) t,fn.params[j]?=some t→Tryz.pinned.checked.prog.wantsStandIn t=false:=by
  obtain rfl:f=6:=Option.some.inj ((show Tryz.prog.funcNamed Rows.assertionBackRow.func=some 6 by kernel_rfl).symm.trans hf) |>.symm
  obtain rfl:fn=Tryz.f6:=(Option.some.inj (Tryz.func6.symm.trans hfn)).symm
  refine⟨by kernel_rfl,fun j t ht=>?_⟩
  have hall:(Tryz.f6.params.toList.all fun t=>Tryz.prog.wantsStandIn t == false)=true:=by kernel_rfl
  exact eq_of_beq (List.all_eq_true.1 hall t (by simpa using Array.mem_of_getElem? ht))
theorem card:Rows.AssertionBackCardSaid:=
  Claim7.holds_tied_plain_at .later [] _ _ _ _ said (fun _ h=>by cases h) (by kernel_rfl) (fun _ h=>by cases h) assertionBack_row_tie rfl ⟨rfl,rfl⟩ (by kernel_rfl) rfl plain (by kernel_rfl)
end Go.Proofs.YtekopfoidhhedaaGreatDoor.RwBack
#print axioms Go.Proofs.YtekopfoidhhedaaGreatDoor.RwBack.card
