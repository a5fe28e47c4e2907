import Derived.Test.YtekopfoidhhedaaGreatDoorG12
import Derived.Test.YtekopfoidhhedaaGreatDoorG14
import Derived.Test.YtekopfoidhhedaaGreatDoorG04
import Derived.ChangeMaps5
set_option linter.unusedVariables false
set_option linter.unusedSimpArgs false
set_option maxRecDepth 10000
namespace Go.Proofs
open Go Go.Id
set_option maxHeartbeats 8000000
abbrev gu:List Nat:=[1,2,4,5,6,7,8,9,10,11,12,20]
abbrev nC:List Nat:=[0,2,4,6,7,8,9,10,18]
theorem ZM (l:List Key)(nl:Bool)(hnl:nl=true→l=[])(a:As)(hb:a.big)(now:Int):ak Pr 4 [.slice 6 nl (l.map Key.cs) none,.agg [.str a.id,.str a.iP,.str a.jI,.str a.sub,.str a.req,.int .i64 a.jd,.int .i64 a.fG,.int .i64 a.lvl,.slice 2 a.nl (a.ats.map At.cs) none],.int .i64 now] (.bool true):=by
 refine ak.W Tryz.func4 Tryz.ntmps4 ?_
 simp only[ay,Nat.reduceAdd,Nat.zero_add]
 iterate 2 first|(refine WP.S nC fun _ z=>?_;simp +decide only[TF,↓reduceIte];apply z;clear z)|apply WP.seq
 refine WP.S nC fun _ z=>?_
 simp +decide only[TF,↓reduceIte]
 refine aj.pure (H9 a hb) rfl rfl (by simp[aO]) ?_
 refine ah.take 2 fun J hJ=>?_
 simp +decide only[TF,↓reduceIte]
 refine hJ _ _ ?_;clear hJ J
 refine ah.part 14 rfl (fun q1=>?_) (fun q1=>?_)
 ·simp only[Bool.not_eq_true'] at q1
  simp +decide only[TF,q1,↓reduceIte]
  apply z;clear z
  refine WP.cT ?_
  refine WP.S nC fun _ z=>?_
  simp +decide only[TF,↓reduceIte]
  refine aj.pure (fF) rfl rfl (by simp[aO]) ?_
  simp +decide only[TF,↓reduceIte]
  apply z;clear z
  apply WP.ret
  exact Ends.P rfl (Le.of_eq (by simp +decide only[St.get,W,↓reduceIte]))
 simp only[Bool.not_eq_false'] at q1
 have hl:iR a=true:=by simpa using q1
 have ha:=CU hb hl
 simp +decide only[TF,q1,↓reduceIte]
 refine aj.pure (aj9 l nl hnl) rfl rfl (by simp[aO]) ?_
 simp +decide only[TF,↓reduceIte]
 apply z;clear z
 refine WP.cond rfl (fun q2=>?_) (fun q2=>?_)
 ·refine WP.S nC fun _ z=>?_
  simp +decide only[TF,q2,↓reduceIte]
  refine aj.pure (fF) rfl rfl (by simp[aO]) ?_
  simp +decide only[TF,↓reduceIte]
  apply z;clear z
  apply WP.ret
  exact Ends.P rfl (Le.of_eq (by simp +decide only[St.get,W,↓reduceIte]))
 have hf:UA l=true:=by simpa using q2
 obtain⟨hn6,hko⟩:=ah0 hf
 apply WP.skip;show WP ..
 refine WP.S nC fun _ z=>?_
 simp +decide only[TF,q2,↓reduceIte]
 refine aj.pure (yF l nl (by omega) hnl hko a ha now) rfl rfl (by simp[aO]) ?_
 simp +decide only[TF,↓reduceIte]
 apply z;clear z
 refine WP.S nC fun _ z=>?_
 simp +decide only[TF,↓reduceIte]
 refine aj.pure (Uk l nl (by omega) hnl hko a ha now) rfl rfl (by simp[aO]) ?_
 simp +decide only[TF,↓reduceIte]
 apply z;clear z
 refine WP.S nC fun _ z=>?_
 simp +decide only[TF,↓reduceIte]
 refine aj.pure (fF) rfl rfl (by simp[aO]) ?_
 simp +decide only[TF,↓reduceIte]
 apply z;clear z
 apply WP.ret
 exact Ends.P rfl (Le.of_eq (by simp +decide only[St.get,W,↓reduceIte]))
abbrev dU:List Nat:=[1,2,4,5,6,7,8,9,10,11,12,20,28,45,52,64]
end Go.Proofs
set_option maxRecDepth 100000
namespace Go.Proofs.YtekopfoidhhedaaGreatDoor.RwSigns
open Go Go.Id Go.Proofs Go.ChangeShapes Go.ChangeMaps Go.WideShapes Go.ChangeAt Go.RowKit Go.Proofs.YtekopfoidhhedaaGreatDoor.Rw
theorem contract (H:Type)(enc:TypeId × Value→H)(W:World)(base:Nat)(args:Array Value)(ds gs:List (DataW H))(before:List MemPlace)
    (hval:∀(j:Nat) t v,Tryz.f4.params[j]?=some t→args[j]?=some v→Value.okWide Tryz.prog W .any base t v)
    (hW:DataW.Whole enc Tryz.prog Tryz.f4.params.toList Rows.assertionSignsSpec.vars false W args.toList ds gs before) (hL:laidMetH Tryz.prog zq W) (hS:W.ShapedOpen Tryz.prog):
    Calls Tryz.prog 4 args W fun e W'=>∃v,e= .returned v∧Rows.assertionSignsSpec.post enc Tryz.prog Tryz.f4 false true false false W args v W':=by
  have hW':=hW
  obtain⟨p,q,hA0,hV,rfl,hfz,hnd⟩:=hW
  have hA:DataW.TrodAll enc Tryz.prog W 0 (fun _=>true) true Tryz.f4.params.toList args.toList ds p:=hA0
  rw[Tryz.params4] at hA hval
  obtain⟨al⟩:=args
  dsimp only at hA
  obtain⟨v0,_,d0,_,p_0,_,rfl,rfl,rfl,h0,hA⟩:=trodAll_cons hA
  obtain⟨v1,_,d1,_,p_1,_,rfl,rfl,rfl,h1,hA⟩:=trodAll_cons hA
  obtain⟨v2,_,d2,_,p_2,_,rfl,rfl,rfl,h2,hA⟩:=trodAll_cons hA
  obtain⟨rfl,rfl,rfl⟩:=trodAll_nil hA
  obtain⟨rfl,rfl⟩:=trodVars_none hV
  obtain⟨l0,nl0,al3,r0⟩:=adf (hval 0 35 v0 rfl rfl) h0
  obtain⟨a1,hb1,r1⟩:=QK (hval 1 24 v1 rfl rfl) h1
  obtain⟨n2,r2⟩:=QJ (hval 2 3 v2 rfl rfl) h2
  refine (ak.run (ZM l0 nl0 al3 a1 hb1 n2) W (Hu hL hS) (Hw hS) [v0,v1,v2] rfl (Rw.K_ r0 (Rw.K_ r1 (Rw.one r2)))).mono ?_
  rintro e W' ⟨v,rfl,hr,hb⟩
  cases hr
  exact⟨_,rfl,CV hW' rfl hb (of_decide_eq_true (by kernel_rfl)) (by kernel_rfl) rfl rfl rfl⟩
abbrev wit:Array Value:=#[.slice none 0 0,.agg #[.string ⟨#[]⟩,.string ⟨#[]⟩,.string ⟨#[]⟩,.string ⟨#[]⟩,.string ⟨#[]⟩,.int .i64 0,.int .i64 0,.int .i64 0,.slice none 0 0],.int .i64 0]
theorem reads (os:Os){H:Type}(enc:TypeId × Value→H):(DataW.whole enc Tryz.prog (RS os wit) Tryz.f4.params.toList Rows.assertionSignsSpec.vars false wit.toList 8).map (fun x=>(x.1,x.2.1))=some ([.nil,.agg [.lit (.string []),.lit (.string []),.lit (.string []),.lit (.string []),.lit (.string []),.lit (.int .i64 0),.lit (.int .i64 0),.lit (.int .i64 0),.nil],.lit (.int .i64 0)],[]):=by kernel_rfl
theorem lifted (os:Os)(started:os.Started)(H:Type)(enc:TypeId × Value→H)(F:Stop.Interp):
    ReturnsInHanded {} Tryz.checked os 4 .any ((OpenSpec.ofChange Rows.assertionSignsSpec).preRow enc Tryz.prog Tryz.f4 Rows.assertionSignsRow.domain false Rows.assertionSignsRow.laid) (((OpenSpec.ofChange Rows.assertionSignsSpec).at F).post enc Tryz.prog Tryz.f4 false true false false):=by
  obtain⟨⟨x1,x2,x3⟩,hx,hx1⟩:=Option.map_eq_some_iff.1 (reads os enc)
  simp only[Prod.mk.injEq] at hx1
  obtain⟨rfl,rfl⟩:=hx1
  refine returnsInHanded_of_row (C:=Tryz.checked) (s:=OpenSpec.ofChange Rows.assertionSignsSpec) own started (by kernel_rfl) Tryz.func4
    (witness_row_atRef (enc:=enc) (C:=Tryz.checked) false (laidWorld os) wit rfl (by kernel_rfl) (by kernel_rfl) (by kernel_rfl)
      (OpenSpec.preRow_of_cond 8 hx (by kernel_rfl) (fun k hk=>by cases hk) (by kernel_rfl) (laid_met os _))) ?_
  intro W base args ds gs before hval hW _ _ _ hL hS _
  exact contract H enc W base args ds gs before hval hW hL hS
set_option maxHeartbeats 40000000 in
theorem closed:joinedFacts Tryz.pinned.checked.prog 4 Tryz.f4 (OpenSpec.ofChange Rows.assertionSignsSpec).bare Rows.assertionSignsRow=true:=by
  unfold joinedFacts
  simp only[Bool.and_eq_true]
  repeat' apply And.intro
  all_goals (as_aux_lemma=>kernel_rfl)
theorem hfn:Tryz.pinned.checked.prog.funcNamed Rows.assertionSignsRow.func=some 4:=by kernel_rfl
theorem hinst:Tryz.f4.isInstance Tryz.pinned.checked.prog Rows.assertionSignsRow.origin Rows.assertionSignsRow.targs:=of_decide_eq_true (by kernel_rfl)
theorem hwrap:Tryz.f4.isWrapper Tryz.pinned.checked.prog Rows.assertionSignsRow.wrapper Rows.assertionSignsRow.mainSum:=by
  unfold Func.isWrapper;first|(rw[if_pos (by decide +kernel)];kernel_rfl)|(rw[if_neg (by decide +kernel)];exact⟨rfl,rfl⟩)
theorem La (os:Os)(started:os.Started)(H:Type)(enc:TypeId × Value→H)(_:∀a b,enc a=enc b→a=b)(F:Stop.Interp):
    ReturnsInHanded Rows.assertionSignsRow.assume Tryz.pinned.checked os 4 .any (Rows.assertionSignsRow.pre enc Tryz.pinned.checked.prog Tryz.f4 (OpenSpec.ofChange Rows.assertionSignsSpec)) (((OpenSpec.ofChange Rows.assertionSignsSpec).at F).post enc Tryz.pinned.checked.prog Tryz.f4 Rows.assertionSignsRow.apart Rows.assertionSignsRow.fresh Rows.assertionSignsRow.handsOn Rows.assertionSignsRow.again):=by
  rw[OpenClaim.pre_eq_preRow];exact lifted os started H enc F
theorem said:Rows.AssertionSignsSaid:=
  OpenClaim.holds_of_cond 4 Tryz.f4 rfl rfl rfl rfl rfl rfl rfl ⟨rfl,rfl,rfl,rfl,rfl⟩ rfl rfl rfl rfl rfl hfn Tryz.func4 closed hinst hwrap La
theorem plain (f:FuncId)(fn:Func)(hf:Tryz.pinned.checked.prog.funcNamed Rows.assertionSignsRow.func=some f)(hfn:Tryz.pinned.checked.prog.funcs[f]?=some fn):
    true=Tryz.pinned.checked.prog.looks []∧∀(j:Nat) t,fn.params[j]?=some t→Tryz.pinned.checked.prog.wantsStandIn t=false:=by
  obtain rfl:f=4:=Option.some.inj ((show Tryz.prog.funcNamed Rows.assertionSignsRow.func=some 4 by kernel_rfl).symm.trans hf) |>.symm
  obtain rfl:fn=Tryz.f4:=(Option.some.inj (Tryz.func4.symm.trans hfn)).symm
  refine⟨by kernel_rfl,fun j t ht=>?_⟩
  have hall:(Tryz.f4.params.toList.all fun t=>Tryz.prog.wantsStandIn t == false)=true:=by kernel_rfl
  exact eq_of_beq (List.all_eq_true.1 hall t (by simpa using Array.mem_of_getElem? ht))
theorem card:Rows.AssertionSignsCardSaid:=
  Claim7.holds_tied_plain_at .later [] _ _ _ _ said (fun _ h=>by cases h) (by kernel_rfl) (fun _ h=>by cases h) assertionSigns_row_tie rfl ⟨rfl,rfl⟩ (by kernel_rfl) rfl plain (by kernel_rfl)
end Go.Proofs.YtekopfoidhhedaaGreatDoor.RwSigns
#print axioms Go.Proofs.YtekopfoidhhedaaGreatDoor.RwSigns.card
