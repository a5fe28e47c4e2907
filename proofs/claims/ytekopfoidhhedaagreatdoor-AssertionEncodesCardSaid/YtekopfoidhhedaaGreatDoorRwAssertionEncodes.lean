import Derived.Test.YtekopfoidhhedaaGreatDoorG12
import Derived.Test.YtekopfoidhhedaaGreatDoorG14
import Derived.Test.YtekopfoidhhedaaGreatDoorG04
import Derived.ChangeMaps5
set_option linter.unusedVariables false
set_option linter.unusedSimpArgs false
set_option maxRecDepth 10000
namespace Go.Proofs
open Go Go.Id
set_option maxHeartbeats 8000000
abbrev gu:List Nat:=[1,2,4,5,6,7,8,9,10,11,12,20]
theorem UE (a:As)(hb:a.big)(s:List UInt8):ak Pr 3 [.agg [.str a.id,.str a.iP,.str a.jI,.str a.sub,.str a.req,.int .i64 a.jd,.int .i64 a.fG,.int .i64 a.lvl,.slice 2 a.nl (a.ats.map At.cs) none],.str s] (.bool true):=by
 refine ak.W Tryz.func3 Tryz.ntmps3 ?_
 simp only[ay,Nat.zero_add]
 iterate 2 first|(refine WP.S gu fun _ z=>?_;simp +decide only[TF,↓reduceIte];apply z;clear z)|apply WP.seq
 refine WP.S gu fun _ z=>?_
 simp +decide only[TF,↓reduceIte]
 refine aj.pure (H9 a hb) rfl rfl (by simp[aO]) ?_
 refine ah.take 2 fun J hJ=>?_
 simp +decide only[TF,↓reduceIte]
 refine hJ _ _ ?_;clear hJ J
 refine ah.part 16 rfl (fun q1=>?_) (fun q1=>?_)
 ·simp only[Bool.not_eq_true'] at q1
  simp +decide only[TF,q1,↓reduceIte]
  apply z;clear z
  refine WP.cT ?_
  refine WP.S gu fun _ z=>?_
  simp +decide only[TF,↓reduceIte]
  refine aj.pure (fF) rfl rfl (by simp[aO]) ?_
  simp +decide only[TF,↓reduceIte]
  apply z;clear z
  apply WP.ret
  exact Ends.P rfl (Le.of_eq (by simp +decide only[St.get,W,↓reduceIte]))
 simp only[Bool.not_eq_false'] at q1
 have hl:iR a=true:=by simpa using q1
 have ha:=CU hb hl
 simp +decide only[TF,q1,↓reduceIte]
 apply z;clear z
 refine WP.cond rfl (fun q2=>?_) (fun q2=>?_)
 ·refine WP.S gu fun _ z=>?_
  simp +decide only[TF,q2,↓reduceIte]
  refine aj.pure (fF) rfl rfl (by simp[aO]) ?_
  simp +decide only[TF,↓reduceIte]
  apply z;clear z
  apply WP.ret
  exact Ends.P rfl (Le.of_eq (by simp +decide only[St.get,W,↓reduceIte]))
 have hs:s.length≤5000:=by have:=of_decide_eq_false q2;omega
 apply WP.skip;show WP ..
 refine WP.S gu fun _ z=>?_
 simp +decide only[TF,q2,↓reduceIte]
 refine aj.pure (jY a ha) rfl rfl (by simp[aO]) ?_
 simp +decide only[TF,↓reduceIte]
 apply z;clear z
 refine WP.S gu fun _ z=>?_
 simp +decide only[TF,↓reduceIte]
 refine aj.pure (rU a ha) rfl rfl (by simp[aO]) ?_
 simp +decide only[TF,↓reduceIte]
 apply z;clear z
 refine WP.S gu fun _ z=>?_
 simp +decide only[TF,↓reduceIte]
 refine aj.pure (xI s (by omega)) rfl rfl (by simp[aO]) ?_
 simp +decide only[TF,iy,As.cs,↓reduceIte]
 apply z;clear z
 refine WP.S gu fun _ z=>?_
 simp +decide only[TF,↓reduceIte]
 refine aj.pure (Wy s (by omega)) rfl rfl (by simp[aO]) ?_
 simp +decide only[TF,iy,As.cs,↓reduceIte]
 apply z;clear z
 refine WP.D gu fun _ z=>?_
 simp +decide only[TF,↓reduceIte]
 refine aj.pure (zX a ha) rfl rfl (by simp[aO]) ?_
 simp +decide only[TF,↓reduceIte]
 refine aj.pure (Ci a ha) rfl rfl (by simp[aO]) ?_
 simp +decide only[TF,↓reduceIte]
 refine aj.pure (Aa (ig s).1 (KZ s)) rfl rfl (by simp[aO]) ?_
 simp +decide only[TF,↓reduceIte]
 refine aj.pure (fF) rfl rfl (by simp[aO]) ?_
 simp +decide only[TF,↓reduceIte]
 refine z _ _ (by kernel_rfl) ?_;clear z
 apply WP.ret
 exact Ends.P rfl (Le.of_eq (by simp +decide only[St.get,W,↓reduceIte]))
abbrev nC:List Nat:=[0,2,4,6,7,8,9,10,18]
end Go.Proofs
set_option maxRecDepth 100000
namespace Go.Proofs.YtekopfoidhhedaaGreatDoor.RwEncodes
open Go Go.Id Go.Proofs Go.ChangeShapes Go.ChangeMaps Go.WideShapes Go.ChangeAt Go.RowKit Go.Proofs.YtekopfoidhhedaaGreatDoor.Rw
theorem contract (H:Type)(enc:TypeId × Value→H)(W:World)(base:Nat)(args:Array Value)(ds gs:List (DataW H))(before:List MemPlace)
    (hval:∀(j:Nat) t v,Tryz.f3.params[j]?=some t→args[j]?=some v→Value.okWide Tryz.prog W .any base t v)
    (hW:DataW.Whole enc Tryz.prog Tryz.f3.params.toList Rows.assertionEncodesSpec.vars false W args.toList ds gs before) (hL:laidMetH Tryz.prog zq W) (hS:W.ShapedOpen Tryz.prog):
    Calls Tryz.prog 3 args W fun e W'=>∃v,e= .returned v∧Rows.assertionEncodesSpec.post enc Tryz.prog Tryz.f3 false true false false W args v W':=by
  have hW':=hW
  obtain⟨p,q,hA0,hV,rfl,hfz,hnd⟩:=hW
  have hA:DataW.TrodAll enc Tryz.prog W 0 (fun _=>true) true Tryz.f3.params.toList args.toList ds p:=hA0
  rw[Tryz.params3] at hA hval
  obtain⟨al⟩:=args
  dsimp only at hA
  obtain⟨v0,_,d0,_,p_0,_,rfl,rfl,rfl,h0,hA⟩:=trodAll_cons hA
  obtain⟨v1,_,d1,_,p_1,_,rfl,rfl,rfl,h1,hA⟩:=trodAll_cons hA
  obtain⟨rfl,rfl,rfl⟩:=trodAll_nil hA
  obtain⟨rfl,rfl⟩:=trodVars_none hV
  obtain⟨a0,hb0,r0⟩:=QK (hval 0 24 v0 rfl rfl) h0
  obtain⟨s1,r1⟩:=arg_str (hval 1 9 v1 rfl rfl) h1
  refine (ak.run (UE a0 hb0 s1) W (Hu hL hS) (Hw hS) [v0,v1] rfl (Rw.K_ r0 (Rw.one r1))).mono ?_
  rintro e W' ⟨v,rfl,hr,hb⟩
  cases hr
  exact⟨_,rfl,CV hW' rfl hb (of_decide_eq_true (by kernel_rfl)) (by kernel_rfl) rfl rfl rfl⟩
abbrev wit:Array Value:=#[.agg #[.string ⟨#[]⟩,.string ⟨#[]⟩,.string ⟨#[]⟩,.string ⟨#[]⟩,.string ⟨#[]⟩,.int .i64 0,.int .i64 0,.int .i64 0,.slice none 0 0],.string ⟨#[]⟩]
theorem reads (os:Os){H:Type}(enc:TypeId × Value→H):(DataW.whole enc Tryz.prog (RS os wit) Tryz.f3.params.toList Rows.assertionEncodesSpec.vars false wit.toList 8).map (fun x=>(x.1,x.2.1))=some ([.agg [.lit (.string []),.lit (.string []),.lit (.string []),.lit (.string []),.lit (.string []),.lit (.int .i64 0),.lit (.int .i64 0),.lit (.int .i64 0),.nil],.lit (.string [])],[]):=by kernel_rfl
theorem lifted (os:Os)(started:os.Started)(H:Type)(enc:TypeId × Value→H)(F:Stop.Interp):
    ReturnsInHanded {} Tryz.checked os 3 .any ((OpenSpec.ofChange Rows.assertionEncodesSpec).preRow enc Tryz.prog Tryz.f3 Rows.assertionEncodesRow.domain false Rows.assertionEncodesRow.laid) (((OpenSpec.ofChange Rows.assertionEncodesSpec).at F).post enc Tryz.prog Tryz.f3 false true false false):=by
  obtain⟨⟨x1,x2,x3⟩,hx,hx1⟩:=Option.map_eq_some_iff.1 (reads os enc)
  simp only[Prod.mk.injEq] at hx1
  obtain⟨rfl,rfl⟩:=hx1
  refine returnsInHanded_of_row (C:=Tryz.checked) (s:=OpenSpec.ofChange Rows.assertionEncodesSpec) own started (by kernel_rfl) Tryz.func3
    (witness_row_atRef (enc:=enc) (C:=Tryz.checked) false (laidWorld os) wit rfl (by kernel_rfl) (by kernel_rfl) (by kernel_rfl)
      (OpenSpec.preRow_of_cond 8 hx (by kernel_rfl) (fun k hk=>by cases hk) (by kernel_rfl) (laid_met os _))) ?_
  intro W base args ds gs before hval hW _ _ _ hL hS _
  exact contract H enc W base args ds gs before hval hW hL hS
set_option maxHeartbeats 40000000 in
theorem closed:joinedFacts Tryz.pinned.checked.prog 3 Tryz.f3 (OpenSpec.ofChange Rows.assertionEncodesSpec).bare Rows.assertionEncodesRow=true:=by
  unfold joinedFacts
  simp only[Bool.and_eq_true]
  repeat' apply And.intro
  all_goals (as_aux_lemma=>kernel_rfl)
theorem hfn:Tryz.pinned.checked.prog.funcNamed Rows.assertionEncodesRow.func=some 3:=by kernel_rfl
theorem hinst:Tryz.f3.isInstance Tryz.pinned.checked.prog Rows.assertionEncodesRow.origin Rows.assertionEncodesRow.targs:=of_decide_eq_true (by kernel_rfl)
theorem hwrap:Tryz.f3.isWrapper Tryz.pinned.checked.prog Rows.assertionEncodesRow.wrapper Rows.assertionEncodesRow.mainSum:=by
  unfold Func.isWrapper;first|(rw[if_pos (by decide +kernel)];kernel_rfl)|(rw[if_neg (by decide +kernel)];exact⟨rfl,rfl⟩)
theorem La (os:Os)(started:os.Started)(H:Type)(enc:TypeId × Value→H)(_:∀a b,enc a=enc b→a=b)(F:Stop.Interp):
    ReturnsInHanded Rows.assertionEncodesRow.assume Tryz.pinned.checked os 3 .any (Rows.assertionEncodesRow.pre enc Tryz.pinned.checked.prog Tryz.f3 (OpenSpec.ofChange Rows.assertionEncodesSpec)) (((OpenSpec.ofChange Rows.assertionEncodesSpec).at F).post enc Tryz.pinned.checked.prog Tryz.f3 Rows.assertionEncodesRow.apart Rows.assertionEncodesRow.fresh Rows.assertionEncodesRow.handsOn Rows.assertionEncodesRow.again):=by
  rw[OpenClaim.pre_eq_preRow];exact lifted os started H enc F
theorem said:Rows.AssertionEncodesSaid:=
  OpenClaim.holds_of_cond 3 Tryz.f3 rfl rfl rfl rfl rfl rfl rfl ⟨rfl,rfl,rfl,rfl,rfl⟩ rfl rfl rfl rfl rfl hfn Tryz.func3 closed hinst hwrap La
theorem plain (f:FuncId)(fn:Func)(hf:Tryz.pinned.checked.prog.funcNamed Rows.assertionEncodesRow.func=some f)(hfn:Tryz.pinned.checked.prog.funcs[f]?=some fn):
    true=Tryz.pinned.checked.prog.looks []∧∀(j:Nat) t,fn.params[j]?=some t→Tryz.pinned.checked.prog.wantsStandIn t=false:=by
  obtain rfl:f=3:=Option.some.inj ((show Tryz.prog.funcNamed Rows.assertionEncodesRow.func=some 3 by kernel_rfl).symm.trans hf) |>.symm
  obtain rfl:fn=Tryz.f3:=(Option.some.inj (Tryz.func3.symm.trans hfn)).symm
  refine⟨by kernel_rfl,fun j t ht=>?_⟩
  have hall:(Tryz.f3.params.toList.all fun t=>Tryz.prog.wantsStandIn t == false)=true:=by kernel_rfl
  exact eq_of_beq (List.all_eq_true.1 hall t (by simpa using Array.mem_of_getElem? ht))
theorem card:Rows.AssertionEncodesCardSaid:=
  Claim7.holds_tied_plain_at .later [] _ _ _ _ said (fun _ h=>by cases h) (by kernel_rfl) (fun _ h=>by cases h) assertionEncodes_row_tie rfl ⟨rfl,rfl⟩ (by kernel_rfl) rfl plain (by kernel_rfl)
end Go.Proofs.YtekopfoidhhedaaGreatDoor.RwEncodes
#print axioms Go.Proofs.YtekopfoidhhedaaGreatDoor.RwEncodes.card
