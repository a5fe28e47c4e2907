import Derived.Test.YtekopfoidhhedaaGreatDoorG13
import Derived.Test.YtekopfoidhhedaaGreatDoorG12
import Derived.Test.YtekopfoidhhedaaGreatDoorG14
import Derived.Test.YtekopfoidhhedaaGreatDoorG04
import Derived.ChangeMaps5
set_option linter.unusedVariables false
set_option linter.unusedSimpArgs false
set_option maxRecDepth 10000
namespace Go.Proofs
open Go Go.Id
set_option maxHeartbeats 16000000
set_option maxRecDepth 100000
abbrev bM:List Nat:=[1,2,3,4,8,9,10,11,12,13,14,15,16,17,19,44,68,77,102,104,120,142]
theorem adh (a:As)(hb:a.big)(at_ later:Int)(request:List UInt8):ak Pr 8 [.agg [.str a.id,.str a.iP,.str a.jI,.str a.sub,.str a.req,.int .i64 a.jd,.int .i64 a.fG,.int .i64 a.lvl,.slice 2 a.nl (a.ats.map At.cs) none],.int .i64 at_,.int .i64 later,.str request] (.bool true):=by
 refine ak.W Tryz.func8 Tryz.ntmps8 ?_
 simp only[ay,Nat.reduceAdd,Nat.zero_add]
 iterate 2 first|(refine WP.S bM fun _ z=>?_;simp +decide only[TF,St.lay,dl,↓reduceIte];apply z;clear z)|apply WP.seq
 refine WP.S bM fun _ z=>?_
 simp +decide only[TF,St.lay,dl,↓reduceIte]
 refine aj.pure (H9 a hb) rfl rfl (by simp[aO]) ?_
 refine ah.take 2 fun J hJ=>?_
 simp +decide only[TF,St.lay,dl,↓reduceIte]
 refine hJ _ _ ?_;clear hJ J
 refine ah.part 23 rfl (fun q1=>?_) (fun q1=>?_)
 ·simp only[Bool.not_eq_true'] at q1
  simp +decide only[TF,q1,St.lay,dl,↓reduceIte]
  apply z;clear z
  refine WP.cT ?_
  refine WP.S bM fun _ z=>?_
  simp +decide only[TF,↓reduceIte]
  refine aj.pure (fF) rfl rfl (by simp[aO]) ?_
  simp +decide only[TF,St.lay,dl,↓reduceIte]
  apply z;clear z
  apply WP.ret
  exact Ends.P rfl (Le.of_eq (by simp +decide only[St.get,W,↓reduceIte]))
 simp only[Bool.not_eq_false'] at q1
 have hl:iR a=true:=by simpa using q1
 have ha:=CU hb hl
 refine ah.take 4 fun J hJ=>?_
 simp +decide only[TF,q1,St.lay,dl,↓reduceIte]
 refine hJ _ _ ?_;clear hJ J
 refine ah.part 27 rfl (fun q2=>?_) (fun q2=>?_)
 ·simp +decide only[TF,q2,St.lay,dl,↓reduceIte]
  apply z;clear z
  refine WP.cT ?_
  refine WP.S bM fun _ z=>?_
  simp +decide only[TF,↓reduceIte]
  refine aj.pure (fF) rfl rfl (by simp[aO]) ?_
  simp +decide only[TF,St.lay,dl,↓reduceIte]
  apply z;clear z
  apply WP.ret
  exact Ends.P rfl (Le.of_eq (by simp +decide only[St.get,W,↓reduceIte]))
 refine ah.take 4 fun J hJ=>?_
 simp +decide only[TF,q2,St.lay,dl,↓reduceIte]
 refine hJ _ _ ?_;clear hJ J
 refine ah.part 31 rfl (fun q3=>?_) (fun q3=>?_)
 ·simp +decide only[TF,q3,St.lay,dl,↓reduceIte]
  apply z;clear z
  refine WP.cT ?_
  refine WP.S bM fun _ z=>?_
  simp +decide only[TF,↓reduceIte]
  refine aj.pure (fF) rfl rfl (by simp[aO]) ?_
  simp +decide only[TF,St.lay,dl,↓reduceIte]
  apply z;clear z
  apply WP.ret
  exact Ends.P rfl (Le.of_eq (by simp +decide only[St.get,W,↓reduceIte]))
 refine ah.take 5 fun J hJ=>?_
 simp +decide only[TF,q3,St.lay,dl,↓reduceIte]
 refine hJ _ _ ?_;clear hJ J
 refine ah.part 36 rfl (fun q4=>?_) (fun q4=>?_)
 ·simp +decide only[TF,q4,St.lay,dl,↓reduceIte]
  apply z;clear z
  refine WP.cT ?_
  refine WP.S bM fun _ z=>?_
  simp +decide only[TF,↓reduceIte]
  refine aj.pure (fF) rfl rfl (by simp[aO]) ?_
  simp +decide only[TF,St.lay,dl,↓reduceIte]
  apply z;clear z
  apply WP.ret
  exact Ends.P rfl (Le.of_eq (by simp +decide only[St.get,W,↓reduceIte]))
 refine ah.take 4 fun J hJ=>?_
 simp +decide only[TF,q4,St.lay,dl,↓reduceIte]
 refine hJ _ _ ?_;clear hJ J
 refine ah.part 40 rfl (fun q5=>?_) (fun q5=>?_)
 ·simp +decide only[TF,q5,St.lay,dl,↓reduceIte]
  apply z;clear z
  refine WP.cT ?_
  refine WP.S bM fun _ z=>?_
  simp +decide only[TF,↓reduceIte]
  refine aj.pure (fF) rfl rfl (by simp[aO]) ?_
  simp +decide only[TF,St.lay,dl,↓reduceIte]
  apply z;clear z
  apply WP.ret
  exact Ends.P rfl (Le.of_eq (by simp +decide only[St.get,W,↓reduceIte]))
 simp +decide only[TF,q5,St.lay,dl,↓reduceIte]
 apply z;clear z
 refine WP.cond rfl (fun q6=>?_) (fun q6=>?_)
 ·refine WP.S bM fun _ z=>?_
  simp +decide only[TF,q6,↓reduceIte]
  refine aj.pure (fF) rfl rfl (by simp[aO]) ?_
  simp +decide only[TF,St.lay,dl,↓reduceIte]
  apply z;clear z
  apply WP.ret
  exact Ends.P rfl (Le.of_eq (by simp +decide only[St.get,W,↓reduceIte]))
 obtain⟨g1,g2,g3,g4,g5⟩:=ake (t:=at_) (l:=later) (q:=request) (by assumption) (by assumption) (by assumption) (by assumption) q6
 have hA1:=akd ha
 have hwa:=add5 ⟨g1,g2⟩
 have hws:=alV ⟨g1,g2⟩
 iterate 3 first|(refine WP.S bM fun _ z=>?_;simp +decide only[TF,q6,St.lay,dl,↓reduceIte];apply z;clear z)|(apply WP.skip;show WP ..)
 refine WP.S bM fun _ z=>?_
 simp +decide only[TF,↓reduceIte]
 refine aj.I (afw H7 5 (by decide) akb R5 ah6) rfl rfl ?_
 simp +decide only[TF,St.lay,dl,↓reduceIte]
 apply z;clear z
 refine WP.S bM fun _ z=>?_
 simp +decide only[TF,↓reduceIte]
 refine aj.I (ZK) rfl rfl ?_
 simp +decide only[TF,St.lay,dl,↓reduceIte]
 apply z;clear z
 refine WP.D bM fun _ z=>?_
 simp +decide only[TF,↓reduceIte]
 refine aj.pure (Qu [115]) rfl rfl (by simp[As.cs]) ?_
 simp +decide only[TF,St.lay,dl,↓reduceIte]
 refine aj.pure (yF [kX] false (by decide) nofun acP (A1 a) hA1 1) rfl rfl (by simp[At.cs,Key.cs,oL,kX,A1]) ?_
 simp +decide only[TF,St.lay,dl,↓reduceIte]
 refine z _ _ (by kernel_rfl) ?_;clear z
 iterate 5 first|(refine WP.S bM fun _ z=>?_;simp +decide only[TF,St.lay,dl,↓reduceIte];apply z;clear z)|(apply WP.skip;show WP ..)|refine WP.cF ?_|apply WP.seq
 refine WP.S bM fun _ z=>?_
 refine ah.take 3 fun J hJ=>?_
 simp +decide only[TF,St.lay,dl,↓reduceIte]
 refine hJ _ _ ?_;clear hJ J
 refine ah.part 71 rfl (fun q7=>?_) (fun q7=>?_)
 ·simp +decide only[TF,q7,St.lay,dl,↓reduceIte]
  apply z;clear z
  refine WP.cT ?_
  refine WP.S bM fun _ z=>?_
  simp +decide only[TF,↓reduceIte]
  refine aj.pure (fF) rfl rfl (by simp[aO]) ?_
  simp +decide only[TF,St.lay,dl,↓reduceIte]
  apply z;clear z
  apply WP.ret
  exact Ends.P rfl (Le.of_eq (by simp +decide only[St.get,W,↓reduceIte]))
 have hS1:kP [kX] (A1 a) 1=((kP [kX] (A1 a) 1).1,0):=Prod.ext rfl (by simpa using q7)
 have hc1:=t_ hS1
 have hw1:aX a.req=true:=(fO hc1).1.2.2.2.1
 have hr1:=akc hw1
 simp +decide only[TF,q7,St.lay,dl,↓reduceIte]
 refine aj.I (GN R5 aj_ a.req kQ 2000 0 (by have:=nJ hw1;omega) (by decide) (R6 a) (by rw[hr1];rfl)) rfl rfl ?_
 simp +decide only[TF,hr1,St.lay,dl,↓reduceIte]
 apply z;clear z
 iterate 2 first|(apply WP.skip;show WP ..)|refine WP.cF ?_
 rcases ZL a at_ with⟨hv,d1⟩ | ⟨hv,d1,d2⟩ | ⟨hv,d1,d2⟩
 ·obtain⟨hAc,hne⟩:=OV hS1 g1 g2 hv
  refine WP.S bM fun _ z=>?_
  simp +decide only[TF,St.lay,dl,↓reduceIte]
  refine aj.I (uV QE 2 QF (R6 a) (adb a) (kP [kX] (A1 a) 1).1 (H_ _ _) at_ _ _ _ hAc) rfl rfl ?_
  simp +decide only[TF,As.cs,St.lay,dl,↓reduceIte]
  apply z;clear z
  iterate 8 first|(refine WP.S bM fun _ z=>?_;simp +decide only[TF,hwa,d1,hne,St.lay,dl,↓reduceIte];apply z;clear z)|(apply WP.skip;show WP ..)|refine WP.cF ?_|refine WP.cT ?_|apply WP.seq
  refine WP.S bM fun _ z=>?_
  simp +decide only[TF,↓reduceIte]
  refine aj.pure (fF) rfl rfl (by simp[aO]) ?_
  simp +decide only[TF,St.lay,dl,↓reduceIte]
  apply z;clear z
  apply WP.ret
  exact Ends.P rfl (Le.of_eq (by simp +decide only[St.get,W,↓reduceIte]))
 ·obtain⟨hAc,hne⟩:=OV hS1 g1 g2 hv
  refine WP.S bM fun _ z=>?_
  simp +decide only[TF,St.lay,dl,↓reduceIte]
  refine aj.I (uV QE 2 QF (R6 a) (adb a) (kP [kX] (A1 a) 1).1 (H_ _ _) at_ _ _ _ hAc) rfl rfl ?_
  simp +decide only[TF,As.cs,St.lay,dl,↓reduceIte]
  apply z;clear z
  iterate 8 first|(refine WP.S bM fun _ z=>?_;simp +decide only[TF,hwa,hws,d1,d2,hne,St.lay,dl,↓reduceIte];apply z;clear z)|(apply WP.skip;show WP ..)|refine WP.cF ?_|refine WP.cT ?_|apply WP.seq
  refine WP.S bM fun _ z=>?_
  simp +decide only[TF,↓reduceIte]
  refine aj.pure (fF) rfl rfl (by simp[aO]) ?_
  simp +decide only[TF,St.lay,dl,↓reduceIte]
  apply z;clear z
  apply WP.ret
  exact Ends.P rfl (Le.of_eq (by simp +decide only[St.get,W,↓reduceIte]))
 have hAc:=ZJ hS1 g1 g2 hv
 have hwR:=afy a at_
 refine WP.S bM fun _ z=>?_
 simp +decide only[TF,St.lay,dl,↓reduceIte]
 refine aj.I (uV QE 2 QF (R6 a) (adb a) (kP [kX] (A1 a) 1).1 (H_ _ _) at_ _ _ _ hAc) rfl rfl ?_
 simp +decide only[TF,As.cs,St.lay,dl,↓reduceIte]
 apply z;clear z
 iterate 9 first|(refine WP.S bM fun _ z=>?_;simp +decide only[TF,hwa,hws,d1,d2,St.lay,dl,↓reduceIte];apply z;clear z)|(apply WP.skip;show WP ..)|refine WP.cF ?_|apply WP.seq
 refine WP.S bM fun _ z=>?_
 simp +decide only[TF,St.lay,dl,↓reduceIte]
 refine aj.pure (uQ a.ats a.nl ha.2.2.1 ha.2.2.2.1 ha.2.2.2.2 (xw (fO hc1).2.2.2)) rfl rfl (by simp[aO]) ?_
 simp +decide only[TF,St.lay,dl,↓reduceIte]
 apply z;clear z
 apply WP.seq
 refine WP.S bM fun _ z=>?_
 simp +decide only[TF,St.lay,dl,↓reduceIte]
 refine aj.pure (Aa (nrm (A1 a)) (QD hc1)) rfl rfl (by simp[At.cs,A1,nrm]) ?_
 simp +decide only[TF,St.lay,dl,↓reduceIte]
 refine aj.I (UD (R7 a) (agl a) at_) rfl rfl ?_
 simp +decide only[TF,hwR,St.lay,dl,z0n,↓reduceIte]
 apply z;clear z
 iterate 5 first|(refine WP.S bM fun _ z=>?_;simp +decide only[TF,St.lay,dl,↓reduceIte];apply z;clear z)|(apply WP.skip;show WP ..)|refine WP.cF ?_
 refine WP.D bM fun _ z=>?_
 simp +decide only[TF,↓reduceIte]
 refine aj.pure (Qu [115]) rfl rfl (by simp[As.cs]) ?_
 simp +decide only[TF,St.lay,dl,↓reduceIte]
 refine aj.pure (yF [kX] false (by decide) nofun acP (LY a request ((IntKind.wrap .i64 (a.lvl+1)).tmod 4)) (ah8 hc1 g5 _) 1) rfl rfl (by simp[At.cs,Key.cs,oL,kX,A1,LY,nrm]) ?_
 simp +decide only[TF,St.lay,dl,↓reduceIte]
 refine z _ _ (by kernel_rfl) ?_;clear z
 apply WP.seq
 refine WP.S bM fun _ z=>?_
 refine ah.take 3 fun J hJ=>?_
 simp +decide only[TF,St.lay,dl,↓reduceIte]
 refine hJ _ _ ?_;clear hJ J
 refine ah.part 137 rfl (fun q8=>?_) (fun q8=>?_)
 ·simp +decide only[TF,q8,St.lay,dl,↓reduceIte]
  apply z;clear z
  refine WP.cT ?_
  refine WP.S bM fun _ z=>?_
  simp +decide only[TF,↓reduceIte]
  refine aj.pure (fF) rfl rfl (by simp[aO]) ?_
  simp +decide only[TF,St.lay,dl,↓reduceIte]
  apply z;clear z
  apply WP.ret
  exact Ends.P rfl (Le.of_eq (by simp +decide only[St.get,W,↓reduceIte]))
 have hS2:kP [kX] (LY a request ((IntKind.wrap .i64 (a.lvl+1)).tmod 4)) 1=((kP [kX] (LY a request ((IntKind.wrap .i64 (a.lvl+1)).tmod 4)) 1).1,0):=Prod.ext rfl (by simpa using q8)
 have hw2:aX request=true:=(fO (t_ hS2)).1.2.2.2.1
 have hr2:=ah7 (a:=a) hw2
 have hno:=afx hS2 (by omega:0≤later) g4 hc1
 simp +decide only[TF,q8,St.lay,dl,↓reduceIte]
 refine aj.I (GN (R7 a) (agl a) request kQ 2000 0 (by omega) (by decide) (R8 a request) (by rw[hr2])) rfl rfl ?_
 simp +decide only[TF,hr2,St.lay,dl,↓reduceIte]
 apply z;clear z
 iterate 2 first|(apply WP.skip;show WP ..)|refine WP.cF ?_
 refine WP.S bM fun _ z=>?_
 simp +decide only[TF,St.lay,dl,↓reduceIte]
 refine aj.I (uV QE 2 QF (R8 a request) (aj' a request) (kP [kX] (LY a request ((IntKind.wrap .i64 (a.lvl+1)).tmod 4)) 1).1 (H_ _ _) later (lV QE (R8 a request) (kP [kX] (LY a request ((IntKind.wrap .i64 (a.lvl+1)).tmod 4)) 1).1 later).1 (lV QE (R8 a request) (kP [kX] (LY a request ((IntKind.wrap .i64 (a.lvl+1)).tmod 4)) 1).1 later).2.1 (lV QE (R8 a request) (kP [kX] (LY a request ((IntKind.wrap .i64 (a.lvl+1)).tmod 4)) 1).1 later).2.2 rfl) rfl rfl ?_
 simp +decide only[TF,As.cs,St.lay,dl,↓reduceIte]
 apply z;clear z
 refine WP.S bM fun _ z=>?_
 simp +decide only[TF,hno,St.lay,dl,↓reduceIte]
 refine aj.pure (fF) rfl rfl (by simp[aO]) ?_
 simp +decide only[TF,St.lay,dl,↓reduceIte]
 apply z;clear z
 apply WP.ret
 exact Ends.P rfl (Le.of_eq (by simp +decide only[St.get,W,↓reduceIte]))
end Go.Proofs
set_option maxRecDepth 100000
namespace Go.Proofs.YtekopfoidhhedaaGreatDoor.RwOnce
open Go Go.Id Go.Proofs Go.ChangeShapes Go.ChangeMaps Go.WideShapes Go.ChangeAt Go.RowKit Go.Proofs.YtekopfoidhhedaaGreatDoor.Rw
theorem contract (H:Type)(enc:TypeId × Value→H)(W:World)(base:Nat)(args:Array Value)(ds gs:List (DataW H))(before:List MemPlace)
    (hval:∀(j:Nat) t v,Tryz.f8.params[j]?=some t→args[j]?=some v→Value.okWide Tryz.prog W .any base t v)
    (hW:DataW.Whole enc Tryz.prog Tryz.f8.params.toList Rows.assertionOnceSpec.vars false W args.toList ds gs before) (hL:laidMetH Tryz.prog zq W) (hS:W.ShapedOpen Tryz.prog):
    Calls Tryz.prog 8 args W fun e W'=>∃v,e= .returned v∧Rows.assertionOnceSpec.post enc Tryz.prog Tryz.f8 false true false false W args v W':=by
  have hW':=hW
  obtain⟨p,q,hA0,hV,rfl,hfz,hnd⟩:=hW
  have hA:DataW.TrodAll enc Tryz.prog W 0 (fun _=>true) true Tryz.f8.params.toList args.toList ds p:=hA0
  rw[Tryz.params8] at hA hval
  obtain⟨al⟩:=args
  dsimp only at hA
  obtain⟨v0,_,d0,_,p_0,_,rfl,rfl,rfl,h0,hA⟩:=trodAll_cons hA
  obtain⟨v1,_,d1,_,p_1,_,rfl,rfl,rfl,h1,hA⟩:=trodAll_cons hA
  obtain⟨v2,_,d2,_,p_2,_,rfl,rfl,rfl,h2,hA⟩:=trodAll_cons hA
  obtain⟨v3,_,d3,_,p_3,_,rfl,rfl,rfl,h3,hA⟩:=trodAll_cons hA
  obtain⟨rfl,rfl,rfl⟩:=trodAll_nil hA
  obtain⟨rfl,rfl⟩:=trodVars_none hV
  obtain⟨a0,hb0,r0⟩:=QK (hval 0 24 v0 rfl rfl) h0
  obtain⟨n1,r1⟩:=QJ (hval 1 3 v1 rfl rfl) h1
  obtain⟨n2,r2⟩:=QJ (hval 2 3 v2 rfl rfl) h2
  obtain⟨s3,r3⟩:=arg_str (hval 3 9 v3 rfl rfl) h3
  refine (ak.run (adh a0 hb0 n1 n2 s3) W (Hu hL hS) (Hw hS) [v0,v1,v2,v3] rfl (Rw.K_ r0 (Rw.K_ r1 (Rw.K_ r2 (Rw.one r3))))).mono ?_
  rintro e W' ⟨v,rfl,hr,hb⟩
  cases hr
  exact⟨_,rfl,CV hW' rfl hb (of_decide_eq_true (by kernel_rfl)) (by kernel_rfl) rfl rfl rfl⟩
abbrev wit:Array Value:=#[.agg #[.string ⟨#[]⟩,.string ⟨#[]⟩,.string ⟨#[]⟩,.string ⟨#[]⟩,.string ⟨#[]⟩,.int .i64 0,.int .i64 0,.int .i64 0,.slice none 0 0],.int .i64 0,.int .i64 0,.string ⟨#[]⟩]
theorem reads (os:Os){H:Type}(enc:TypeId × Value→H):(DataW.whole enc Tryz.prog (RS os wit) Tryz.f8.params.toList Rows.assertionOnceSpec.vars false wit.toList 8).map (fun x=>(x.1,x.2.1))=some ([.agg [.lit (.string []),.lit (.string []),.lit (.string []),.lit (.string []),.lit (.string []),.lit (.int .i64 0),.lit (.int .i64 0),.lit (.int .i64 0),.nil],.lit (.int .i64 0),.lit (.int .i64 0),.lit (.string [])],[]):=by kernel_rfl
theorem lifted (os:Os)(started:os.Started)(H:Type)(enc:TypeId × Value→H)(F:Stop.Interp):
    ReturnsInHanded {} Tryz.checked os 8 .any ((OpenSpec.ofChange Rows.assertionOnceSpec).preRow enc Tryz.prog Tryz.f8 Rows.assertionOnceRow.domain false Rows.assertionOnceRow.laid) (((OpenSpec.ofChange Rows.assertionOnceSpec).at F).post enc Tryz.prog Tryz.f8 false true false false):=by
  obtain⟨⟨x1,x2,x3⟩,hx,hx1⟩:=Option.map_eq_some_iff.1 (reads os enc)
  simp only[Prod.mk.injEq] at hx1
  obtain⟨rfl,rfl⟩:=hx1
  refine returnsInHanded_of_row (C:=Tryz.checked) (s:=OpenSpec.ofChange Rows.assertionOnceSpec) own started (by kernel_rfl) Tryz.func8
    (witness_row_atRef (enc:=enc) (C:=Tryz.checked) false (laidWorld os) wit rfl (by kernel_rfl) (by kernel_rfl) (by kernel_rfl)
      (OpenSpec.preRow_of_cond 8 hx (by kernel_rfl) (fun k hk=>by cases hk) (by kernel_rfl) (laid_met os _))) ?_
  intro W base args ds gs before hval hW _ _ _ hL hS _
  exact contract H enc W base args ds gs before hval hW hL hS
set_option maxHeartbeats 40000000 in
theorem closed:joinedFacts Tryz.pinned.checked.prog 8 Tryz.f8 (OpenSpec.ofChange Rows.assertionOnceSpec).bare Rows.assertionOnceRow=true:=by
  unfold joinedFacts
  simp only[Bool.and_eq_true]
  repeat' apply And.intro
  all_goals (as_aux_lemma=>kernel_rfl)
theorem hfn:Tryz.pinned.checked.prog.funcNamed Rows.assertionOnceRow.func=some 8:=by kernel_rfl
theorem hinst:Tryz.f8.isInstance Tryz.pinned.checked.prog Rows.assertionOnceRow.origin Rows.assertionOnceRow.targs:=of_decide_eq_true (by kernel_rfl)
theorem hwrap:Tryz.f8.isWrapper Tryz.pinned.checked.prog Rows.assertionOnceRow.wrapper Rows.assertionOnceRow.mainSum:=by
  unfold Func.isWrapper;first|(rw[if_pos (by decide +kernel)];kernel_rfl)|(rw[if_neg (by decide +kernel)];exact⟨rfl,rfl⟩)
theorem La (os:Os)(started:os.Started)(H:Type)(enc:TypeId × Value→H)(_:∀a b,enc a=enc b→a=b)(F:Stop.Interp):
    ReturnsInHanded Rows.assertionOnceRow.assume Tryz.pinned.checked os 8 .any (Rows.assertionOnceRow.pre enc Tryz.pinned.checked.prog Tryz.f8 (OpenSpec.ofChange Rows.assertionOnceSpec)) (((OpenSpec.ofChange Rows.assertionOnceSpec).at F).post enc Tryz.pinned.checked.prog Tryz.f8 Rows.assertionOnceRow.apart Rows.assertionOnceRow.fresh Rows.assertionOnceRow.handsOn Rows.assertionOnceRow.again):=by
  rw[OpenClaim.pre_eq_preRow];exact lifted os started H enc F
theorem said:Rows.AssertionOnceSaid:=
  OpenClaim.holds_of_cond 8 Tryz.f8 rfl rfl rfl rfl rfl rfl rfl ⟨rfl,rfl,rfl,rfl,rfl⟩ rfl rfl rfl rfl rfl hfn Tryz.func8 closed hinst hwrap La
theorem plain (f:FuncId)(fn:Func)(hf:Tryz.pinned.checked.prog.funcNamed Rows.assertionOnceRow.func=some f)(hfn:Tryz.pinned.checked.prog.funcs[f]?=some fn):
    true=Tryz.pinned.checked.prog.looks []∧∀(j:Nat) t,fn.params[j]?=some t→Tryz.pinned.checked.prog.wantsStandIn t=false:=by
  obtain rfl:f=8:=Option.some.inj ((show Tryz.prog.funcNamed Rows.assertionOnceRow.func=some 8 by kernel_rfl).symm.trans hf) |>.symm
  obtain rfl:fn=Tryz.f8:=(Option.some.inj (Tryz.func8.symm.trans hfn)).symm
  refine⟨by kernel_rfl,fun j t ht=>?_⟩
  have hall:(Tryz.f8.params.toList.all fun t=>Tryz.prog.wantsStandIn t == false)=true:=by kernel_rfl
  exact eq_of_beq (List.all_eq_true.1 hall t (by simpa using Array.mem_of_getElem? ht))
theorem card:Rows.AssertionOnceCardSaid:=
  Claim7.holds_tied_plain_at .later [] _ _ _ _ said (fun _ h=>by cases h) (by kernel_rfl) (fun _ h=>by cases h) assertionOnce_row_tie rfl ⟨rfl,rfl⟩ (by kernel_rfl) rfl plain (by kernel_rfl)
end Go.Proofs.YtekopfoidhhedaaGreatDoor.RwOnce
#print axioms Go.Proofs.YtekopfoidhhedaaGreatDoor.RwOnce.card
