import Derived.Test.YtekopfoidhhedaaGreatDoorG36
import Derived.Test.YtekopfoidhhedaaGreatDoorG31
import Derived.Test.YtekopfoidhhedaaGreatDoorG38
import Derived.Test.YtekopfoidhhedaaGreatDoorG13
import Derived.ChangeMaps5
set_option linter.unusedVariables false
set_option linter.unusedSimpArgs false
set_option maxRecDepth 10000
namespace Go.Proofs
open Go Go.Id
theorem ac_ (self:List UInt8)(skew:Int)(l:List lJ)(nl:Bool)(hnl:nl=true→l=[])(hb:∀o∈l,o.a.big):ay Pr 5 [.str self,.int .i64 skew,.slice 16 nl (l.map lJ.cs) none] (.bool true):=by
  refine ay.adS (fun _ _ _ _ _ _ h=>by cases h;exact .bool _) (fun W vs hl hr=>?_) (dH Tryz.func5 (by kernel_rfl) (by kernel_rfl))
  match vs,hl with
  | [v0,v1,v2],_=>
    refine aF.vals (Zz W v2 self skew l nl hnl hb (hr 2 _ _ rfl rfl)) rfl (fun i d d' h1 h2=>?_)
    match i,h1,h2 with
    | 0,h1,h2=>cases h1;cases h2;exact .inr ⟨_,rfl,hr 0 _ _ rfl rfl⟩
    | 1,h1,h2=>cases h1;cases h2;exact .inr ⟨_,rfl,hr 1 _ _ rfl rfl⟩
    | 2,h1,h2=>cases h1;cases h2;exact .inl rfl
    |i+3,h1,h2=>simp at h1
end Go.Proofs
set_option maxRecDepth 100000
namespace Go.Proofs.YtekopfoidhhedaaGreatDoor.RwPlays
open Go Go.Id Go.Proofs Go.ChangeShapes Go.ChangeMaps Go.WideShapes Go.ChangeAt Go.RowKit Go.Proofs.YtekopfoidhhedaaGreatDoor.Rw
theorem contract (H:Type)(enc:TypeId × Value→H)(W:World)(base:Nat)(args:Array Value)(ds gs:List (DataW H))(before:List MemPlace)
    (hval:∀(j:Nat) t v,Tryz.f5.params[j]?=some t→args[j]?=some v→Value.okWide Tryz.prog W .any base t v)
    (hW:DataW.Whole enc Tryz.prog Tryz.f5.params.toList Rows.assertionPlaysSpec.vars false W args.toList ds gs before) (hL:laidMetH Tryz.prog MB W) (hS:W.ShapedOpen Tryz.prog):
    Calls Tryz.prog 5 args W fun e W'=>∃v,e= .returned v∧Rows.assertionPlaysSpec.post enc Tryz.prog Tryz.f5 false true false false W args v W':=by
  have hW':=hW
  obtain⟨p,q,hA0,hV,rfl,hfz,hnd⟩:=hW
  have hA:DataW.TrodAll enc Tryz.prog W 0 (fun _=>true) true Tryz.f5.params.toList args.toList ds p:=hA0
  rw[Tryz.params5] at hA hval
  obtain⟨al⟩:=args
  dsimp only at hA
  obtain⟨v0,_,d0,_,p_0,_,rfl,rfl,rfl,h0,hA⟩:=trodAll_cons hA
  obtain⟨v1,_,d1,_,p_1,_,rfl,rfl,rfl,h1,hA⟩:=trodAll_cons hA
  obtain⟨v2,_,d2,_,p_2,_,rfl,rfl,rfl,h2,hA⟩:=trodAll_cons hA
  obtain⟨rfl,rfl,rfl⟩:=trodAll_nil hA
  obtain⟨rfl,rfl⟩:=trodVars_none hV
  obtain⟨s0,r0⟩:=arg_str (hval 0 9 v0 rfl rfl) h0
  obtain⟨n1,r1⟩:=ajw (hval 1 3 v1 rfl rfl) h1
  obtain⟨l2,nl2,aft,hb2,r2⟩:=ajx (hval 2 39 v2 rfl rfl) h2
  refine (ay.run (ac_ s0 n1 l2 nl2 aft hb2) W (ahB hL hS) (ahC hS) [v0,v1,v2] rfl (Rw.akl r0 (Rw.akl r1 (Rw.one r2)))).mono ?_
  rintro e W' ⟨v,rfl,hr,hb⟩
  cases hr
  exact⟨_,rfl,ag0 hW' rfl hb (of_decide_eq_true (by kernel_rfl)) (by kernel_rfl) rfl rfl rfl⟩
abbrev wit:Array Value:=#[.string ⟨#[]⟩,.int .i64 0,.slice none 0 0]
theorem reads (os:Os){H:Type}(enc:TypeId × Value→H):(DataW.whole enc Tryz.prog (ad6 os wit) Tryz.f5.params.toList Rows.assertionPlaysSpec.vars false wit.toList 8).map (fun x=>(x.1,x.2.1))=some ([.lit (.string []),.lit (.int .i64 0),.nil],[]):=by kernel_rfl
theorem lifted (os:Os)(started:os.Started)(H:Type)(enc:TypeId × Value→H)(F:Stop.Interp):
    ReturnsInHanded {} Tryz.checked os 5 .any ((OpenSpec.ofChange Rows.assertionPlaysSpec).preRow enc Tryz.prog Tryz.f5 Rows.assertionPlaysRow.domain false Rows.assertionPlaysRow.laid) (((OpenSpec.ofChange Rows.assertionPlaysSpec).at F).post enc Tryz.prog Tryz.f5 false true false false):=by
  obtain⟨⟨x1,x2,x3⟩,hx,hx1⟩:=abR.1 (reads os enc)
  simp only[apM] at hx1
  obtain⟨rfl,rfl⟩:=hx1
  refine returnsInHanded_of_row (C:=Tryz.checked) (s:=OpenSpec.ofChange Rows.assertionPlaysSpec) own started (by kernel_rfl) Tryz.func5
    (witness_row_atRef (enc:=enc) (C:=Tryz.checked) false (laidWorld os) wit rfl (by kernel_rfl) (by kernel_rfl) (by kernel_rfl)
      (OpenSpec.preRow_of_cond 8 hx (by kernel_rfl) (fun k hk=>by cases hk) (by kernel_rfl) (laid_met os _))) ?_
  intro W base args ds gs before hval hW _ _ _ hL hS _
  exact contract H enc W base args ds gs before hval hW hL hS
set_option maxHeartbeats 40000000 in
theorem closed:joinedFacts Tryz.pinned.checked.prog 5 Tryz.f5 (OpenSpec.ofChange Rows.assertionPlaysSpec).bare Rows.assertionPlaysRow=true:=by
  unfold joinedFacts
  simp only[ait]
  repeat' apply And.intro
  all_goals (as_aux_lemma=>kernel_rfl)
theorem hfn:Tryz.pinned.checked.prog.funcNamed Rows.assertionPlaysRow.func=some 5:=by kernel_rfl
theorem hinst:Tryz.f5.isInstance Tryz.pinned.checked.prog Rows.assertionPlaysRow.origin Rows.assertionPlaysRow.targs:=of_decide_eq_true (by kernel_rfl)
theorem hwrap:Tryz.f5.isWrapper Tryz.pinned.checked.prog Rows.assertionPlaysRow.wrapper Rows.assertionPlaysRow.mainSum:=by
  unfold Func.isWrapper;first|(rw[if_pos (by decide +kernel)];kernel_rfl)|(rw[if_neg (by decide +kernel)];exact⟨rfl,rfl⟩)
theorem aor (os:Os)(started:os.Started)(H:Type)(enc:TypeId × Value→H)(_:∀a b,enc a=enc b→a=b)(F:Stop.Interp):
    ReturnsInHanded Rows.assertionPlaysRow.assume Tryz.pinned.checked os 5 .any (Rows.assertionPlaysRow.pre enc Tryz.pinned.checked.prog Tryz.f5 (OpenSpec.ofChange Rows.assertionPlaysSpec)) (((OpenSpec.ofChange Rows.assertionPlaysSpec).at F).post enc Tryz.pinned.checked.prog Tryz.f5 Rows.assertionPlaysRow.apart Rows.assertionPlaysRow.fresh Rows.assertionPlaysRow.handsOn Rows.assertionPlaysRow.again):=by
  rw[OpenClaim.pre_eq_preRow];exact lifted os started H enc F
theorem said:Rows.AssertionPlaysSaid:=
  OpenClaim.holds_of_cond 5 Tryz.f5 rfl rfl rfl rfl rfl rfl rfl ⟨rfl,rfl,rfl,rfl,rfl⟩ rfl rfl rfl rfl rfl hfn Tryz.func5 closed hinst hwrap aor
theorem plain (f:FuncId)(fn:Func)(hf:Tryz.pinned.checked.prog.funcNamed Rows.assertionPlaysRow.func=some f)(hfn:Tryz.pinned.checked.prog.funcs[f]?=some fn):
    true=Tryz.pinned.checked.prog.looks []∧∀(j:Nat) t,fn.params[j]?=some t→Tryz.pinned.checked.prog.wantsStandIn t=false:=by
  obtain rfl:f=5:=al6 ((show Tryz.prog.funcNamed Rows.assertionPlaysRow.func=some 5 by kernel_rfl).symm.trans hf) |>.symm
  obtain rfl:fn=Tryz.f5:=(al6 (Tryz.func5.symm.trans hfn)).symm
  refine⟨by kernel_rfl,fun j t ht=>?_⟩
  have hall:(Tryz.f5.params.toList.all fun t=>Tryz.prog.wantsStandIn t == false)=true:=by kernel_rfl
  exact eq_of_beq (ami.1 hall t (by simpa using ajY ht))
theorem card:Rows.AssertionPlaysCardSaid:=
  Claim7.holds_tied_plain_at .later [] _ _ _ _ said (fun _ h=>by cases h) (by kernel_rfl) (fun _ h=>by cases h) assertionPlays_row_tie rfl ⟨rfl,rfl⟩ (by kernel_rfl) rfl plain (by kernel_rfl)
end Go.Proofs.YtekopfoidhhedaaGreatDoor.RwPlays
#print axioms Go.Proofs.YtekopfoidhhedaaGreatDoor.RwPlays.card
