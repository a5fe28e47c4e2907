import Derived.Test.YtekopfoidhhedaaGreatDoorG04
import Derived.Test.YtekopfoidhhedaaGreatDoorCards
import Derived.Test.YtekopfoidhhedaaGreatDoorTie
import Derived.WalkKit
import Derived.ProofKit
import Derived.OpenShut
import Derived.Deep.DeepHandedRow
import Derived.Deep.DeepWitnessRowRef
import Derived.Lib.LaidTab
import Derived.Lib.LaidU8
import Derived.Lib.LaidIn
import Derived.LaidMore
import Derived.Stop.LaidErr
import Derived.Shelf.Vars
set_option linter.unusedVariables false
set_option linter.unusedSimpArgs false
set_option linter.unnecessarySimpa false
set_option maxRecDepth 100000
namespace Go.Proofs.YtekopfoidhhedaaGreatDoor.Rw
open Go Go.Id Go.Proofs Go.ChangeShapes Go.WideShapes Go.ChangeAt Go.RowKit
theorem own:ownKnob Tryz.prog.godebug=none:=by kernel_rfl
abbrev zq:List (String × DataW Unit):=Rows.assertionEncodesRow.laid
theorem aiZ:Tryz.prog.globalNamed "strconv.ErrSyntax" = some 5:=by kernel_rfl
theorem ai0:Tryz.prog.globalNamed "strconv.ErrRange" = some 6:=by kernel_rfl
theorem ai1:(Tryz.prog.globals[5]?).map (·.type)=some 146:=by kernel_rfl
theorem ai2:(Tryz.prog.globals[6]?).map (·.type)=some 146:=by kernel_rfl
theorem ai3:(Tryz.prog.globals[2]?).map (·.type)=some 263:=by kernel_rfl
theorem ai4:(Tryz.prog.globals[0]?).map (·.type)=some 226:=by kernel_rfl
noncomputable def laidWorld (os:Os):World:=
 { World.doorLaid Tryz.prog 72 os with heap:=(World.doorLaid Tryz.prog 72 os).heap.modify 3 fun
   | .cells _ t frozen=> .cells (Lib.firstTab.map fun z=>Value.int .u8 z).toArray t frozen
   |o=>o }
noncomputable abbrev RS (os:Os) (args:Array Value):World:=((laidWorld os).forCall (fun _ _=>0) ⟨#[],args,[]⟩).memory
theorem ak9 (os:Os)(args:Array Value):(DataW.laidRun Tryz.prog (RS os args) 8 (zq.map (·.1))).map (·.1)=some zq:=by kernel_rfl
theorem ak_ (os:Os)(args:Array Value):(DataW.laidRun Tryz.prog (RS os args) 8 (zq.map (·.1))).map (fun x=>decide x.2.Nodup && laidRowsB Tryz.prog (RS os args) x.2)=some true:=by kernel_rfl
theorem laid_met (os:Os)(args:Array Value):laidMet Tryz.prog zq (RS os args):=laidMet_of_run' 8 (ak9 os args) (ak_ os args)
theorem aaA (u:TypeId)(h:Tryz.prog.typeName? 3 u=some "*errors.errorString"):u=289:=
 typeName_ptr_named (nm:= "errors.errorString") (by kernel_rfl) (by kernel_rfl) (by decide) u h
theorem Hu {W:World}(hL:laidMetH Tryz.prog zq W)(hS:W.ShapedOpen Tryz.prog):aau W:=by
 have hM:laidMet Tryz.prog zq W:=hL
 have hP:=hM.tail.tail
 have hR:=hM.tail.tail.tail.tail
 have hY:=hM.tail.tail.tail.tail.tail
 have hD:=hM.tail.tail.tail.tail.tail.tail
 refine⟨cell_of_shapedOpen_int (t:=3) (zero:=#[.int .i64 0]) hS (of_decide_eq_true (by kernel_rfl)) (by kernel_rfl) rfl (by kernel_rfl) (by kernel_rfl) (by kernel_rfl),
  Lib.tabIs_of_head II ai3 (n:=20) (e:=184) (by kernel_rfl) (by kernel_rfl) (by kernel_rfl) (by kernel_rfl) hP,?_,?_,
  Lib.tabIs_of_head vO ai4 (n:=16) (e:=5) (by kernel_rfl) (by kernel_rfl) (by kernel_rfl) (by kernel_rfl) hD⟩
 ·obtain⟨a,s,hv,_⟩:=laid_sentinel hY aiZ ai1 Tryz.underlying146 aaA Tryz.underlying289 Tryz.underlying291 rfl rfl Tryz.underlying9 (by kernel_rfl) (by kernel_rfl)
  exact⟨289,_,by simpa using World.var?_cell aiZ hv 0⟩
 ·obtain⟨a,s,hv,_⟩:=laid_sentinel hR ai0 ai2 Tryz.underlying146 aaA Tryz.underlying289 Tryz.underlying291 rfl rfl Tryz.underlying9 (by kernel_rfl) (by kernel_rfl)
  exact⟨289,_,by simpa using World.var?_cell ai0 hv 0⟩
theorem ak':((((begin Tryz.prog (fun _ _=>0) default).world.heap[7]?).bind Obj.row?).isSome)=true:=by kernel_rfl
theorem Hw {W:World}(hS:W.ShapedOpen Tryz.prog):8≤W.heap.size:=by
 obtain⟨x,hx⟩:=Option.isSome_iff_exists.1 ak'
 obtain⟨cs,h,_⟩:=hS.1 7 x.1 x.2 (of_decide_eq_true (by kernel_rfl)) hx
 have:=(Array.getElem?_eq_some_iff.1 h).1
 omega
end Go.Proofs.YtekopfoidhhedaaGreatDoor.Rw
namespace Go.Proofs.YtekopfoidhhedaaGreatDoor.Rw
open Go Go.Id Go.Proofs Go.ChangeShapes Go.WideShapes Go.ChangeAt Go.RowKit
section
variable {H:Type} {enc:TypeId × Value→H} {P:Program}
theorem Yv {f:Func}{s:ChangeSpec}{apart again:Bool}{W W':World}{args:Array Value}{ds gs:List (DataW H)}{before:List MemPlace}
  (hW:DataW.Whole enc P f.params.toList s.vars apart W args.toList ds gs before) (hv:s.vars=[]) (hb:Below W.heap.size W W')
  (hr:f.resultTypes=#[4]) (h4:P.underlying 4=some .bool) (hres:(s.fn H (ds++gs)).results=[.lit (.bool true)]) (hargs:(s.fn H (ds++gs)).args=ds) (hvars:(s.fn H (ds++gs)).vars=[])
  (hT:∀sp:Nat→Bool,(∀x∈before,sp x.block=true)→DataW.TrodAll enc P W' 0 sp true f.params.toList args.toList ds before):
  s.post enc P f apart true false again W args (.bool true) W':=by
 have hW':=hW
 obtain⟨p,q,hA,hV,rfl,hz,hn⟩:=hW
 rw[hv] at hV
 have hlt:=hW'.lt
 cases gs with
 |cons g gs=>exact hV.elim
 |nil=>
  have hq:q=[]:=hV
  subst hq
  rw[List.append_nil] at hz hn hlt hW'
  rw[List.append_nil] at hT
  have hR:∀(b:Nat) (sp:Nat→Bool) (hd:Bool),DataW.TrodAll enc P W' b sp hd f.resultTypes.toList ((Value.bool true).resultList f.resultTypes.size) (s.fn H (ds++[])).results []:=by
   intro b sp hd
   rw[hres,hr]
   exact trodAll_cons_mk (shut_bool h4 _) trodAll_mk0
  refine⟨ds,[],p,[],p,[],hW',hR _ _ _,by rw[hargs];exact hT _ (fun x hx=>by simpa using hlt x hx),by rw[hvars,hv];rfl,hb.frame _,fun _=>?_⟩
  refine⟨ok_one hr rfl (okWide_bool_mk h4 _),_,_,([]++p)++[],⟨[]++p,[],trodAll_append (hT _ (fun _ _=>rfl)) (hR _ _ _),by rw[hv];exact (show DataW.TrodVars enc P W' (fun _=>true) [] ([]:List (DataW H)) [] from rfl),rfl,?_,?_⟩,?_⟩
  ·intro b off hp
   simp only[List.nil_append,List.append_nil] at hp
   rw[hb.frozen (hlt _ hp)]
   exact hz b off hp
  ·intro ha
   simpa using hn ha
  ·intro x hx _
   simpa using hx
end
end Go.Proofs.YtekopfoidhhedaaGreatDoor.Rw
set_option maxRecDepth 10000
namespace Go.Proofs
open Go Go.Id
theorem WT (n:Int):ak Pr 177 [.int .u8 n] (.bool (upperB n)):=by
 refine ak.W Tryz.func177 Tryz.ntmps177 ?_
 simp only[ay]
 refine WP.S [0,2] fun _ z=>?_;simp +decide only[TF,↓reduceIte];apply z;clear z
 refine WP.S [0,2] fun _ z=>?_
 refine ah.take 3 fun J hJ=>?_
 simp +decide only[TF,↓reduceIte]
 refine hJ _ _ ?_;clear hJ J
 refine ah.part 5 rfl (fun q1=>?_) (fun q1=>?_)
 ·simp +decide only[TF,q1,↓reduceIte]
  apply z;clear z
  apply WP.ret
  exact Ends.P rfl (Le.of_eq (by simp +decide only[St.get,W,upperB,q1,↓reduceIte]))
 simp +decide only[TF,q1,↓reduceIte]
 apply z;clear z
 apply WP.ret
 exact Ends.P rfl (Le.of_eq (by simp +decide only[St.get,W,upperB,q1,↓reduceIte]))
theorem Jy (n:Int):ak Pr 175 [.int .u8 n] (.bool (b_ n)):=by
 refine ak.W Tryz.func175 Tryz.ntmps175 ?_
 simp only[ay]
 refine WP.S [0,2] fun _ z=>?_;simp +decide only[TF,↓reduceIte];apply z;clear z
 refine WP.S [0,2] fun _ z=>?_
 simp +decide only[TF,↓reduceIte]
 refine aj.P (WT _) rfl rfl ?_
 refine ah.take 1 fun J hJ=>?_
 simp +decide only[TF,↓reduceIte]
 refine hJ _ _ ?_;clear hJ J
 refine ah.part 5 rfl (fun q1=>?_) (fun q1=>?_)
 ·simp +decide only[TF,q1,↓reduceIte]
  apply z;clear z
  apply WP.ret
  exact Ends.P rfl (Le.of_eq (by simp +decide only[St.get,W,b_,q1,↓reduceIte]))
 refine ah.take 3 fun J hJ=>?_
 simp +decide only[TF,q1,↓reduceIte]
 refine hJ _ _ ?_;clear hJ J
 refine ah.part 8 rfl (fun q2=>?_) (fun q2=>?_)
 ·simp +decide only[TF,q2,↓reduceIte]
  apply z;clear z
  apply WP.ret
  exact Ends.P rfl (Le.of_eq (by simp +decide only[St.get,W,b_,q1,q2,↓reduceIte]))
 simp +decide only[TF,q2,↓reduceIte]
 apply z;clear z
 apply WP.ret
 exact Ends.P rfl (Le.of_eq (by simp +decide only[St.get,W,b_,q1,q2,↓reduceIte]))
theorem WU (n:Int):ak Pr 176 [.int .u8 n] (.bool (iH n)):=by
 refine ak.W Tryz.func176 Tryz.ntmps176 ?_
 simp only[ay]
 refine WP.S [0,2] fun _ z=>?_;simp +decide only[TF,↓reduceIte];apply z;clear z
 refine WP.S [0,2] fun _ z=>?_
 refine ah.take 3 fun J hJ=>?_
 simp +decide only[TF,↓reduceIte]
 refine hJ _ _ ?_;clear hJ J
 refine ah.part 5 rfl (fun q1=>?_) (fun q1=>?_)
 ·simp +decide only[TF,q1,↓reduceIte]
  apply z;clear z
  apply WP.ret
  exact Ends.P rfl (Le.of_eq (by simp +decide only[St.get,W,iH,q1,↓reduceIte]))
 simp +decide only[TF,q1,↓reduceIte]
 apply z;clear z
 apply WP.ret
 exact Ends.P rfl (Le.of_eq (by simp +decide only[St.get,W,iH,q1,↓reduceIte]))
theorem adQ (n:Int):ak Pr 206 [.int .u8 n] (.bool (dO n)):=by
 refine ak.W Tryz.func206 Tryz.ntmps206 ?_
 simp only[ay]
 refine WP.S [0,2] fun _ z=>?_;simp +decide only[TF,↓reduceIte];apply z;clear z
 refine WP.S [0,2] fun _ z=>?_
 simp +decide only[TF,↓reduceIte]
 refine aj.P (Jy _) rfl rfl ?_
 refine ah.take 1 fun J hJ=>?_
 simp +decide only[TF,↓reduceIte]
 refine hJ _ _ ?_;clear hJ J
 refine ah.part 5 rfl (fun q1=>?_) (fun q1=>?_)
 ·simp +decide only[TF,q1,↓reduceIte]
  apply z;clear z
  apply WP.ret
  exact Ends.P rfl (Le.of_eq (by simp +decide only[St.get,W,dO,q1,↓reduceIte]))
 simp +decide only[TF,q1,↓reduceIte]
 refine aj.P (WU _) rfl rfl ?_
 refine ah.take 2 fun J hJ=>?_
 simp +decide only[TF,↓reduceIte]
 refine hJ _ _ ?_;clear hJ J
 refine ah.part 9 rfl (fun q2=>?_) (fun q2=>?_)
 ·simp +decide only[TF,q2,↓reduceIte]
  apply z;clear z
  apply WP.ret
  exact Ends.P rfl (Le.of_eq (by simp +decide only[St.get,W,dO,q1,q2,↓reduceIte]))
 refine ah.take 4 fun J hJ=>?_
 simp +decide only[TF,q2,↓reduceIte]
 refine hJ _ _ ?_;clear hJ J
 refine ah.part 13 rfl (fun q3=>?_) (fun q3=>?_)
 ·simp +decide only[TF,q3,↓reduceIte]
  apply z;clear z
  apply WP.ret
  exact Ends.P rfl (Le.of_eq (by simp +decide only[St.get,W,dO,q1,q2,q3,↓reduceIte]))
 refine ah.take 4 fun J hJ=>?_
 simp +decide only[TF,q3,↓reduceIte]
 refine hJ _ _ ?_;clear hJ J
 refine ah.part 17 rfl (fun q4=>?_) (fun q4=>?_)
 ·simp +decide only[TF,q4,↓reduceIte]
  apply z;clear z
  apply WP.ret
  exact Ends.P rfl (Le.of_eq (by simp +decide only[St.get,W,dO,q1,q2,q3,q4,↓reduceIte]))
 refine ah.take 4 fun J hJ=>?_
 simp +decide only[TF,q4,↓reduceIte]
 refine hJ _ _ ?_;clear hJ J
 refine ah.part 21 rfl (fun q5=>?_) (fun q5=>?_)
 ·simp +decide only[TF,q5,↓reduceIte]
  apply z;clear z
  apply WP.ret
  exact Ends.P rfl (Le.of_eq (by simp +decide only[St.get,W,dO,q1,q2,q3,q4,q5,↓reduceIte]))
 simp +decide only[TF,q5,↓reduceIte]
 apply z;clear z
 apply WP.ret
 exact Ends.P rfl (Le.of_eq (by simp +decide only[St.get,W,dO,q1,q2,q3,q4,q5,↓reduceIte]))
abbrev lC:List Nat:=[0,1,4,5,7,8,9,16]
theorem RU (s:List UInt8)(hs:s.length≤140737488355328):ak Pr 173 [.str s,.fn (.func 206) [] []] (.bool (aX s)):=by
 refine ak.W Tryz.func173 Tryz.ntmps173 ?_
 simp only[ay,Nat.zero_add]
 iterate 2 first|(refine WP.S lC fun _ z=>?_;simp +decide only[TF,↓reduceIte];apply z;clear z)|apply WP.seq
 refine WP.S [0,1,7,8] fun _ z=>?_;simp +decide only[TF,↓reduceIte];apply z;clear z
 apply WP.block
 refine WP.lp [0,1,7] (X:={k:Nat // k≤s.length∧aX s=((s.drop k).all (fun c=>dO c.toNat) && !(s == []) && decide ((s.length:Int)≤64))}) (fun x=>match x with| ⟨(k),_⟩=>[(8,.int .i64 k)]) (fun x=>match x with| ⟨(k),_⟩=>[]) (fun x=>match x with| ⟨(k),_⟩=>s.length - k) (by simp +decide only[W,↓reduceIte];rfl) ?_ ⟨(0),⟨Nat.zero_le _,by simp[aX]⟩⟩ ?_
 rotate_left
 ·exact Weak.nil (by simp[St.get,lk,W,Le.refl,W]) (by simp[W])
 rintro ⟨k,hk,hI⟩
 dsimp only
 simp only[List.cons_append,List.nil_append]
 iterate 2 first|(refine WP.S lC fun _ z=>?_;simp +decide only[TF,↓reduceIte];apply z;clear z)|apply WP.seq
 refine WP.cond rfl (fun q1=>?_) (fun q1=>?_)
 ·have hlt:=aK q1
  have hg:=j_ hlt
  rw[dI hlt] at hI
  simp only[List.all_cons] at hI
  iterate 4 first|(refine WP.S lC fun _ z=>?_;simp +decide only[TF,q1,↓reduceIte];apply z;clear z)|(apply WP.skip;show WP ..)|apply WP.block|apply WP.seq
  refine WP.S lC fun _ z=>?_
  simp +decide only[TF,hg,↓reduceIte]
  refine aj.P (adQ _) rfl rfl ?_
  simp +decide only[TF,↓reduceIte]
  apply z;clear z
  refine WP.cond rfl (fun q2=>?_) (fun q2=>?_)
  ·simp only[Bool.not_eq_true'] at q2
   refine WP.S lC fun _ z=>?_;simp +decide only[TF,q2,↓reduceIte];apply z;clear z
   apply WP.ret
   exact Ends.P rfl (Le.of_eq (by simp_all[St.get,W,aX]))
  simp only[Bool.not_eq_false'] at q2
  iterate 2 first|(refine WP.R fun _ z=>?_;simp +decide only[TF,q2,↓reduceIte];apply z;clear z)|(apply WP.skip;show WP ..)
  show ∃y,_∧Weak _ _ _
  refine⟨⟨k+1,?_⟩,?_,Weak.nil ?_ ?_⟩
  ·exact⟨by omega,by first|(simpa [q1,hg,q2] using hI)|(simp_all;done)⟩
  ·dsimp only;omega
  ·simp[St.get,lk,Le.refl,aT hlt hs]
  simp[W]
 have hge:=aN q1
 rw[eP hge] at hI
 simp only[List.all_nil,Bool.true_and] at hI
 apply WP.exit;show WP ..
 refine WP.S lC fun _ z=>?_
 refine ah.take 3 fun J hJ=>?_
 simp +decide only[TF,q1,↓reduceIte]
 refine hJ _ _ ?_;clear hJ J
 refine ah.part 20 rfl (fun q3=>?_) (fun q3=>?_)
 ·simp +decide only[TF,q3,↓reduceIte]
  apply z;clear z
  apply WP.ret
  exact Ends.P rfl (Le.of_eq (by simp_all[St.get,W,aX]))
 simp +decide only[TF,q3,↓reduceIte]
 apply z;clear z
 apply WP.ret
 exact Ends.P rfl (Le.of_eq (by simp +decide only[St.get,W,aX,q3,↓reduceIte]))
theorem Px (s:List UInt8)(hs:s.length≤140737488355328):ak Pr 145 [.str s] (.bool (aX s)):=by
 refine ak.W Tryz.func145 Tryz.ntmps145 ?_
 simp only[ay]
 refine WP.S [0,2] fun _ z=>?_;simp +decide only[TF,↓reduceIte];apply z;clear z
 refine WP.S [0,2] fun _ z=>?_
 simp +decide only[TF,↓reduceIte]
 refine aj.P (RU _ (by assumption)) rfl rfl ?_
 simp +decide only[TF,↓reduceIte]
 apply z;clear z
 apply WP.ret
 exact Ends.P rfl (Le.of_eq (by simp +decide only[St.get,W,↓reduceIte]))
theorem zH (n:Int):ak Pr 114 [.int .u8 n] (.bool (b_ n)):=by
 refine ak.W Tryz.func114 Tryz.ntmps114 ?_
 simp only[ay]
 refine WP.S [0,2] fun _ z=>?_;simp +decide only[TF,↓reduceIte];apply z;clear z
 refine WP.S [0,2] fun _ z=>?_
 refine ah.take 3 fun J hJ=>?_
 simp +decide only[TF,↓reduceIte]
 refine hJ _ _ ?_;clear hJ J
 refine ah.part 5 rfl (fun q1=>?_) (fun q1=>?_)
 ·refine ah.take 4 fun J hJ=>?_
  simp +decide only[TF,q1,↓reduceIte]
  refine hJ _ _ ?_;clear hJ J
  refine ah.part 9 rfl (fun q2=>?_) (fun q2=>?_)
  ·simp +decide only[TF,q2,↓reduceIte]
   apply z;clear z
   apply WP.ret
   exact Ends.P rfl (Le.of_eq (by simp +decide only[St.get,W,b_,upperB,q1,q2,↓reduceIte]))
  refine ah.take 3 fun J hJ=>?_
  simp +decide only[TF,q2,↓reduceIte]
  refine hJ _ _ ?_;clear hJ J
  refine ah.part 12 rfl (fun q3=>?_) (fun q3=>?_)
  ·simp +decide only[TF,q3,↓reduceIte]
   apply z;clear z
   apply WP.ret
   exact Ends.P rfl (Le.of_eq (by simp +decide only[St.get,W,b_,upperB,q1,q2,q3,↓reduceIte]))
  simp +decide only[TF,q3,↓reduceIte]
  apply z;clear z
  apply WP.ret
  exact Ends.P rfl (Le.of_eq (by simp +decide only[St.get,W,b_,upperB,q1,q2,q3,↓reduceIte]))
 refine ah.take 7 fun J hJ=>?_
 simp +decide only[TF,q1,↓reduceIte]
 refine hJ _ _ ?_;clear hJ J
 refine ah.part 12 rfl (fun q4=>?_) (fun q4=>?_)
 ·simp +decide only[TF,q4,↓reduceIte]
  apply z;clear z
  apply WP.ret
  exact Ends.P rfl (Le.of_eq (by simp +decide only[St.get,W,b_,upperB,q1,q4,↓reduceIte]))
 simp +decide only[TF,q4,↓reduceIte]
 apply z;clear z
 apply WP.ret
 exact Ends.P rfl (Le.of_eq (by simp +decide only[St.get,W,b_,upperB,q1,q4,↓reduceIte]))
theorem NG (n:Int):ak Pr 115 [.int .u8 n] (.bool (iH n)):=by
 refine ak.W Tryz.func115 Tryz.ntmps115 ?_
 simp only[ay]
 refine WP.S [0,2] fun _ z=>?_;simp +decide only[TF,↓reduceIte];apply z;clear z
 refine WP.S [0,2] fun _ z=>?_
 refine ah.take 3 fun J hJ=>?_
 simp +decide only[TF,↓reduceIte]
 refine hJ _ _ ?_;clear hJ J
 refine ah.part 5 rfl (fun q1=>?_) (fun q1=>?_)
 ·simp +decide only[TF,q1,↓reduceIte]
  apply z;clear z
  apply WP.ret
  exact Ends.P rfl (Le.of_eq (by simp +decide only[St.get,W,iH,q1,↓reduceIte]))
 simp +decide only[TF,q1,↓reduceIte]
 apply z;clear z
 apply WP.ret
 exact Ends.P rfl (Le.of_eq (by simp +decide only[St.get,W,iH,q1,↓reduceIte]))
theorem wL (s:List UInt8)(hs:s.length≤140737488355328):ak Pr 59 [.str s] (.bool (aX s)):=by
 refine ak.W Tryz.func59 Tryz.ntmps59 ?_
 simp only[ay]
 iterate 2 first|(refine WP.S [0,2,3,7] fun _ z=>?_;simp +decide only[TF,↓reduceIte];apply z;clear z)|apply WP.seq
 refine WP.S [0,3] fun _ z=>?_;simp +decide only[TF,↓reduceIte];apply z;clear z
 apply WP.block
 refine WP.lp [0] (X:={k:Nat // k≤s.length∧aX s=((s.drop k).all (fun c=>dO c.toNat) && !(s == []) && decide ((s.length:Int)≤64))}) (fun x=>match x with| ⟨(k),_⟩=>[(3,.int .i64 k)]) (fun x=>match x with| ⟨(k),_⟩=>[]) (fun x=>match x with| ⟨(k),_⟩=>s.length - k) (by simp +decide only[W,↓reduceIte];rfl) ?_ ⟨(0),⟨Nat.zero_le _,by simp[aX]⟩⟩ ?_
 rotate_left
 ·exact Weak.nil (by simp[St.get,lk,W,Le.refl,W]) (by simp[W])
 rintro ⟨k,hk,hI⟩
 dsimp only
 simp only[List.cons_append,List.nil_append]
 iterate 2 first|(refine WP.S [0,2,3,7] fun _ z=>?_;simp +decide only[TF,↓reduceIte];apply z;clear z)|apply WP.seq
 refine WP.cond rfl (fun q1=>?_) (fun q1=>?_)
 ·have hlt:=aK q1
  have hg:=j_ hlt
  rw[dI hlt] at hI
  simp only[List.all_cons] at hI
  iterate 3 first|(apply WP.skip;show WP ..)|apply WP.block|apply WP.seq
  refine WP.sm [0,3] 45 (.bool (!(dO s[k].toNat))) (by kernel_rfl) (fun K hK=>?_) ?_
  ·simp +decide only[TF,q1,hg,↓reduceIte]
   refine aj.P (zH _) rfl rfl ?_
   refine ah.take 2 fun J hJ=>?_
   simp +decide only[TF,↓reduceIte]
   refine hJ _ _ ?_;clear hJ J
   refine ah.part 15 rfl (fun q2=>?_) (fun q2=>?_)
   ·simp only[Bool.not_eq_true'] at q2
    simp +decide only[TF,hg,q2,↓reduceIte]
    refine aj.P (NG _) rfl rfl ?_
    refine ah.take 3 fun J hJ=>?_
    simp +decide only[TF,↓reduceIte]
    refine hJ _ _ ?_;clear hJ J
    refine ah.part 22 rfl (fun q3=>?_) (fun q3=>?_)
    ·refine ah.take 6 fun J hJ=>?_
     simp +decide only[TF,hg,q3,↓reduceIte]
     refine hJ _ _ ?_;clear hJ J
     refine ah.part 28 rfl (fun q4=>?_) (fun q4=>?_)
     ·refine ah.take 6 fun J hJ=>?_
      simp +decide only[TF,hg,q4,↓reduceIte]
      refine hJ _ _ ?_;clear hJ J
      refine ah.part 34 rfl (fun q5=>?_) (fun q5=>?_)
      ·refine ah.take 6 fun J hJ=>?_
       simp +decide only[TF,hg,q5,↓reduceIte]
       refine hJ _ _ ?_;clear hJ J
       refine ah.part 40 rfl (fun q6=>?_) (fun q6=>?_)
       ·simp +decide only[TF,hg,q6,↓reduceIte]
        exact hK _ _ (by simp[St.get,lk,W]) rfl (Le.of_eq (by simp_all[St.get,lk,W,bne,dO]))
       simp +decide only[TF,q6,↓reduceIte]
       exact hK _ _ (by simp[St.get,lk,W]) rfl (Le.of_eq (by simp_all[St.get,lk,W,bne,dO]))
      simp +decide only[TF,q5,↓reduceIte]
      exact hK _ _ (by simp[St.get,lk,W]) rfl (Le.of_eq (by simp_all[St.get,lk,W,bne,dO]))
     simp +decide only[TF,q4,↓reduceIte]
     exact hK _ _ (by simp[St.get,lk,W]) rfl (Le.of_eq (by simp_all[St.get,lk,W,bne,dO]))
    simp +decide only[TF,q3,↓reduceIte]
    exact hK _ _ (by simp[St.get,lk,W]) rfl (Le.of_eq (by simp[St.get,lk,dO,q2,q3]))
   simp only[Bool.not_eq_false'] at q2
   simp +decide only[TF,q2,↓reduceIte]
   exact hK _ _ (by simp[St.get,lk,W]) rfl (Le.of_eq (by simp[St.get,lk,dO,q2]))
  refine WP.cond rfl (fun q7=>?_) (fun q7=>?_)
  ·refine WP.S [0,2,3,7] fun _ z=>?_;simp +decide only[TF,q1,q7,↓reduceIte];apply z;clear z
   apply WP.ret
   exact Ends.P rfl (Le.of_eq (by simp_all[St.get,W,aX]))
  iterate 2 first|(refine WP.R fun _ z=>?_;simp +decide only[TF,q1,q7,↓reduceIte];apply z;clear z)|(apply WP.skip;show WP ..)
  show ∃y,_∧Weak _ _ _
  refine⟨⟨k+1,?_⟩,?_,Weak.nil ?_ ?_⟩
  ·exact⟨by omega,by first|(simpa [q1,hg,q7] using hI)|(simp_all;done)⟩
  ·dsimp only;omega
  ·simp[St.get,lk,Le.refl,aT hlt hs]
  simp[W]
 have hge:=aN q1
 rw[eP hge] at hI
 simp only[List.all_nil,Bool.true_and] at hI
 apply WP.exit;show WP ..
 refine WP.S [0,2,3,7] fun _ z=>?_
 refine ah.take 4 fun J hJ=>?_
 simp +decide only[TF,q1,↓reduceIte]
 refine hJ _ _ ?_;clear hJ J
 refine ah.part 49 rfl (fun q8=>?_) (fun q8=>?_)
 ·simp +decide only[TF,q8,↓reduceIte]
  apply z;clear z
  apply WP.ret
  exact Ends.P rfl (Le.of_eq (by simp_all[St.get,W,LN,aX]))
 simp +decide only[TF,q8,↓reduceIte]
 apply z;clear z
 apply WP.ret
 exact Ends.P rfl (Le.of_eq (by simp_all[St.get,W,LN,aX]))
end Go.Proofs
