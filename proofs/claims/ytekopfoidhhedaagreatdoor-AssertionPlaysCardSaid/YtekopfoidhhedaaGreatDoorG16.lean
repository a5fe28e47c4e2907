import Derived.Test.YtekopfoidhhedaaGreatDoorG13
import Derived.Test.YtekopfoidhhedaaGreatDoorCards
import Derived.Test.YtekopfoidhhedaaGreatDoorTie
import Derived.WalkKit
import Derived.ProofKit
import Derived.OpenShut
import Derived.Deep.DeepHandedRow
import Derived.Deep.DeepWitnessRowRef
import Derived.Lib.LaidTab
import Derived.Lib.LaidU8
import Derived.Lib.LaidIn
import Derived.LaidMore
import Derived.Stop.LaidErr
import Derived.Shelf.Vars
import Derived.Test.YtekopfoidhhedaaGreatDoorG14
set_option linter.unusedVariables false
set_option linter.unusedSimpArgs false
set_option linter.unnecessarySimpa false
set_option maxRecDepth 100000
namespace Go.Proofs.YtekopfoidhhedaaGreatDoor.Rw
open Go Go.Id Go.Proofs Go.ChangeShapes Go.WideShapes Go.ChangeAt Go.RowKit
theorem own:ownKnob Tryz.prog.godebug=none:=by kernel_rfl
abbrev MB:List (String × DataW Unit):=Rows.assertionEncodesRow.laid
theorem amZ:Tryz.prog.globalNamed "strconv.ErrSyntax" = some 5:=by kernel_rfl
theorem am0:Tryz.prog.globalNamed "strconv.ErrRange" = some 6:=by kernel_rfl
theorem am1:(Tryz.prog.globals[5]?).map (·.type)=some 146:=by kernel_rfl
theorem am2:(Tryz.prog.globals[6]?).map (·.type)=some 146:=by kernel_rfl
theorem am3:(Tryz.prog.globals[2]?).map (·.type)=some 263:=by kernel_rfl
theorem am4:(Tryz.prog.globals[0]?).map (·.type)=some 226:=by kernel_rfl
noncomputable def laidWorld (os:Os):World:=
 { World.doorLaid Tryz.prog 72 os with heap:=(World.doorLaid Tryz.prog 72 os).heap.modify 3 fun
   | .cells _ t frozen=> .cells (Lib.firstTab.map fun z=>Value.int .u8 z).toArray t frozen
   |o=>o }
noncomputable abbrev ad6 (os:Os) (args:Array Value):World:=((laidWorld os).forCall (fun _ _=>0) ⟨#[],args,[]⟩).memory
theorem apo (os:Os)(args:Array Value):(DataW.laidRun Tryz.prog (ad6 os args) 8 (MB.map (·.1))).map (·.1)=some MB:=by kernel_rfl
theorem apq (os:Os)(args:Array Value):(DataW.laidRun Tryz.prog (ad6 os args) 8 (MB.map (·.1))).map (fun x=>decide x.2.Nodup && laidRowsB Tryz.prog (ad6 os args) x.2)=some true:=by kernel_rfl
theorem laid_met (os:Os)(args:Array Value):laidMet Tryz.prog MB (ad6 os args):=laidMet_of_run' 8 (apo os args) (apq os args)
theorem ad7 (u:TypeId)(h:Tryz.prog.typeName? 3 u=some "*errors.errorString"):u=289:=
 typeName_ptr_named (nm:= "errors.errorString") (by kernel_rfl) (by kernel_rfl) (by decide) u h
theorem ahB {W:World}(hL:laidMetH Tryz.prog MB W)(hS:W.ShapedOpen Tryz.prog):adX W:=by
 have hM:laidMet Tryz.prog MB W:=hL
 have hP:=hM.tail.tail
 have hR:=hM.tail.tail.tail.tail
 have hY:=hM.tail.tail.tail.tail.tail
 have hD:=hM.tail.tail.tail.tail.tail.tail
 refine⟨cell_of_shapedOpen_int (t:=3) (zero:=#[.int .i64 0]) hS (of_decide_eq_true (by kernel_rfl)) (by kernel_rfl) rfl (by kernel_rfl) (by kernel_rfl) (by kernel_rfl),
  Lib.tabIs_of_head KP am3 (n:=20) (e:=184) (by kernel_rfl) (by kernel_rfl) (by kernel_rfl) (by kernel_rfl) hP,?_,?_,
  Lib.tabIs_of_head xY am4 (n:=16) (e:=5) (by kernel_rfl) (by kernel_rfl) (by kernel_rfl) (by kernel_rfl) hD⟩
 ·obtain⟨a,s,hv,_⟩:=laid_sentinel hY amZ am1 Tryz.underlying146 ad7 Tryz.underlying289 Tryz.underlying291 rfl rfl Tryz.underlying9 (by kernel_rfl) (by kernel_rfl)
  exact⟨289,_,by simpa using World.var?_cell amZ hv 0⟩
 ·obtain⟨a,s,hv,_⟩:=laid_sentinel hR am0 am2 Tryz.underlying146 ad7 Tryz.underlying289 Tryz.underlying291 rfl rfl Tryz.underlying9 (by kernel_rfl) (by kernel_rfl)
  exact⟨289,_,by simpa using World.var?_cell am0 hv 0⟩
theorem apr:((((begin Tryz.prog (fun _ _=>0) default).world.heap[7]?).bind Obj.row?).isSome)=true:=by kernel_rfl
theorem ahC {W:World}(hS:W.ShapedOpen Tryz.prog):8≤W.heap.size:=by
 obtain⟨x,hx⟩:=akj.1 apr
 obtain⟨cs,h,_⟩:=hS.1 7 x.1 x.2 (of_decide_eq_true (by kernel_rfl)) hx
 have:=(ag6.1 h).1
 omega
end Go.Proofs.YtekopfoidhhedaaGreatDoor.Rw
namespace Go.Proofs.YtekopfoidhhedaaGreatDoor.Rw
open Go Go.Id Go.Proofs Go.ChangeShapes Go.WideShapes Go.ChangeAt Go.RowKit
section
variable {H:Type} {enc:TypeId × Value→H} {P:Program}
theorem abv {f:Func}{s:ChangeSpec}{apart again:Bool}{W W':World}{args:Array Value}{ds gs:List (DataW H)}{before:List MemPlace}
  (hW:DataW.Whole enc P f.params.toList s.vars apart W args.toList ds gs before) (hv:s.vars=[]) (hb:Below W.heap.size W W')
  (hr:f.resultTypes=#[4]) (h4:P.underlying 4=some .bool) (hres:(s.fn H (ds++gs)).results=[.lit (.bool true)]) (hargs:(s.fn H (ds++gs)).args=ds) (hvars:(s.fn H (ds++gs)).vars=[])
  (hT:∀sp:Nat→Bool,(∀x∈before,sp x.block=true)→DataW.TrodAll enc P W' 0 sp true f.params.toList args.toList ds before):
  s.post enc P f apart true false again W args (.bool true) W':=by
 have hW':=hW
 obtain⟨p,q,hA,hV,rfl,hz,hn⟩:=hW
 rw[hv] at hV
 have hlt:=hW'.lt
 cases gs with
 |cons g gs=>exact hV.elim
 |nil=>
  have hq:q=[]:=hV
  subst hq
  rw[akz] at hz hn hlt hW'
  rw[akz] at hT
  have hR:∀(b:Nat) (sp:Nat→Bool) (hd:Bool),DataW.TrodAll enc P W' b sp hd f.resultTypes.toList ((Value.bool true).resultList f.resultTypes.size) (s.fn H (ds++[])).results []:=by
   intro b sp hd
   rw[hres,hr]
   exact trodAll_cons_mk (shut_bool h4 _) trodAll_mk0
  refine⟨ds,[],p,[],p,[],hW',hR _ _ _,by rw[hargs];exact hT _ (fun x hx=>by simpa using hlt x hx),by rw[hvars,hv];rfl,hb.frame _,fun _=>?_⟩
  refine⟨ok_one hr rfl (okWide_bool_mk h4 _),_,_,([]++p)++[],⟨[]++p,[],trodAll_append (hT _ (fun _ _=>rfl)) (hR _ _ _),by rw[hv];exact (show DataW.TrodVars enc P W' (fun _=>true) [] ([]:List (DataW H)) [] from rfl),rfl,?_,?_⟩,?_⟩
  ·intro b off hp
   simp only[abT,akz] at hp
   rw[hb.frozen (hlt _ hp)]
   exact hz b off hp
  ·intro ha
   simpa using hn ha
  ·intro x hx _
   simpa using hx
end
end Go.Proofs.YtekopfoidhhedaaGreatDoor.Rw
set_option maxRecDepth 10000
namespace Go.Proofs
open Go Go.Id
theorem ZP (n:Int):ay Pr 177 [.int .u8 n] (.bool (upperB n)):=by
 refine gK Tryz.func177 Tryz.ntmps177 ?_
 refine aG 1 [0,2] ?_
 refine WP.S [0,2] fun _ z=>?_
 refine ah.take 3 fun J hJ=>?_
 simp +decide only[TF,↓reduceIte]
 refine hJ _ _ ?_;clear hJ J
 refine ah.part 5 rfl (fun q1=>?_) (fun q1=>?_)
 ·simp +decide only[TF,q1,↓reduceIte]
  apply z;clear z
  apply WP.ret
  exact Bv @upperB.eq_def q1
 simp +decide only[TF,q1,↓reduceIte]
 apply z;clear z
 apply WP.ret
 exact Bv @upperB.eq_def q1
theorem MC (n:Int):ay Pr 175 [.int .u8 n] (.bool (dB n)):=by
 refine gK Tryz.func175 Tryz.ntmps175 ?_
 refine aG 1 [0,2] ?_
 refine WP.S [0,2] fun _ z=>?_
 simp +decide only[TF,↓reduceIte]
 refine aj.P (ZP _) rfl rfl ?_
 refine ah.take 1 fun J hJ=>?_
 simp +decide only[TF,↓reduceIte]
 refine hJ _ _ ?_;clear hJ J
 refine ah.part 5 rfl (fun q1=>?_) (fun q1=>?_)
 ·simp +decide only[TF,q1,↓reduceIte]
  apply z;clear z
  apply WP.ret
  exact Bv @dB.eq_def q1
 refine ah.take 3 fun J hJ=>?_
 simp +decide only[TF,q1,↓reduceIte]
 refine hJ _ _ ?_;clear hJ J
 refine ah.part 8 rfl (fun q2=>?_) (fun q2=>?_)
 ·simp +decide only[TF,q2,↓reduceIte]
  apply z;clear z
  apply WP.ret
  exact Md @dB.eq_def q1 q2
 simp +decide only[TF,q2,↓reduceIte]
 apply z;clear z
 apply WP.ret
 exact Md @dB.eq_def q1 q2
theorem ZQ (n:Int):ay Pr 176 [.int .u8 n] (.bool (je n)):=by
 refine gK Tryz.func176 Tryz.ntmps176 ?_
 refine aG 1 [0,2] ?_
 refine WP.S [0,2] fun _ z=>?_
 refine ah.take 3 fun J hJ=>?_
 simp +decide only[TF,↓reduceIte]
 refine hJ _ _ ?_;clear hJ J
 refine ah.part 5 rfl (fun q1=>?_) (fun q1=>?_)
 ·simp +decide only[TF,q1,↓reduceIte]
  apply z;clear z
  apply WP.ret
  exact Bv @je.eq_def q1
 simp +decide only[TF,q1,↓reduceIte]
 apply z;clear z
 apply WP.ret
 exact Bv @je.eq_def q1
theorem ahD (n:Int):ay Pr 206 [.int .u8 n] (.bool (dW n)):=by
 refine gK Tryz.func206 Tryz.ntmps206 ?_
 refine aG 1 [0,2] ?_
 refine WP.S [0,2] fun _ z=>?_
 simp +decide only[TF,↓reduceIte]
 refine aj.P (MC _) rfl rfl ?_
 refine ah.take 1 fun J hJ=>?_
 simp +decide only[TF,↓reduceIte]
 refine hJ _ _ ?_;clear hJ J
 refine ah.part 5 rfl (fun q1=>?_) (fun q1=>?_)
 ·simp +decide only[TF,q1,↓reduceIte]
  apply z;clear z
  apply WP.ret
  exact Bv @dW.eq_def q1
 simp +decide only[TF,q1,↓reduceIte]
 refine aj.P (ZQ _) rfl rfl ?_
 refine ah.take 2 fun J hJ=>?_
 simp +decide only[TF,↓reduceIte]
 refine hJ _ _ ?_;clear hJ J
 refine ah.part 9 rfl (fun q2=>?_) (fun q2=>?_)
 ·simp +decide only[TF,q2,↓reduceIte]
  apply z;clear z
  apply WP.ret
  exact Md @dW.eq_def q1 q2
 refine ah.take 4 fun J hJ=>?_
 simp +decide only[TF,q2,↓reduceIte]
 refine hJ _ _ ?_;clear hJ J
 refine ah.part 13 rfl (fun q3=>?_) (fun q3=>?_)
 ·simp +decide only[TF,q3,↓reduceIte]
  apply z;clear z
  apply WP.ret
  exact Yb @dW.eq_def q1 q2 q3
 refine ah.take 4 fun J hJ=>?_
 simp +decide only[TF,q3,↓reduceIte]
 refine hJ _ _ ?_;clear hJ J
 refine ah.part 17 rfl (fun q4=>?_) (fun q4=>?_)
 ·simp +decide only[TF,q4,↓reduceIte]
  apply z;clear z
  apply WP.ret
  exact zP5 @dW.eq_def q1 q2 q3 q4
 refine ah.take 4 fun J hJ=>?_
 simp +decide only[TF,q4,↓reduceIte]
 refine hJ _ _ ?_;clear hJ J
 refine ah.part 21 rfl (fun q5=>?_) (fun q5=>?_)
 ·simp +decide only[TF,q5,↓reduceIte]
  apply z;clear z
  apply WP.ret
  exact zP6 @dW.eq_def q1 q2 q3 q4 q5
 simp +decide only[TF,q5,↓reduceIte]
 apply z;clear z
 apply WP.ret
 exact zP6 @dW.eq_def q1 q2 q3 q4 q5
abbrev ny:List Nat:=[0,1,4,5,7,8,9,16]
theorem Vt (s:List UInt8)(hs:s.length≤140737488355328):ay Pr 173 [.str s,.fn (.func 206) [] []] (.bool (bg s)):=by
 refine ay.W Tryz.func173 Tryz.ntmps173 ?_
 simp only[aT,ade]
 refine aG 4 ny ?_
 refine WP.lp [0,1,7] (X:={k:Nat // k≤s.length∧bg s=((s.drop k).all (fun c=>dW c.toNat) && !(s == []) && decide ((s.length:Int)≤64))}) (fun x=>match x with| ⟨(k),_⟩=>[(8,.int .i64 k)]) (fun x=>match x with| ⟨(k),_⟩=>[]) (fun x=>match x with| ⟨(k),_⟩=>s.length - k) (by simp +decide only[W,↓reduceIte];rfl) ?_ ⟨(0),⟨ada _,by simp[bg]⟩⟩ ?_
 rotate_left
 ·exact Weak.nil (by simp[St.get,lk,W,Le.refl,W]) (by simp[W])
 rintro ⟨k,hk,hI⟩
 dsimp only
 simp only[abS,abT]
 refine aG 2 ny ?_
 refine WP.cond rfl (fun q1=>?_) (fun q1=>?_)
 ·have hlt:=aO q1
  have hg:=kU hlt
  rw[bZ hlt] at hI
  simp only[alf] at hI
  refine aJ 4 ny q1 ?_
  refine WP.S ny fun _ z=>?_
  simp +decide only[TF,hg,↓reduceIte]
  refine aj.P (ahD _) rfl rfl ?_
  simp +decide only[TF,↓reduceIte]
  apply z;clear z
  refine WP.cond rfl (fun q2=>?_) (fun q2=>?_)
  ·simp only[adh] at q2
   refine aJ 1 ny q2 ?_
   apply WP.ret
   exact Ends.P rfl (Le.of_eq (by simp_all[St.get,W,bg]))
  simp only[afE] at q2
  refine aJ 2 [] q2 ?_
  show ∃y,_∧Weak _ _ _
  refine⟨⟨k+1,?_⟩,?_,Weak.nil ?_ ?_⟩
  ·exact⟨by omega,by first|(simpa [q1,hg,q2] using hI)|(simp_all;done)⟩
  ·dsimp only;omega
  ·simp[St.get,lk,Le.refl,aU hlt hs]
  simp[W]
 have hge:=aP q1
 rw[dR hge] at hI
 simp only[amn,al5] at hI
 refine aG 1 [] ?_
 refine WP.S ny fun _ z=>?_
 refine ah.take 3 fun J hJ=>?_
 simp +decide only[TF,q1,↓reduceIte]
 refine hJ _ _ ?_;clear hJ J
 refine ah.part 20 rfl (fun q3=>?_) (fun q3=>?_)
 ·simp +decide only[TF,q3,↓reduceIte]
  apply z;clear z
  apply WP.ret
  exact Ends.P rfl (Le.of_eq (by simp_all[St.get,W,bg]))
 simp +decide only[TF,q3,↓reduceIte]
 apply z;clear z
 apply WP.ret
 exact Ends.P rfl (Le.of_eq (by simp +decide only[St.get,W,bg,q3,↓reduceIte]))
theorem S_ (s:List UInt8)(hs:s.length≤140737488355328):ay Pr 145 [.str s] (.bool (bg s)):=by
 refine gK Tryz.func145 Tryz.ntmps145 ?_
 refine aG 1 [0,2] ?_
 refine WP.S [0,2] fun _ z=>?_
 simp +decide only[TF,↓reduceIte]
 refine aj.P (Vt _ (by assumption)) rfl rfl ?_
 simp +decide only[TF,↓reduceIte]
 apply z;clear z
 apply WP.ret
 exact Ya
theorem BO (n:Int):ay Pr 114 [.int .u8 n] (.bool (dB n)):=by
 refine gK Tryz.func114 Tryz.ntmps114 ?_
 refine aG 1 [0,2] ?_
 refine WP.S [0,2] fun _ z=>?_
 refine ah.take 3 fun J hJ=>?_
 simp +decide only[TF,↓reduceIte]
 refine hJ _ _ ?_;clear hJ J
 refine ah.part 5 rfl (fun q1=>?_) (fun q1=>?_)
 ·refine ah.take 4 fun J hJ=>?_
  simp +decide only[TF,q1,↓reduceIte]
  refine hJ _ _ ?_;clear hJ J
  refine ah.part 9 rfl (fun q2=>?_) (fun q2=>?_)
  ·simp +decide only[TF,q2,↓reduceIte]
   apply z;clear z
   apply WP.ret
   exact Yb @dB.eq_def @upperB.eq_def q1 q2
  refine ah.take 3 fun J hJ=>?_
  simp +decide only[TF,q2,↓reduceIte]
  refine hJ _ _ ?_;clear hJ J
  refine ah.part 12 rfl (fun q3=>?_) (fun q3=>?_)
  ·simp +decide only[TF,q3,↓reduceIte]
   apply z;clear z
   apply WP.ret
   exact zP5 @dB.eq_def @upperB.eq_def q1 q2 q3
  simp +decide only[TF,q3,↓reduceIte]
  apply z;clear z
  apply WP.ret
  exact zP5 @dB.eq_def @upperB.eq_def q1 q2 q3
 refine ah.take 7 fun J hJ=>?_
 simp +decide only[TF,q1,↓reduceIte]
 refine hJ _ _ ?_;clear hJ J
 refine ah.part 12 rfl (fun q4=>?_) (fun q4=>?_)
 ·simp +decide only[TF,q4,↓reduceIte]
  apply z;clear z
  apply WP.ret
  exact Yb @dB.eq_def @upperB.eq_def q1 q4
 simp +decide only[TF,q4,↓reduceIte]
 apply z;clear z
 apply WP.ret
 exact Yb @dB.eq_def @upperB.eq_def q1 q4
theorem QC (n:Int):ay Pr 115 [.int .u8 n] (.bool (je n)):=by
 refine gK Tryz.func115 Tryz.ntmps115 ?_
 refine aG 1 [0,2] ?_
 refine WP.S [0,2] fun _ z=>?_
 refine ah.take 3 fun J hJ=>?_
 simp +decide only[TF,↓reduceIte]
 refine hJ _ _ ?_;clear hJ J
 refine ah.part 5 rfl (fun q1=>?_) (fun q1=>?_)
 ·simp +decide only[TF,q1,↓reduceIte]
  apply z;clear z
  apply WP.ret
  exact Bv @je.eq_def q1
 simp +decide only[TF,q1,↓reduceIte]
 apply z;clear z
 apply WP.ret
 exact Bv @je.eq_def q1
theorem iI (s:List UInt8)(hs:s.length≤140737488355328):ay Pr 59 [.str s] (.bool (bg s)):=by
 refine gK Tryz.func59 Tryz.ntmps59 ?_
 refine aG 4 [0,2,3,7] ?_
 refine WP.lp [0] (X:={k:Nat // k≤s.length∧bg s=((s.drop k).all (fun c=>dW c.toNat) && !(s == []) && decide ((s.length:Int)≤64))}) (fun x=>match x with| ⟨(k),_⟩=>[(3,.int .i64 k)]) (fun x=>match x with| ⟨(k),_⟩=>[]) (fun x=>match x with| ⟨(k),_⟩=>s.length - k) (by simp +decide only[W,↓reduceIte];rfl) ?_ ⟨(0),⟨ada _,by simp[bg]⟩⟩ ?_
 rotate_left
 ·exact OC
 rintro ⟨k,hk,hI⟩
 dsimp only
 simp only[abS,abT]
 refine aG 2 [0,2,3,7] ?_
 refine WP.cond rfl (fun q1=>?_) (fun q1=>?_)
 ·have hlt:=aO q1
  have hg:=kU hlt
  rw[bZ hlt] at hI
  simp only[alf] at hI
  refine aG 3 [] ?_
  refine WP.sm [0,3] 45 (.bool (!(dW s[k].toNat))) (by kernel_rfl) (fun K hK=>?_) ?_
  ·simp +decide only[TF,q1,hg,↓reduceIte]
   refine aj.P (BO _) rfl rfl ?_
   refine ah.take 2 fun J hJ=>?_
   simp +decide only[TF,↓reduceIte]
   refine hJ _ _ ?_;clear hJ J
   refine ah.part 15 rfl (fun q2=>?_) (fun q2=>?_)
   ·simp only[adh] at q2
    simp +decide only[TF,hg,q2,↓reduceIte]
    refine aj.P (QC _) rfl rfl ?_
    refine ah.take 3 fun J hJ=>?_
    simp +decide only[TF,↓reduceIte]
    refine hJ _ _ ?_;clear hJ J
    refine ah.part 22 rfl (fun q3=>?_) (fun q3=>?_)
    ·refine ah.take 6 fun J hJ=>?_
     simp +decide only[TF,hg,q3,↓reduceIte]
     refine hJ _ _ ?_;clear hJ J
     refine ah.part 28 rfl (fun q4=>?_) (fun q4=>?_)
     ·refine ah.take 6 fun J hJ=>?_
      simp +decide only[TF,hg,q4,↓reduceIte]
      refine hJ _ _ ?_;clear hJ J
      refine ah.part 34 rfl (fun q5=>?_) (fun q5=>?_)
      ·refine ah.take 6 fun J hJ=>?_
       simp +decide only[TF,hg,q5,↓reduceIte]
       refine hJ _ _ ?_;clear hJ J
       refine ah.part 40 rfl (fun q6=>?_) (fun q6=>?_)
       ·simp +decide only[TF,hg,q6,↓reduceIte]
        exact hK _ _ (by simp[St.get,lk,W]) rfl (Le.of_eq (by simp_all[St.get,lk,W,bne,dW]))
       simp +decide only[TF,q6,↓reduceIte]
       exact hK _ _ (by simp[St.get,lk,W]) rfl (Le.of_eq (by simp_all[St.get,lk,W,bne,dW]))
      simp +decide only[TF,q5,↓reduceIte]
      exact hK _ _ (by simp[St.get,lk,W]) rfl (Le.of_eq (by simp_all[St.get,lk,W,bne,dW]))
     simp +decide only[TF,q4,↓reduceIte]
     exact hK _ _ (by simp[St.get,lk,W]) rfl (Le.of_eq (by simp_all[St.get,lk,W,bne,dW]))
    simp +decide only[TF,q3,↓reduceIte]
    exact hK _ _ (by simp[St.get,lk,W]) rfl (Le.of_eq (by simp[St.get,lk,dW,q2,q3]))
   simp only[afE] at q2
   simp +decide only[TF,q2,↓reduceIte]
   exact hK _ _ (by simp[St.get,lk,W]) rfl (Le.of_eq (by simp[St.get,lk,dW,q2]))
  refine WP.cond rfl (fun q7=>?_) (fun q7=>?_)
  ·refine jd 1 [0,2,3,7] q1 q7 ?_
   apply WP.ret
   exact Ends.P rfl (Le.of_eq (by simp_all[St.get,W,bg]))
  refine jd 2 [] q1 q7 ?_
  show ∃y,_∧Weak _ _ _
  refine⟨⟨k+1,?_⟩,?_,Weak.nil ?_ ?_⟩
  ·exact⟨by omega,by first|(simpa [q1,hg,q7] using hI)|(simp_all;done)⟩
  ·dsimp only;omega
  ·simp[St.get,lk,Le.refl,aU hlt hs]
  simp[W]
 have hge:=aP q1
 rw[dR hge] at hI
 simp only[amn,al5] at hI
 refine aG 1 [] ?_
 refine WP.S [0,2,3,7] fun _ z=>?_
 refine ah.take 4 fun J hJ=>?_
 simp +decide only[TF,q1,↓reduceIte]
 refine hJ _ _ ?_;clear hJ J
 refine ah.part 49 rfl (fun q8=>?_) (fun q8=>?_)
 ·simp +decide only[TF,q8,↓reduceIte]
  apply z;clear z
  apply WP.ret
  exact Ends.P rfl (Le.of_eq (by simp_all[St.get,W,LN,bg]))
 simp +decide only[TF,q8,↓reduceIte]
 apply z;clear z
 apply WP.ret
 exact Ends.P rfl (Le.of_eq (by simp_all[St.get,W,LN,bg]))
end Go.Proofs
