import Derived.Test.YtekopfoidhhedaaGreatDoorG07
import Derived.Test.YtekopfoidhhedaaGreatDoorG04
import Derived.Test.YtekopfoidhhedaaGreatDoorG02
import Derived.Lib.SplitLaws
import Derived.Lib.Join
import Derived.Lib.ItoaLen
set_option linter.unusedVariables false
set_option linter.unusedSimpArgs false
set_option linter.unnecessarySimpa false
namespace Go.Proofs
open Go Go.Id
def Lh {α:Type}(p:α→Bool):List α→Int→Int
 | [],_=>-1
 |x::l,i=>if p x then i else Lh p l (i+1)
theorem Xa {α:Type}(p:α→Bool):∀(l:List α) (i:Int),0≤i→decide (Lh p l i≥0)=l.any p
 | [],i,_=>by simp[Lh]
 |x::l,i,hi=>by
  have ih:=Xa p l (i+1) (by omega)
  by_cases h:p x=true
  ·have e:Lh p (x::l) i=i:=by simp[Lh,h]
   simp only[e,List.any_cons,h,Bool.true_or];simp;omega
  ·have e:Lh p (x::l) i=Lh p l (i+1):=by simp[Lh,h]
   simp only[e,ih,List.any_cons];simp[h]
theorem aaX {α:Type}(p:α→Bool)(l:List α):decide (Lh p l 0≥0)=l.any p:=Xa p l 0 (Int.le_refl 0)
structure Key where
 id:List UInt8
 sec:List UInt8
 sf:Int
 su:Int
 af:Int
 au:Int
def Key.cs (k:Key):List D:=[.str k.id,.str k.sec,.int .i64 k.sf,.int .i64 k.su,.int .i64 k.af,.int .i64 k.au]
def dK:Key:=⟨[],[],0,0,0,0⟩
@[simp] theorem BG {S:Nat→Prop}(l:List Key):(∀e∈l.map Key.cs,∀d∈e,cZ S d)↔True:=by
 simp only[iff_true]
 intro e he d hd
 simp only[List.mem_map] at he
 obtain⟨c,_,rfl⟩:=he
 simp only[Key.cs,List.mem_cons,List.mem_nil_iff,or_false] at hd
 rcases hd with rfl|rfl|rfl|rfl|rfl|rfl <;> simp
@[simp] theorem JI {S:Nat→Prop}(l:List Key):(∀a∈l,∀d∈a.cs,cZ S d)↔True:=by
 simp only[iff_true]
 intro c _ d hd
 simp only[Key.cs,List.mem_cons,List.mem_nil_iff,or_false] at hd
 rcases hd with rfl|rfl|rfl|rfl|rfl|rfl <;> simp
def Key.ok (k:Key):Prop:=k.id.length≤1099511627776∧k.sec.length≤1099511627776
def inB (f u t:Int):Bool:=decide (f≤aZ t) && decide (aZ t<u)
def Xb (s:Int):Int:=if 600<(if 0>s then 0 else s) then 600 else (if 0>s then 0 else s)
theorem ajc (s:Int):(if 600<(if 0>s then 0 else s) then (600:Int) else (if 0>s then 0 else s))=Xb s:=rfl
theorem aaY (s:Int):0≤Xb s∧Xb s≤600:=by unfold Xb;repeat' split <;> omega
theorem agY (t s:Int):IntKind.wrap .i64 (aZ t+Xb s)=aZ t+Xb s:=by
 have:=Vb t;have:=Vd t;have:=aaY s
 exact wrap_i64 (by omega) (by omega)
theorem agZ (t s:Int):IntKind.wrap .i64 (aZ t - Xb s)=aZ t - Xb s:=by
 have:=Vb t;have:=Vd t;have:=aaY s
 exact wrap_i64 (by omega) (by omega)
def f_ (f u t s:Int):Int:=if decide (f>u)=true then 2 else if decide (aZ t+Xb s<f)=true then 14 else if decide (aZ t - Xb s≥u)=true then 13 else 0
def sortB:List Int→Bool
 |a::b::t=>!(decide (b<a)) && sortB (b::t)
 | _=>true
theorem NY:∀(l:List Int) (i:Nat) (h:i+1<l.length),sortB (l.take (i+2))=(sortB (l.take (i+1)) && !(decide (l[i+1]<l[i])))
 |a::b::t,0,_=>by simp[sortB]
 |a::b::t,i+1,h=>by
  have ih:=NY (b::t) i (by simpa using h)
  simp only[List.take_succ_cons] at ih ⊢
  rw[sortB,ih,sortB]
  simp[Bool.and_assoc]
def jE (k:Key):Bool:=decide (k.af≥0) && decide (k.af≤k.sf) && decide (k.sf≤k.su) && decide (k.su≤k.au) && decide (k.au≤1099511627776) && decide (k.af<k.au)
theorem aaZ (k:Key):(!(sortB [0,k.af,k.sf,k.su,k.au,1099511627776]) || decide (k.af≥k.au))=!(jE k):=by
 rw[Bool.eq_iff_iff]
 simp only[sortB,jE,Bool.or_eq_true,Bool.not_eq_true',Bool.and_eq_false_iff,Bool.not_eq_false',decide_eq_true_eq,decide_eq_false_iff_not,Bool.and_true]
 omega
def keyE (seen:List Key)(k:Key):Int:=
 if (!aX k.id)=true then 5 else if (!bK k.sec)=true then 4 else if seen.any (fun q=>q.id == k.id)=true then 7 else if (!jE k)=true then 2 else 0
def zI (seen:List Key):List Key→Int
 | []=>0
 |k::t=>if (keyE seen k != 0)=true then keyE seen k else zI (seen++[k]) t
def dZ (l:List Key):Int:=if decide ((l.length:Int)>16)=true then 3 else zI [] l
def eqK (a b:Key):Bool:=a.id == b.id && (a.sec == b.sec && (a.sf == b.sf && (a.su == b.su && (a.af == b.af && a.au == b.au))))
def gtB (a b:List UInt8):Bool:=!(Op.bytesLess a b || a == b)
def sS (b k:Key):Bool:=eqK b dK || decide (k.sf>b.sf) || (k.sf == b.sf && gtB k.id b.id)
def Vl (now:Int)(b:Key):List Key→Key
 | []=>b
 |k::t=>Vl now (if inB k.sf k.su now && sS b k then k else b) t
def qE (l:List Key)(now:Int):Key:=if (dZ l != 0)=true then dK else Vl now dK l
def kV (l:List Key)(id:List UInt8)(now skew:Int):Key × Int:=
 match l with
 | []=>(dK,26)
 |k::t=>if k.id == id then (if (f_ k.af k.au now skew != 0)=true then (dK,f_ k.af k.au now skew) else (k,0)) else kV t id now skew
set_option maxRecDepth 10000
set_option maxHeartbeats 4000000
theorem SB (n:Int):ak Pr 180 [.int .i64 n] (.int .i64 (aZ n)):=by
 refine ak.W Tryz.func180 Tryz.ntmps180 ?_
 simp only[ay]
 iterate 2 (refine WP.S [0,2] fun _ z=>?_;simp +decide only[TF,↓reduceIte];apply z;clear z)
 apply WP.ret
 exact Ends.P rfl (Le.of_eq (by simp[St.get,W,aZ];repeat' split <;> (try omega)))
theorem ag0 (f u t:Int):ak Pr 181 [.agg [.int .i64 f,.int .i64 u],.int .i64 t] (.bool (inB f u t)):=by
 refine ak.W Tryz.func181 Tryz.ntmps181 ?_
 simp only[ay,Nat.zero_add]
 refine WP.S [1,2,4] fun _ z=>?_;simp +decide only[TF,↓reduceIte];apply z;clear z
 refine WP.S [1,2,4] fun _ z=>?_
 simp +decide only[TF,↓reduceIte]
 refine aj.P (sN _) rfl rfl ?_
 simp +decide only[TF,↓reduceIte]
 apply z;clear z
 refine WP.S [1,2,4] fun _ z=>?_
 refine ah.take 5 fun J hJ=>?_
 simp +decide only[TF,↓reduceIte]
 refine hJ _ _ ?_;clear hJ J
 refine ah.part 11 rfl (fun q1=>?_) (fun q1=>?_)
 ·simp +decide only[TF,q1,↓reduceIte]
  apply z;clear z
  apply WP.ret
  exact Ends.P rfl (Le.of_eq (by simp +decide only[St.get,W,inB,q1,↓reduceIte]))
 simp +decide only[TF,q1,↓reduceIte]
 apply z;clear z
 apply WP.ret
 exact Ends.P rfl (Le.of_eq (by simp +decide only[St.get,W,inB,q1,↓reduceIte]))
theorem aa0 (f u t:Int):ak Pr 182 [.agg [.int .i64 f,.int .i64 u],.int .i64 t] (.bool (inB f u t)):=by
 refine ak.W Tryz.func182 Tryz.ntmps182 ?_
 simp only[ay,Nat.zero_add]
 refine WP.S [1,2,4] fun _ z=>?_;simp +decide only[TF,↓reduceIte];apply z;clear z
 refine WP.D [1,2,4] fun _ z=>?_
 simp +decide only[TF,↓reduceIte]
 refine aj.P (NH _) rfl rfl ?_
 refine ah.take 2 fun J hJ=>?_
 simp +decide only[TF,↓reduceIte]
 refine hJ _ _ ?_;clear hJ J
 refine ah.part 10 rfl (fun q1=>?_) (fun q1=>?_)
 ·simp +decide only[TF,q1,↓reduceIte]
  refine aj.P (NH _) rfl rfl ?_
  simp +decide only[TF,↓reduceIte]
  refine z _ _ (by kernel_rfl) ?_;clear z
  apply WP.ret
  exact Ends.P rfl (Le.of_eq (by simp +decide only[St.get,W,inB,q1,↓reduceIte]))
 simp +decide only[TF,q1,↓reduceIte]
 refine z _ _ (by kernel_rfl) ?_;clear z
 apply WP.ret
 exact Ends.P rfl (Le.of_eq (by simp +decide only[St.get,W,inB,q1,↓reduceIte]))
abbrev jA:List Nat:=[1,2,3,6,7,8,14,20,27]
theorem zJ (f u t s:Int):ak Pr 86 [.agg [.int .i64 f,.int .i64 u],.int .i64 t,.int .i64 s] (.int .i64 (f_ f u t s)):=by
 refine ak.W Tryz.func86 Tryz.ntmps86 ?_
 simp only[ay,Nat.reduceAdd,Nat.zero_add]
 refine WP.S jA fun _ z=>?_;simp +decide only[TF,↓reduceIte];apply z;clear z
 refine WP.S jA fun _ z=>?_
 simp +decide only[TF,↓reduceIte]
 refine aj.P (sN _) rfl rfl ?_
 simp +decide only[TF,ajc,↓reduceIte]
 apply z;clear z
 iterate 3 first|(refine WP.S jA fun _ z=>?_;simp +decide only[TF,↓reduceIte];apply z;clear z)|apply WP.block|apply WP.seq
 refine WP.cond rfl (fun q1=>?_) (fun q1=>?_)
 ·refine WP.S jA fun _ z=>?_;simp +decide only[TF,q1,↓reduceIte];apply z;clear z
  apply WP.ret
  exact Ends.P rfl (Le.of_eq (by simp +decide only[St.get,W,f_,q1,↓reduceIte]))
 refine WP.S jA fun _ z=>?_;simp +decide only[TF,q1,agY,↓reduceIte];apply z;clear z
 refine WP.cond rfl (fun q2=>?_) (fun q2=>?_)
 ·refine WP.S jA fun _ z=>?_;simp +decide only[TF,q2,↓reduceIte];apply z;clear z
  apply WP.ret
  exact Ends.P rfl (Le.of_eq (by simp +decide only[St.get,W,f_,q1,q2,↓reduceIte]))
 refine WP.S jA fun _ z=>?_;simp +decide only[TF,q2,agZ,↓reduceIte];apply z;clear z
 refine WP.cond rfl (fun q3=>?_) (fun q3=>?_)
 ·refine WP.S jA fun _ z=>?_;simp +decide only[TF,q3,↓reduceIte];apply z;clear z
  apply WP.ret
  exact Ends.P rfl (Le.of_eq (by simp +decide only[St.get,W,f_,q1,q2,q3,↓reduceIte]))
 iterate 2 first|(refine WP.S jA fun _ z=>?_;simp +decide only[TF,q3,↓reduceIte];apply z;clear z)|(apply WP.skip;show WP ..)
 apply WP.ret
 exact Ends.P rfl (Le.of_eq (by simp +decide only[St.get,W,f_,q1,q2,q3,↓reduceIte]))
theorem ad2 (k:Key)(id:List UInt8):aG Pr 205 [.agg [.str k.id,.str k.sec,.int .i64 k.sf,.int .i64 k.su,.int .i64 k.af,.int .i64 k.au],.ref 0 0] [(0,.box 9 [.str id])] (.bool (k.id == id)) [(0,.box 9 [.str id])]:=by
 refine aG.of_wp Tryz.func205 rfl (by kernel_rfl) Tryz.ntmps205 (by simp) ?_
 simp only[ay,Nat.zero_add,List.map_cons,List.map_nil]
 iterate 2 (refine WP.S [1,2,3] fun _ z=>?_;simp +decide only[TF,↓reduceIte];apply z;clear z)
 apply WP.ret
 refine Ends.imp (.inr rfl) rfl (Le.of_eq (by simp +decide only[St.get,W,↓reduceIte])) ?_ ?_ ?_
 ·simp
 ·simp[lk,aA]
 simp[lk]
theorem DL (l:List Key)(nl:Bool)(id:List UInt8)(hn:l.length≤1099511627776)(hnl:nl=true→l=[]):aG Pr 204 [.slice 6 nl (l.map Key.cs) none,.fn (.func 205) [] [.ref 0 0]] [(0,.box 9 [.str id])] (.int .i64 (Lh (fun k=>k.id == id) l 0)) [(0,.box 9 [.str id])]:=by
 refine aG.of_wp Tryz.func204 rfl (by kernel_rfl) Tryz.ntmps204 (by simp) ?_
 simp only[ay,Nat.zero_add,List.map_cons,List.map_nil]
 iterate 2 first|(refine WP.S [0,1,4,5,7,8,9,16] fun _ z=>?_;simp +decide only[TF,↓reduceIte];apply z;clear z)|apply WP.seq
 refine WP.S [0,1,7,8] fun _ z=>?_;simp +decide only[TF,↓reduceIte];apply z;clear z
 apply WP.block
 refine WP.lp [0,1,7] (X:={k:Nat // k≤l.length∧Lh (fun k=>k.id == id) l 0=Lh (fun k=>k.id == id) (l.drop k) k}) (fun x=>match x with| ⟨(k),_⟩=>[(8,.int .i64 k)]) (fun x=>match x with| ⟨(k),_⟩=>[(0,.box 9 [.str id])]) (fun x=>match x with| ⟨(k),_⟩=>l.length - k) (by simp +decide only[W,↓reduceIte];rfl) ?_ ⟨(0),⟨Nat.zero_le _,by simp⟩⟩ ?_
 rotate_left
 ·exact Weak.store (by simp[St.get,lk,W,Le.refl,W]) (by simp[lk]) (by simp[lk]) (by simp[aA,lk]) (by simp[lk])
 rintro ⟨k,hk,hI⟩
 dsimp only
 simp only[List.cons_append,List.nil_append]
 iterate 2 first|(refine WP.S [0,1,4,5,7,8,9,16] fun _ z=>?_;simp +decide only[TF,↓reduceIte];apply z;clear z)|apply WP.seq
 refine WP.cond rfl (fun q1=>?_) (fun q1=>?_)
 ·have hlt:=aK q1
  have hg:(l.map Key.cs)[k]?=some [.str l[k].id,.str l[k].sec,.int .i64 l[k].sf,.int .i64 l[k].su,.int .i64 l[k].af,.int .i64 l[k].au]:=getM hlt
  have hnf:=bH hnl hlt
  rw[dI hlt] at hI
  simp only[Lh] at hI
  iterate 4 first|(refine WP.S [0,1,4,5,7,8,9,16] fun _ z=>?_;simp +decide only[TF,q1,hnf,↓reduceIte];apply z;clear z)|(apply WP.skip;show WP ..)|apply WP.block|apply WP.seq
  refine WP.S [0,1,4,5,7,8,9,16] fun _ z=>?_
  simp +decide only[TF,hg,↓reduceIte]
  refine aj.imp (ad2 l[k] id) rfl rfl (by simp[lk,aA]) (by simp[lk]) (by simp[lk]) ?_
  simp +decide only[TF,↓reduceIte]
  apply z;clear z
  refine WP.cond rfl (fun q2=>?_) (fun q2=>?_)
  ·refine WP.S [0,1,4,5,7,8,9,16] fun _ z=>?_;simp +decide only[TF,q2,↓reduceIte];apply z;clear z
   apply WP.ret
   refine Ends.imp (.inr rfl) rfl (Le.of_eq (by simp +decide only[St.get,W,q2,hI,↓reduceIte])) ?_ ?_ ?_
   ·simp
   ·simp[lk,aA]
   simp[lk]
  iterate 2 first|(refine WP.R fun _ z=>?_;simp +decide only[TF,q2,↓reduceIte];apply z;clear z)|(apply WP.skip;show WP ..)
  show ∃y,_∧Weak _ _ _
  refine⟨⟨k+1,?_⟩,?_,?_⟩
  ·exact⟨by omega,by first|(simpa [hk,q1,hg,hnf,q2] using hI)|(simp_all;done)⟩
  ·dsimp only;omega
  exact Weak.store (by simp[St.get,lk,Le.refl,hnf,aT hlt (show l.length≤140737488355328 by omega)]) (by simp[lk]) (by simp[lk]) (by simp[aA,lk]) (by simp[lk])
 have hge:=aN q1
 rw[eP hge] at hI
 simp only[Lh] at hI
 iterate 2 first|(refine WP.S [0,1,4,5,7,8,9,16] fun _ z=>?_;simp +decide only[TF,q1,↓reduceIte];apply z;clear z)|(apply WP.exit;show WP ..)
 apply WP.ret
 refine Ends.imp (.inr rfl) rfl (Le.of_eq (by simp +decide only[St.get,W,hI,↓reduceIte])) ?_ ?_ ?_
 ·simp
 ·simp[lk,aA]
 simp[lk]
theorem Vm (l:List Key)(nl:Bool)(id:List UInt8)(hn:l.length≤1099511627776)(hnl:nl=true→l=[]):ak Pr 143 [.slice 6 nl (l.map Key.cs) none,.str id] (.int .i64 (Lh (fun k=>k.id == id) l 0)):=by
 refine ak.W Tryz.func143 Tryz.ntmps143 ?_
 simp only[ay,Nat.zero_add]
 refine WP.S [0,3,4] fun _ z=>?_;simp +decide only[TF,↓reduceIte];apply z;clear z
 refine WP.S [0,3,4] fun _ z=>?_
 simp +decide only[TF,↓reduceIte]
 refine aj.imp (DL l nl id hn hnl) rfl rfl (by simp[lk,aA]) (by simp[lk]) (by simp[lk]) ?_
 simp +decide only[TF,↓reduceIte]
 apply z;clear z
 apply WP.ret
 exact Ends.P rfl (Le.of_eq (by simp +decide only[St.get,W,↓reduceIte]))
theorem ad3 (n:Int):ak Pr 280 [.int .i64 n] (.bool false):=by
 refine ak.W Tryz.func280 Tryz.ntmps280 ?_
 simp only[ay]
 iterate 2 (refine WP.S [0,2] fun _ z=>?_;simp +decide only[TF,↓reduceIte];apply z;clear z)
 apply WP.ret
 exact Ends.P rfl (Le.of_eq (by simp +decide only[St.get,W,↓reduceIte]))
theorem ag1 (n m:Int):ak Pr 262 [.int .i64 n,.int .i64 m] (.bool (decide (n<m))):=by
 refine ak.W Tryz.func262 Tryz.ntmps262 ?_
 simp only[ay,Nat.zero_add]
 refine WP.S [0,1,4] fun _ z=>?_;simp +decide only[TF,↓reduceIte];apply z;clear z
 refine WP.S [0,1,4] fun _ z=>?_
 simp +decide only[TF,↓reduceIte]
 refine aj.P (ad3 _) rfl rfl ?_
 simp +decide only[TF,↓reduceIte]
 apply z;clear z
 apply WP.ret
 exact Ends.P rfl (Le.of_eq (by simp +decide only[St.get,W,↓reduceIte]))
theorem YD (k:Key):ak Pr 183 [.agg [.str k.id,.str k.sec,.int .i64 k.sf,.int .i64 k.su,.int .i64 k.af,.int .i64 k.au]] (.bool (jE k)):=by
 refine ak.W Tryz.func183 Tryz.ntmps183 ?_
 simp only[ay]
 refine WP.S [1,2] fun _ z=>?_;simp +decide only[TF,↓reduceIte];apply z;clear z
 refine WP.S [1,2] fun _ z=>?_
 refine ah.take 5 fun J hJ=>?_
 simp +decide only[TF,↓reduceIte]
 refine hJ _ _ ?_;clear hJ J
 refine ah.part 7 rfl (fun q1=>?_) (fun q1=>?_)
 ·refine ah.take 9 fun J hJ=>?_
  simp +decide only[TF,q1,↓reduceIte]
  refine hJ _ _ ?_;clear hJ J
  refine ah.part 16 rfl (fun q2=>?_) (fun q2=>?_)
  ·refine ah.take 9 fun J hJ=>?_
   simp +decide only[TF,q2,↓reduceIte]
   refine hJ _ _ ?_;clear hJ J
   refine ah.part 25 rfl (fun q3=>?_) (fun q3=>?_)
   ·refine ah.take 9 fun J hJ=>?_
    simp +decide only[TF,q3,↓reduceIte]
    refine hJ _ _ ?_;clear hJ J
    refine ah.part 34 rfl (fun q4=>?_) (fun q4=>?_)
    ·refine ah.take 6 fun J hJ=>?_
     simp +decide only[TF,q4,↓reduceIte]
     refine hJ _ _ ?_;clear hJ J
     refine ah.part 40 rfl (fun q5=>?_) (fun q5=>?_)
     ·simp +decide only[TF,q5,↓reduceIte]
      apply z;clear z
      apply WP.ret
      exact Ends.P rfl (Le.of_eq (by simp +decide only[St.get,W,jE,q1,q2,q3,q4,q5,↓reduceIte]))
     simp +decide only[TF,q5,↓reduceIte]
     apply z;clear z
     apply WP.ret
     exact Ends.P rfl (Le.of_eq (by simp +decide only[St.get,W,jE,q1,q2,q3,q4,q5,↓reduceIte]))
    simp +decide only[TF,q4,↓reduceIte]
    apply z;clear z
    apply WP.ret
    exact Ends.P rfl (Le.of_eq (by simp +decide only[St.get,W,jE,q1,q2,q3,q4,↓reduceIte]))
   simp +decide only[TF,q3,↓reduceIte]
   apply z;clear z
   apply WP.ret
   exact Ends.P rfl (Le.of_eq (by simp +decide only[St.get,W,jE,q1,q2,q3,↓reduceIte]))
  simp +decide only[TF,q2,↓reduceIte]
  apply z;clear z
  apply WP.ret
  exact Ends.P rfl (Le.of_eq (by simp +decide only[St.get,W,jE,q1,q2,↓reduceIte]))
 simp +decide only[TF,q1,↓reduceIte]
 apply z;clear z
 apply WP.ret
 exact Ends.P rfl (Le.of_eq (by simp +decide only[St.get,W,jE,q1,↓reduceIte]))
theorem Vo (l:List Int)(hne:0<l.length)(hn:l.length≤1099511627776):ak Pr 238 [.slice 1 false (l.map fun x=>[.int .i64 x]) none] (.bool (sortB l)):=by
 have hw0:=aax hne (show l.length≤140737488355328 by omega)
 refine ak.W Tryz.func238 Tryz.ntmps238 ?_
 simp only[ay]
 iterate 2 first|(refine WP.S [0,2,3,8,20] fun _ z=>?_;simp +decide only[TF,↓reduceIte];apply z;clear z)|apply WP.seq
 refine WP.S [0,3] fun _ z=>?_;simp +decide only[TF,hw0,↓reduceIte];apply z;clear z
 apply WP.block
 refine WP.lp [0] (X:={i:Nat // i<l.length∧sortB l=sortB (l.take (i+1))}) (fun x=>match x with| ⟨(i),_⟩=>[(3,.int .i64 i)]) (fun x=>match x with| ⟨(i),_⟩=>[]) (fun x=>match x with| ⟨(i),_⟩=>i) (by simp +decide only[W,↓reduceIte];rfl) ?_ ⟨(l.length - 1),⟨by omega,by rw[show l.length - 1+1=l.length by omega,List.take_length]⟩⟩ ?_
 rotate_left
 ·exact Weak.store (by simp[St.get,lk,W,Le.refl,W]) (by simp[lk]) (by simp[lk]) (by simp[aA,lk]) (by simp[lk])
 rintro ⟨i,hi,hI⟩
 dsimp only
 simp only[List.cons_append,List.nil_append]
 iterate 2 first|(refine WP.S [0,2,3,8,20] fun _ z=>?_;simp +decide only[TF,↓reduceIte];apply z;clear z)|apply WP.seq
 refine WP.cond rfl (fun q1=>?_) (fun q1=>?_)
 ·obtain⟨j,rfl⟩:∃j,i=j+1:=⟨i - 1,by have:=of_decide_eq_true q1;omega⟩
  have hg1:(l.map fun x=>[D.int .i64 x])[j+1]?=some [.int .i64 l[j+1]]:=getM hi
  have hg0:(l.map fun x=>[D.int .i64 x])[j]?=some [.int .i64 l[j]]:=getM (show j<l.length by omega)
  have hwj:IntKind.wrap .i64 (((j+1:Nat):Int) - 1)=((j:Nat):Int):=by rw[wrap_i64 (by omega) (by omega)];omega
  rw[NY l j hi] at hI
  iterate 3 first|(apply WP.skip;show WP ..)|apply WP.block|apply WP.seq
  refine WP.D [0,2,3,8,20] fun _ z=>?_
  simp +decide only[TF,q1,hg1,hg0,hwj,↓reduceIte]
  refine aj.P (ag1 _ _) rfl rfl ?_
  simp +decide only[TF,↓reduceIte]
  refine z _ _ (by kernel_rfl) ?_;clear z
  refine WP.cond rfl (fun q2=>?_) (fun q2=>?_)
  ·have hf:sortB l=false:=by rw[hI,q2];simp
   refine WP.S [0,2,3,8,20] fun _ z=>?_;simp +decide only[TF,q2,↓reduceIte];apply z;clear z
   apply WP.ret
   exact Ends.P rfl (Le.of_eq (by simp +decide only[St.get,W,hf,↓reduceIte]))
  have hI:sortB l=sortB (l.take (j+1)):=by rw[hI,q2];simp
  iterate 2 first|(refine WP.R fun _ z=>?_;simp +decide only[TF,hwj,q2,↓reduceIte];apply z;clear z)|(apply WP.skip;show WP ..)
  show ∃y,_∧Weak _ _ _
  refine⟨⟨j,?_⟩,?_,?_⟩
  ·exact⟨by omega,hI⟩
  ·dsimp only;omega
  exact Weak.store (by simp[St.get,lk,Le.refl]) (by simp[lk]) (by simp[lk]) (by simp[aA,lk]) (by simp[lk])
 have hi0:i=0:=by have:=of_decide_eq_false q1;omega
 subst hi0
 have hone:sortB (l.take 1)=true:=by match l with| []=>rfl|a::t=>rfl
 rw[hone] at hI
 iterate 2 first|(refine WP.S [0,2,3,8,20] fun _ z=>?_;simp +decide only[TF,↓reduceIte];apply z;clear z)|(apply WP.exit;show WP ..)
 apply WP.ret
 exact Ends.P rfl (Le.of_eq (by simp +decide only[St.get,W,hI,↓reduceIte]))
abbrev gK:List Nat:=[0,1,4,5,6,11,16,21,53]
theorem Vp (l:List Key)(nl:Bool)(i:Nat)(hi:i<l.length)(hn:l.length≤1099511627776)(hnl:nl=true→l=[])(hl:∀k∈l,k.ok):ak Pr 209 [.slice 6 nl (l.map Key.cs) none,.int .i64 i] (.int .i64 (keyE (l.take i) l[i])):=by
 have hg:(l.map Key.cs)[i]?=some [.str l[i].id,.str l[i].sec,.int .i64 l[i].sf,.int .i64 l[i].su,.int .i64 l[i].af,.int .i64 l[i].au]:=getM hi
 have hnf:=bH hnl hi
 have hk:=hl _ (List.getElem_mem hi)
 have hle:i≤l.length:=by omega
 have hix:=aaX (fun q=>q.id == l[i].id) (l.take i)
 have hws:=aaZ l[i]
 refine ak.W Tryz.func209 Tryz.ntmps209 ?_
 simp only[ay,Nat.zero_add]
 iterate 4 first|(refine WP.S gK fun _ z=>?_;simp +decide only[TF,hg,hnf,↓reduceIte];apply z;clear z)|apply WP.block|apply WP.seq
 refine WP.S gK fun _ z=>?_
 simp +decide only[TF,↓reduceIte]
 refine aj.P (Px l[i].id (by have:=hk.1;omega)) rfl rfl ?_
 simp +decide only[TF,↓reduceIte]
 apply z;clear z
 refine WP.cond rfl (fun q1=>?_) (fun q1=>?_)
 ·refine WP.S gK fun _ z=>?_;simp +decide only[TF,q1,↓reduceIte];apply z;clear z
  apply WP.ret
  exact Ends.P rfl (Le.of_eq (by simp +decide only[St.get,W,keyE,q1,↓reduceIte]))
 refine WP.S gK fun _ z=>?_
 simp +decide only[TF,q1,↓reduceIte]
 refine aj.P (Py l[i].sec (by have:=hk.2;omega)) rfl rfl ?_
 simp +decide only[TF,↓reduceIte]
 apply z;clear z
 refine WP.cond rfl (fun q2=>?_) (fun q2=>?_)
 ·refine WP.S gK fun _ z=>?_;simp +decide only[TF,q2,↓reduceIte];apply z;clear z
  apply WP.ret
  exact Ends.P rfl (Le.of_eq (by simp +decide only[St.get,W,keyE,q1,q2,↓reduceIte]))
 refine WP.D gK fun _ z=>?_
 simp +decide only[TF,hle,q2,← List.map_take,↓reduceIte]
 refine aj.P (Vm (l.take i) false l[i].id (by simp;omega) nofun) rfl rfl ?_
 simp +decide only[TF,hix,↓reduceIte]
 refine z _ _ (by kernel_rfl) ?_;clear z
 refine WP.cond rfl (fun q3=>?_) (fun q3=>?_)
 ·refine WP.S gK fun _ z=>?_;simp +decide only[TF,q3,↓reduceIte];apply z;clear z
  apply WP.ret
  exact Ends.P rfl (Le.of_eq (by simp +decide only[St.get,W,keyE,q1,q2,q3,↓reduceIte]))
 apply WP.skip;show WP ..
 refine WP.S gK fun _ z=>?_
 simp +decide only[TF,q3,↓reduceIte]
 refine aj.P (Vo [0,l[i].af,l[i].sf,l[i].su,l[i].au,1099511627776] (by simp) (by simp)) rfl rfl ?_
 simp +decide only[TF,↓reduceIte]
 apply z;clear z
 apply WP.seq
 refine WP.S gK fun _ z=>?_
 refine ah.take 3 fun J hJ=>?_
 simp +decide only[TF,↓reduceIte]
 refine hJ _ _ ?_;clear hJ J
 refine ah.part 45 rfl (fun q4=>?_) (fun q4=>?_)
 ·simp only[Bool.not_eq_true'] at q4
  simp +decide only[TF,q4,↓reduceIte]
  apply z;clear z
  iterate 2 first|(refine WP.S gK fun _ z=>?_;simp +decide only[TF,↓reduceIte];apply z;clear z)|refine WP.cT ?_
  apply WP.ret
  exact Ends.P rfl (Le.of_eq (by simp_all[St.get,W,keyE]))
 simp only[Bool.not_eq_false'] at q4
 simp +decide only[TF,q4,↓reduceIte]
 apply z;clear z
 refine WP.cond rfl (fun q5=>?_) (fun q5=>?_)
 ·refine WP.S gK fun _ z=>?_;simp +decide only[TF,q5,↓reduceIte];apply z;clear z
  apply WP.ret
  exact Ends.P rfl (Le.of_eq (by simp_all[St.get,W,keyE]))
 iterate 2 first|(refine WP.S gK fun _ z=>?_;simp +decide only[TF,q5,↓reduceIte];apply z;clear z)|(apply WP.skip;show WP ..)
 apply WP.ret
 exact Ends.P rfl (Le.of_eq (by simp_all[St.get,W,keyE]))
abbrev lD:List Nat:=[0,2,3,4,7,9,10,11,17]
theorem NZ (l:List Key)(nl:Bool)(hn:l.length≤1099511627776)(hnl:nl=true→l=[])(hl:∀k∈l,k.ok):ak Pr 149 [.slice 6 nl (l.map Key.cs) none] (.int .i64 (dZ l)):=by
 refine ak.W Tryz.func149 Tryz.ntmps149 ?_
 simp only[ay]
 iterate 3 first|(refine WP.S lD fun _ z=>?_;simp +decide only[TF,↓reduceIte];apply z;clear z)|apply WP.seq
 refine WP.cond rfl (fun q1=>?_) (fun q1=>?_)
 ·refine WP.S lD fun _ z=>?_;simp +decide only[TF,q1,↓reduceIte];apply z;clear z
  apply WP.ret
  exact Ends.P rfl (Le.of_eq (by simp +decide only[St.get,W,dZ,q1,↓reduceIte]))
 iterate 2 first|(apply WP.skip;show WP ..)|apply WP.seq
 refine WP.S [0,9,10] fun _ z=>?_;simp +decide only[TF,q1,↓reduceIte];apply z;clear z
 apply WP.block
 refine WP.lp [0,9] (X:={k:Nat // k≤l.length∧zI [] l=zI (l.take k) (l.drop k)}) (fun x=>match x with| ⟨(k),_⟩=>[(10,.int .i64 k)]) (fun x=>match x with| ⟨(k),_⟩=>[]) (fun x=>match x with| ⟨(k),_⟩=>l.length - k) (by simp +decide only[W,↓reduceIte];rfl) ?_ ⟨(0),⟨Nat.zero_le _,by simp⟩⟩ ?_
 rotate_left
 ·exact Weak.store (by simp[St.get,lk,W,Le.refl]) (by simp[lk]) (by simp[lk]) (by simp[aA,lk]) (by simp[lk])
 rintro ⟨k,hk,hI⟩
 dsimp only
 simp only[List.cons_append,List.nil_append]
 iterate 2 first|(refine WP.S lD fun _ z=>?_;simp +decide only[TF,↓reduceIte];apply z;clear z)|apply WP.seq
 refine WP.cond rfl (fun q2=>?_) (fun q2=>?_)
 ·have hlt:=aK q2
  have hg:(l.map Key.cs)[k]?=some [.str l[k].id,.str l[k].sec,.int .i64 l[k].sf,.int .i64 l[k].su,.int .i64 l[k].af,.int .i64 l[k].au]:=getM hlt
  have hnf:=bH hnl hlt
  rw[dI hlt] at hI
  simp only[zI] at hI
  iterate 4 first|(refine WP.S lD fun _ z=>?_;simp +decide only[TF,q2,hnf,↓reduceIte];apply z;clear z)|(apply WP.skip;show WP ..)|apply WP.block|apply WP.seq
  refine WP.S lD fun _ z=>?_
  simp +decide only[TF,↓reduceIte]
  refine aj.P (Vp l false k hlt hn nofun hl) rfl rfl ?_
  simp +decide only[TF,↓reduceIte]
  apply z;clear z
  refine WP.S lD fun _ z=>?_;simp +decide only[TF,↓reduceIte];apply z;clear z
  refine WP.cond rfl (fun q3=>?_) (fun q3=>?_)
  ·refine WP.S lD fun _ z=>?_;simp +decide only[TF,q3,↓reduceIte];apply z;clear z
   apply WP.ret
   exact Ends.P rfl (Le.of_eq (by simp +decide only[St.get,W,dZ,q1,q3,hI,↓reduceIte]))
  iterate 2 first|(refine WP.R fun _ z=>?_;simp +decide only[TF,q3,↓reduceIte];apply z;clear z)|(apply WP.skip;show WP ..)
  show ∃y,_∧Weak _ _ _
  refine⟨⟨k+1,?_⟩,?_,?_⟩
  ·exact⟨by omega,by first|(simpa [q1,hk,q2,hg,hnf,q3] using hI)|(simp_all;done)⟩
  ·dsimp only;omega
  exact Weak.store (by simp[St.get,lk,Le.refl,hnf,aT hlt (show l.length≤140737488355328 by omega)]) (by simp[lk]) (by simp[lk]) (by simp[aA,lk]) (by simp[lk])
 have hge:=aN q2
 rw[eP hge] at hI
 simp only[zI] at hI
 iterate 2 first|(refine WP.S lD fun _ z=>?_;simp +decide only[TF,q2,↓reduceIte];apply z;clear z)|(apply WP.exit;show WP ..)
 apply WP.ret
 exact Ends.P rfl (Le.of_eq (by simp +decide only[St.get,W,dZ,q1,hI,↓reduceIte]))
abbrev iw:List Nat:=[0,2,3,4,7,11,20,27,30,43,49]
theorem YE (l:List Key)(nl:Bool)(hn:l.length≤1099511627776)(hnl:nl=true→l=[])(hl:∀k∈l,k.ok):ak Pr 126 [.slice 6 nl (l.map Key.cs) none] (.int .i64 (dZ l)):=by
 refine ak.W Tryz.func126 Tryz.ntmps126 ?_
 simp only[ay]
 iterate 3 first|(refine WP.S iw fun _ z=>?_;simp +decide only[TF,↓reduceIte];apply z;clear z)|apply WP.seq
 refine WP.cond rfl (fun q1=>?_) (fun q1=>?_)
 ·refine WP.S iw fun _ z=>?_;simp +decide only[TF,q1,↓reduceIte];apply z;clear z
  apply WP.ret
  exact Ends.P rfl (Le.of_eq (by simp +decide only[St.get,W,dZ,q1,↓reduceIte]))
 iterate 2 first|(apply WP.skip;show WP ..)|apply WP.seq
 refine WP.S [0,3] fun _ z=>?_;simp +decide only[TF,q1,↓reduceIte];apply z;clear z
 apply WP.block
 refine WP.lp [0] (X:={k:Nat // k≤l.length∧zI [] l=zI (l.take k) (l.drop k)}) (fun x=>match x with| ⟨(k),_⟩=>[(3,.int .i64 k)]) (fun x=>match x with| ⟨(k),_⟩=>[]) (fun x=>match x with| ⟨(k),_⟩=>l.length - k) (by simp +decide only[W,↓reduceIte];rfl) ?_ ⟨(0),⟨Nat.zero_le _,by simp⟩⟩ ?_
 rotate_left
 ·exact Weak.store (by simp[St.get,lk,W,Le.refl]) (by simp[lk]) (by simp[lk]) (by simp[aA,lk]) (by simp[lk])
 rintro ⟨k,hk,hI⟩
 dsimp only
 simp only[List.cons_append,List.nil_append]
 iterate 2 first|(refine WP.S iw fun _ z=>?_;simp +decide only[TF,↓reduceIte];apply z;clear z)|apply WP.seq
 refine WP.cond rfl (fun q2=>?_) (fun q2=>?_)
 ·have hlt:=aK q2
  have hg:(l.map Key.cs)[k]?=some [.str l[k].id,.str l[k].sec,.int .i64 l[k].sf,.int .i64 l[k].su,.int .i64 l[k].af,.int .i64 l[k].au]:=getM hlt
  have hnf:=bH hnl hlt
  rw[dI hlt] at hI
  simp only[zI] at hI
  have hk1:=hl _ (List.getElem_mem hlt)
  have hke:keyE (l.take k) l[k]=keyE (l.take k) l[k]:=rfl
  iterate 4 first|(apply WP.skip;show WP ..)|apply WP.block|apply WP.seq
  refine WP.S iw fun _ z=>?_
  simp +decide only[TF,q2,hg,hnf,↓reduceIte]
  refine aj.P (wL l[k].id (by have:=hk1.1;omega)) rfl rfl ?_
  simp +decide only[TF,↓reduceIte]
  apply z;clear z
  refine WP.cond rfl (fun q3=>?_) (fun q3=>?_)
  ·simp only[Bool.not_eq_true'] at q3
   refine WP.S iw fun _ z=>?_;simp +decide only[TF,q3,↓reduceIte];apply z;clear z
   apply WP.ret
   exact Ends.P rfl (Le.of_eq (by simp +decide only[St.get,W,dZ,keyE,q1,q3,hI,↓reduceIte]))
  simp only[Bool.not_eq_false'] at q3
  iterate 2 first|(apply WP.skip;show WP ..)|apply WP.seq
  refine WP.S iw fun _ z=>?_
  simp +decide only[TF,hg,q3,↓reduceIte]
  refine aj.P (DF l[k].sec (by have:=hk1.2;omega)) rfl rfl ?_
  simp +decide only[TF,↓reduceIte]
  apply z;clear z
  refine WP.cond rfl (fun q4=>?_) (fun q4=>?_)
  ·simp only[Bool.not_eq_true'] at q4
   refine WP.S iw fun _ z=>?_;simp +decide only[TF,q4,↓reduceIte];apply z;clear z
   apply WP.ret
   exact Ends.P rfl (Le.of_eq (by simp +decide only[St.get,W,dZ,keyE,q1,q3,q4,hI,↓reduceIte]))
  simp only[Bool.not_eq_false'] at q4
  iterate 2 first|(apply WP.skip;show WP ..)|apply WP.seq
  refine WP.S [0,3,4] fun _ z=>?_;simp +decide only[TF,q4,↓reduceIte];apply z;clear z
  apply WP.block
  refine WP.lp [0,3] (X:={j:Nat // j≤k∧(l.take k).any (fun q=>q.id == l[k].id)=((l.take k).drop j).any (fun q=>q.id == l[k].id)}) (fun x=>match x with| ⟨(j),_⟩=>[(4,.int .i64 j)]) (fun x=>match x with| ⟨(j),_⟩=>[]) (fun x=>match x with| ⟨(j),_⟩=>k - j) (by simp +decide only[W,↓reduceIte];rfl) ?_ ⟨(0),⟨Nat.zero_le _,by simp⟩⟩ ?_
  rotate_left
  ·exact Weak.store (by simp[St.get,lk,W,Le.refl]) (by simp[lk]) (by simp[lk]) (by simp[aA,lk]) (by simp[lk])
  rintro ⟨j,hj,hJ⟩
  dsimp only
  simp only[List.cons_append,List.nil_append]
  iterate 2 first|(refine WP.S iw fun _ z=>?_;simp +decide only[TF,↓reduceIte];apply z;clear z)|apply WP.seq
  refine WP.cond rfl (fun q5=>?_) (fun q5=>?_)
  ·have hjk:j<k:=by have:=of_decide_eq_true q5;omega
   have hjl:j<l.length:=by omega
   have hgj:(l.map Key.cs)[j]?=some [.str l[j].id,.str l[j].sec,.int .i64 l[j].sf,.int .i64 l[j].su,.int .i64 l[j].af,.int .i64 l[j].au]:=getM hjl
   have htj:j<(l.take k).length:=by simp;omega
   rw[dI htj,List.any_cons,List.getElem_take] at hJ
   iterate 4 first|(refine WP.D iw fun _ z=>?_;simp +decide only[TF,hg,q5,hgj,↓reduceIte];refine z _ _ (by kernel_rfl) ?_;clear z)|(apply WP.skip;show WP ..)|apply WP.block|apply WP.seq
   refine WP.cond rfl (fun q6=>?_) (fun q6=>?_)
   ·refine WP.S iw fun _ z=>?_;simp +decide only[TF,q6,↓reduceIte];apply z;clear z
    apply WP.ret
    exact Ends.P rfl (Le.of_eq (by simp +decide only[St.get,W,dZ,keyE,q1,q3,q4,q6,hJ,hI,↓reduceIte]))
   iterate 2 first|(refine WP.R fun _ z=>?_;simp +decide only[TF,q6,↓reduceIte];apply z;clear z)|(apply WP.skip;show WP ..)
   show ∃y,_∧Weak _ _ _
   refine⟨⟨j+1,?_⟩,?_,?_⟩
   ·exact⟨by omega,by first|(simpa [q1,hk,q2,hg,hnf,q3,q4,hj,q5,hgj,q6] using hJ)|(simp_all;done)⟩
   ·dsimp only;omega
   exact Weak.store (by simp[St.get,lk,Le.refl,aT hjl (show l.length≤140737488355328 by omega)]) (by simp[lk]) (by simp[lk]) (by simp[aA,lk]) (by simp[lk])
  have hjk:k≤j:=by have:=of_decide_eq_false q5;omega
  rw[eP (show (l.take k).length≤j by simp;omega)] at hJ
  simp only[List.any_nil] at hJ
  apply WP.exit;show WP ..
  refine WP.S iw fun _ z=>?_
  simp +decide only[TF,hg,q5,↓reduceIte]
  refine aj.P (YD l[k]) rfl rfl ?_
  simp +decide only[TF,↓reduceIte]
  apply z;clear z
  refine WP.cond rfl (fun q7=>?_) (fun q7=>?_)
  ·simp only[Bool.not_eq_true'] at q7
   refine WP.S iw fun _ z=>?_;simp +decide only[TF,q7,↓reduceIte];apply z;clear z
   apply WP.ret
   exact Ends.P rfl (Le.of_eq (by simp +decide only[St.get,W,dZ,keyE,q1,q3,q4,q7,hJ,hI,↓reduceIte]))
  simp only[Bool.not_eq_false'] at q7
  have hk0:keyE (l.take k) l[k]=0:=by clear hI;simp_all[keyE]
  simp only[hk0,bne_self_eq_false,Bool.false_eq_true,if_false] at hI
  iterate 2 first|(refine WP.R fun _ z=>?_;simp +decide only[TF,q7,↓reduceIte];apply z;clear z)|(apply WP.skip;show WP ..)
  show ∃y,_∧Weak _ _ _
  refine⟨⟨k+1,?_⟩,?_,?_⟩
  ·exact⟨by omega,by first|(simpa [q1,hk,q2,hg,hnf,q3,q4,hj,q5,hJ,q7,hk0] using hI)|(simp_all;done)⟩
  ·dsimp only;omega
  exact Weak.store (by simp[St.get,lk,Le.refl,hnf,aT hlt (show l.length≤140737488355328 by omega)]) (by simp[lk]) (by simp[lk]) (by simp[aA,lk]) (by simp[lk])
 have hge:=aN q2
 rw[eP hge] at hI
 simp only[zI] at hI
 iterate 2 first|(refine WP.S iw fun _ z=>?_;simp +decide only[TF,q2,↓reduceIte];apply z;clear z)|(apply WP.exit;show WP ..)
 apply WP.ret
 exact Ends.P rfl (Le.of_eq (by simp +decide only[St.get,W,dZ,q1,hI,↓reduceIte]))
theorem SC (id:List UInt8)(now skew:Int):∀(l:List Key) (c:Int),0≤c→(Lh (fun k=>k.id == id) l c=-1∧kV l id now skew=(dK,26))∨
  ∃(i:Nat) (h:i<l.length),Lh (fun k=>k.id == id) l c=c+i∧kV l id now skew=(if (f_ l[i].af l[i].au now skew != 0)=true then (dK,f_ l[i].af l[i].au now skew) else (l[i],0))
 | [],c,_=> .inl ⟨rfl,rfl⟩
 |k::t,c,hc=>by
  by_cases h:(k.id == id)=true
  ·exact .inr ⟨0,by simp,by simp[Lh,h],by simp[kV,h]⟩
  ·rcases SC id now skew t (c+1) (by omega) with⟨h1,h2⟩ | ⟨i,hi,h1,h2⟩
   ·exact .inl ⟨by simp only[Lh,h];exact h1,by simp only[kV,h];exact h2⟩
   ·refine .inr ⟨i+1,by simpa using hi,?_,?_⟩
    ·simp only[Lh,h,Bool.false_eq_true,if_false];rw[h1];omega
    ·simp only[kV,h,Bool.false_eq_true,if_false];rw[h2];rfl
theorem YF (l:List Key)(id:List UInt8)(now skew:Int):(Lh (fun k=>k.id == id) l 0=-1∧kV l id now skew=(dK,26))∨
  ∃(i:Nat) (h:i<l.length),Lh (fun k=>k.id == id) l 0=i∧kV l id now skew=(if (f_ l[i].af l[i].au now skew != 0)=true then (dK,f_ l[i].af l[i].au now skew) else (l[i],0)):=by
 rcases SC id now skew l 0 (Int.le_refl 0) with h | ⟨i,h,h1,h2⟩
 ·exact .inl h
 ·exact .inr ⟨i,h,by simpa using h1,h2⟩
theorem N7 (k:Key)(t:List Key)(id:List UInt8)(now skew:Int):kV (k::t) id now skew=if k.id == id then (if (f_ k.af k.au now skew != 0)=true then (dK,f_ k.af k.au now skew) else (k,0)) else kV t id now skew:=rfl
theorem N8:∀(l seen:List Key),zI seen l=0→∀k∈l,keyE [] k=0
 | [],_,_,k,hk=>by simp at hk
 |q::t,seen,h,k,hk=>by
  rw[zI] at h
  split at h
  ·rename_i h1;rw[h] at h1;simp at h1
  ·rename_i h1
   rcases List.mem_cons.1 hk with rfl|hk
   ·simp only[bne_iff_ne,ne_eq,Decidable.not_not] at h1
    unfold keyE at h1 ⊢
    repeat' split at h1
    all_goals first|(cases h1;done)|simp_all
   ·exact N8 t _ h k hk
theorem SE {l:List Key}(h:dZ l=0):∀k∈l,aX k.id=true∧k.id≠[]:=by
 rw[dZ] at h
 split at h
 ·cases h
 intro k hk
 have:=N8 l [] h k hk
 unfold keyE at this
 split at this
 ·cases this
 ·rename_i h1
  have hw:aX k.id=true:=by simpa using h1
  exact⟨hw,(by intro e;rw[e] at hw;simp[aX] at hw)⟩
theorem aa1 {k:Key}(h:k.id≠[]):eqK k dK=false:=by simp[eqK,dK,h]
theorem BH (now:Int)(b k:Key)(t:List Key):Vl now b (k::t)=Vl now (if inB k.sf k.su now && sS b k then k else b) t:=rfl
theorem PN (now:Int)(b:Key):Vl now b []=b:=rfl
theorem ad4 (f u t:Int):inB f u (aZ t)=inB f u t:=by simp only[inB,adR]
theorem PS (a b:Key):eqK a b=true↔a=b:=by
 cases a;cases b;simp[eqK]
theorem zK (h:99<Tryz.prog.types.size):(Tryz.prog.types[99]'h).size=6:=by kernel_rfl
abbrev iq:List Nat:=[0,1,2,3,8,9,10,11,16,27]
theorem SG (l:List Key)(nl:Bool)(id:List UInt8)(now skew:Int)(hn:l.length≤1099511627776)(hnl:nl=true→l=[]):ak Pr 85 [.slice 6 nl (l.map Key.cs) none,.str id,.int .i64 now,.int .i64 skew] (.aJ [.agg [.str (kV l id now skew).1.id,.str (kV l id now skew).1.sec,.int .i64 (kV l id now skew).1.sf,.int .i64 (kV l id now skew).1.su,.int .i64 (kV l id now skew).1.af,.int .i64 (kV l id now skew).1.au],.int .i64 (kV l id now skew).2]):=by
 refine ak.W Tryz.func85 Tryz.ntmps85 ?_
 simp only[ay,Nat.reduceAdd,Nat.zero_add]
 rcases YF l id now skew with⟨hx,hacc⟩ | ⟨i,hi,hx,hacc⟩
 ·refine WP.S iq fun _ z=>?_;simp +decide only[TF,↓reduceIte];apply z;clear z
  refine WP.S iq fun _ z=>?_
  simp +decide only[TF,↓reduceIte]
  refine aj.P (Vm l nl id hn hnl) rfl rfl ?_
  simp +decide only[TF,hx,↓reduceIte]
  apply z;clear z
  iterate 4 first|(refine WP.S iq fun _ z=>?_;simp +decide only[TF,↓reduceIte];apply z;clear z)|refine WP.cT ?_|apply WP.seq
  apply WP.ret
  exact Ends.P (d:= .aJ [_,_]) rfl (Le.of_eq (by simp[St.get,W,aB,zK,dK,hacc]))
 have hnf:=bH hnl hi
 have hg:(l.map Key.cs)[i]?=some [.str l[i].id,.str l[i].sec,.int .i64 l[i].sf,.int .i64 l[i].su,.int .i64 l[i].af,.int .i64 l[i].au]:=getM hi
 have hn0:decide ((i:Int)<0)=false:=by simp
 refine WP.S iq fun _ z=>?_;simp +decide only[TF,hnf,↓reduceIte];apply z;clear z
 refine WP.S iq fun _ z=>?_
 simp +decide only[TF,↓reduceIte]
 refine aj.P (Vm l false id hn nofun) rfl rfl ?_
 simp +decide only[TF,hx,↓reduceIte]
 apply z;clear z
 iterate 5 first|(refine WP.S iq fun _ z=>?_;simp +decide only[TF,hn0,↓reduceIte];apply z;clear z)|(apply WP.skip;show WP ..)|refine WP.cF ?_|apply WP.seq
 refine WP.S iq fun _ z=>?_
 simp +decide only[TF,hg,↓reduceIte]
 refine aj.P (zJ l[i].af l[i].au now skew) rfl rfl ?_
 simp +decide only[TF,↓reduceIte]
 apply z;clear z
 refine WP.S iq fun _ z=>?_;simp +decide only[TF,↓reduceIte];apply z;clear z
 refine WP.cond rfl (fun q1=>?_) (fun q1=>?_)
 ·refine WP.S iq fun _ z=>?_;simp +decide only[TF,q1,↓reduceIte];apply z;clear z
  apply WP.ret
  exact Ends.P (d:= .aJ [_,_]) rfl (Le.of_eq (by simp[St.get,W,aB,zK,dK,hacc,q1]))
 iterate 2 first|(refine WP.S iq fun _ z=>?_;simp +decide only[TF,hg,q1,↓reduceIte];apply z;clear z)|(apply WP.skip;show WP ..)
 apply WP.ret
 exact Ends.P (d:= .aJ [_,_]) rfl (Le.of_eq (by simp[St.get,W,aB,zK,hacc,q1]))
theorem YG (l:List Key)(nl:Bool)(now:Int)(hn:l.length≤1099511627776)(hnl:nl=true→l=[])(hl:∀k∈l,k.ok):ak Pr 119 [.slice 6 nl (l.map Key.cs) none,.int .i64 now] (.aJ [.agg [.str (qE l now).id,.str (qE l now).sec,.int .i64 (qE l now).sf,.int .i64 (qE l now).su,.int .i64 (qE l now).af,.int .i64 (qE l now).au],.bool (!(eqK (qE l now) dK))]):=by
 refine ak.of_wp Tryz.func119 rfl (by kernel_rfl) Tryz.ntmps119 (by simp) ?_
 simp only[ay,Nat.zero_add]
 refine WP.sr [0,1,4] (by kernel_rfl) fun K hK=>?_
 simp +decide only[TF,↓reduceIte]
 refine hK _ _ ?_;clear hK K
 refine WP.sr [0,1,4] (by kernel_rfl) fun K hK=>?_
 simp +decide only[TF,↓reduceIte]
 refine aj.pure (SB _) rfl rfl (by simp[-List.map_take]) ?_
 simp +decide only[TF,↓reduceIte]
 refine hK _ _ ?_;clear hK K
 refine WP.sr [0,1,4,6] (by kernel_rfl) fun K hK=>?_
 simp +decide only[TF,↓reduceIte]
 refine hK _ _ ?_;clear hK K
 refine WP.seq ?_
 refine WP.sr [0,1,4,6,14] (by kernel_rfl) fun K hK=>?_
 simp +decide only[TF,↓reduceIte]
 refine aj.pure (NZ l nl hn hnl hl) rfl rfl (by simp[-List.map_take]) ?_
 simp +decide only[TF,↓reduceIte]
 refine hK _ _ ?_;clear hK K
 refine WP.cond (b:=_) rfl (fun q1=>?_) (fun q1=>?_)
 ·
  have hs:qE l now=dK:=by simp[qE,q1]
  refine WP.sr [4,5] (by kernel_rfl) fun K hK=>?_
  simp +decide only[TF,q1,↓reduceIte]
  refine hK _ _ ?_;clear hK K
  refine WP.ret ?_
  exact Ends.pure (d:= .aJ [_,_]) (.inr rfl) rfl (Le.of_eq (by simp[St.get,W,aB,zK,hs,dK,eqK])) (by simp)
 ·
  have hs:qE l now=Vl now dK l:=by simp[qE,q1]
  refine WP.skip ?_
  show WP _ _ _ _ _ _
  refine WP.seq ?_
  refine WP.sr [1,4,6,16,17,18] (by kernel_rfl) fun K hK=>?_
  simp +decide only[TF,q1,↓reduceIte]
  refine hK _ _ ?_;clear hK K
  refine WP.block ?_
  refine WP.lp [1,4,6,16,17] (X:={x:(Nat) × (Key) // match x with|(k,b)=>k≤l.length∧Vl now dK l=Vl now b (l.drop k)}) (fun x=>match x with| ⟨(k,b),_⟩=>[(18,.int .i64 k)]) (fun x=>match x with| ⟨(k,b),_⟩=>[(0,.box 99 [.str [],.str [],.int .i64 0,.int .i64 0,.int .i64 0,.int .i64 0]),(1,.box 99 [.str b.id,.str b.sec,.int .i64 b.sf,.int .i64 b.su,.int .i64 b.af,.int .i64 b.au])]) (fun x=>match x with| ⟨(k,b),_⟩=>l.length - k) (by simp +decide only[W,↓reduceIte];rfl) ?_ ⟨(0,dK),⟨Nat.zero_le _,by simp⟩⟩ ?_
  rotate_left
  ·exact Weak.store (by simp[St.get,lk,W,Le.refl]) (by simp[lk,dK]) (by simp[lk]) (by simp[aA,lk]) (by simp[lk])
  rintro ⟨⟨k,b⟩,hk,hI⟩
  dsimp only
  simp only[List.cons_append,List.nil_append]
  refine WP.sr [1,4,6,16,17,18,19] (by kernel_rfl) fun K hK=>?_
  simp +decide only[TF,↓reduceIte]
  refine hK _ _ ?_;clear hK K
  refine WP.seq ?_
  refine WP.cond (b:=_) rfl (fun q2=>?_) (fun q2=>?_)
  ·
   have hlt:=aK q2
   have hg:(l.map Key.cs)[k]?=some [.str l[k].id,.str l[k].sec,.int .i64 l[k].sf,.int .i64 l[k].su,.int .i64 l[k].af,.int .i64 l[k].au]:=getM hlt
   have hnf:=bH hnl hlt
   rw[dI hlt] at hI
   simp only[BH] at hI
   refine WP.skip ?_
   show WP _ _ _ _ _ _
   refine WP.seq ?_
   refine WP.block ?_
   refine WP.sr [1,4,6,8,16,17,18] (by kernel_rfl) fun K hK=>?_
   simp +decide only[TF,q2,hg,hnf,↓reduceIte]
   refine hK _ _ ?_;clear hK K
   refine WP.seq ?_
   refine WP.sr [1,4,6,8,16,17,18,26] (by kernel_rfl) fun K hK=>?_
   simp +decide only[TF,↓reduceIte]
   refine aj.pure (ag0 _ _ _) rfl rfl (by simp[-List.map_take]) ?_
   simp +decide only[TF,ad4,↓reduceIte]
   refine hK _ _ ?_;clear hK K
   refine WP.cond (b:=_) rfl (fun q3=>?_) (fun q3=>?_)
   ·
    simp only[Bool.not_eq_true'] at q3
    have hni:inB l[k].sf l[k].su now=false:=by simpa using q3
    simp only[hni,Bool.false_and,Bool.false_eq_true,if_false] at hI
    refine WP.exit ?_
    show WP _ _ _ _ _ _
    refine WP.region (by kernel_rfl) fun K hK=>?_
    simp +decide only[TF,q3,↓reduceIte]
    refine hK _ _ ?_;clear hK K
    show ∃y,_∧Weak _ _ _
    refine⟨⟨(k+1,b),?_⟩,?_,?_⟩
    ·exact⟨by omega,hI⟩
    ·dsimp only;omega
    ·exact Weak.store (by simp[St.get,lk,Le.refl,hnf,aT hlt (show l.length≤140737488355328 by omega)]) (by simp[lk]) (by simp[lk]) (by simp[aA,lk]) (by simp[lk])
   ·
    simp only[Bool.not_eq_false'] at q3
    have hni:inB l[k].sf l[k].su now=true:=by simpa using q3
    simp only[hni,Bool.true_and] at hI
    refine WP.skip ?_
    show WP _ _ _ _ _ _
    refine WP.sm [1,4,6,8,16,17,18] 54 (.bool (sS b l[k])) (by kernel_rfl) (fun K hK=>?_) ?_
    ·
     refine ah.take 4 fun J hJ=>?_
     simp +decide only[TF,q3,↓reduceIte]
     refine hJ _ _ ?_;clear hJ J
     refine ah.part 30 rfl (fun q4=>?_) (fun q4=>?_)
     ·
      simp +decide only[TF,q4,↓reduceIte]
      exact hK _ _ (by simp[St.get,lk,W]) rfl (Le.of_eq (by simp_all[St.get,lk,W,bne,sS,eqK,dK,gtB]))
     ·
      refine ah.take 9 fun J hJ=>?_
      simp +decide only[TF,q4,↓reduceIte]
      refine hJ _ _ ?_;clear hJ J
      refine ah.part 39 rfl (fun q5=>?_) (fun q5=>?_)
      ·
       simp +decide only[TF,q5,↓reduceIte]
       exact hK _ _ (by simp[St.get,lk,W]) rfl (Le.of_eq (by simp[St.get,lk,sS,eqK,dK,gtB,q5]))
      ·
       refine ah.take 8 fun J hJ=>?_
       simp +decide only[TF,q5,↓reduceIte]
       refine hJ _ _ ?_;clear hJ J
       refine ah.part 47 rfl (fun q6=>?_) (fun q6=>?_)
       ·
        simp +decide only[TF,q6,↓reduceIte]
        exact hK _ _ (by simp[St.get,lk,W]) rfl (Le.of_eq (by simp_all[St.get,lk,W,bne,sS,eqK,dK,gtB]))
       ·
        simp +decide only[TF,q6,↓reduceIte]
        exact hK _ _ (by simp[St.get,lk,W]) rfl (Le.of_eq (by simp_all[St.get,lk,W,bne,sS,eqK,dK,gtB]))
    ·
     refine WP.cond (b:=_) rfl (fun q7=>?_) (fun q7=>?_)
     ·
      have hbt:=q7
      simp only[hbt,if_true] at hI
      refine WP.region (by kernel_rfl) fun K hK=>?_
      simp +decide only[TF,q3,q7,↓reduceIte]
      refine hK _ _ ?_;clear hK K
      show WP _ _ _ _ _ _
      refine WP.region (by kernel_rfl) fun K hK=>?_
      simp +decide only[TF,↓reduceIte]
      refine hK _ _ ?_;clear hK K
      show ∃y,_∧Weak _ _ _
      refine⟨⟨(k+1,l[k]),?_⟩,?_,?_⟩
      ·exact⟨by omega,hI⟩
      ·dsimp only;omega
      ·exact Weak.store (by simp[St.get,lk,Le.refl,hnf,aT hlt (show l.length≤140737488355328 by omega)]) (by simp[lk]) (by simp[lk]) (by simp[aA,lk]) (by simp[lk])
     ·
      simp only[q7,Bool.false_eq_true,if_false] at hI
      refine WP.skip ?_
      show WP _ _ _ _ _ _
      refine WP.region (by kernel_rfl) fun K hK=>?_
      simp +decide only[TF,q3,q7,↓reduceIte]
      refine hK _ _ ?_;clear hK K
      show ∃y,_∧Weak _ _ _
      refine⟨⟨(k+1,b),?_⟩,?_,?_⟩
      ·exact⟨by omega,hI⟩
      ·dsimp only;omega
      ·exact Weak.store (by simp[St.get,lk,Le.refl,hnf,aT hlt (show l.length≤140737488355328 by omega)]) (by simp[lk]) (by simp[lk]) (by simp[aA,lk]) (by simp[lk])
  ·
   have hge:=aN q2
   rw[eP hge] at hI
   simp only[PN] at hI
   rw[hI] at hs
   refine WP.exit ?_
   show WP _ _ _ _ _ _
   refine WP.sd [4,5] (by kernel_rfl) (by kernel_rfl) fun K hK=>?_
   simp +decide only[TF,q2,↓reduceIte]
   refine hK _ _ (by kernel_rfl) ?_
   clear hK K
   refine WP.ret ?_
   exact Ends.pure (d:= .aJ [_,_]) (.inr rfl) rfl (Le.of_eq (by simp[St.get,W,aB,zK,hs,eqK,dK])) (by simp)
abbrev iV:List Nat:=[0,1,4,5,6,7,10,15,25,73]
theorem SH (l:List Key)(nl:Bool)(now:Int)(hn:l.length≤1099511627776)(hnl:nl=true→l=[])(hl:∀k∈l,k.ok):ak Pr 121 [.slice 6 nl (l.map Key.cs) none,.int .i64 now] (.aJ [.agg [.str (qE l now).id,.str (qE l now).sec,.int .i64 (qE l now).sf,.int .i64 (qE l now).su,.int .i64 (qE l now).af,.int .i64 (qE l now).au],.bool (!(eqK (qE l now) dK))]):=by
 refine ak.W Tryz.func121 Tryz.ntmps121 ?_
 simp only[ay,Nat.zero_add]
 iterate 3 first|(refine WP.S iV fun _ z=>?_;simp +decide only[TF,↓reduceIte];apply z;clear z)|apply WP.seq
 refine WP.S iV fun _ z=>?_
 simp +decide only[TF,↓reduceIte]
 refine aj.P (YE l nl hn hnl hl) rfl rfl ?_
 simp +decide only[TF,↓reduceIte]
 apply z;clear z
 refine WP.cond rfl (fun q1=>?_) (fun q1=>?_)
 ·have hs:qE l now=dK:=by simp[qE,q1]
  refine WP.S iV fun _ z=>?_;simp +decide only[TF,q1,↓reduceIte];apply z;clear z
  apply WP.ret
  exact Ends.P (d:= .aJ [_,_]) rfl (Le.of_eq (by simp[St.get,W,aB,zK,hs,dK,eqK]))
 have hs:qE l now=Vl now dK l:=by simp[qE,q1]
 have hcw:=SE (by simpa using q1)
 iterate 2 first|(apply WP.skip;show WP ..)|apply WP.seq
 refine WP.S [0,1,4,6,7] fun _ z=>?_;simp +decide only[TF,q1,↓reduceIte];apply z;clear z
 apply WP.block
 refine WP.lp [0,1,4] (X:={x:(Nat) × (Int) × (Key) // match x with|(k,b,sb)=>k≤l.length∧Vl now dK l=Vl now sb (l.drop k)∧((b=-1∧sb=dK)∨∃i,i<l.length∧b=(i:Int)∧l[i]?=some sb)}) (fun x=>match x with| ⟨(k,b,sb),_⟩=>[(6,.int .i64 b),(7,.int .i64 k)]) (fun x=>match x with| ⟨(k,b,sb),_⟩=>[(0,.box 99 [.str [],.str [],.int .i64 0,.int .i64 0,.int .i64 0,.int .i64 0])]) (fun x=>match x with| ⟨(k,b,sb),_⟩=>l.length - k) (by simp +decide only[W,↓reduceIte];rfl) ?_ ⟨(0,-1,dK),⟨Nat.zero_le _,by simp,.inl ⟨rfl,rfl⟩⟩⟩ ?_
 rotate_left
 ·exact Weak.store (by simp[St.get,lk,W,Le.refl]) (by simp[lk]) (by simp[lk]) (by simp[aA,lk]) (by simp[lk])
 rintro ⟨⟨k,b,sb⟩,hk,hI,hb⟩
 dsimp only
 simp only[List.cons_append,List.nil_append]
 rcases hb with⟨hb1,hb2⟩ | ⟨i,hi,hb1,hsb⟩
 ·have heq:eqK sb dK=true:=by rw[hb2];rfl
  iterate 2 first|(refine WP.S iV fun _ z=>?_;simp +decide only[TF,hb1,↓reduceIte];apply z;clear z)|apply WP.seq
  refine WP.cond rfl (fun q2=>?_) (fun q2=>?_)
  ·have hlt:=aK q2
   have hg:(l.map Key.cs)[k]?=some [.str l[k].id,.str l[k].sec,.int .i64 l[k].sf,.int .i64 l[k].su,.int .i64 l[k].af,.int .i64 l[k].au]:=getM hlt
   have hnf:=bH hnl hlt
   rw[dI hlt] at hI
   simp only[BH] at hI
   iterate 4 first|(apply WP.skip;show WP ..)|apply WP.block|apply WP.seq
   refine WP.S iV fun _ z=>?_
   simp +decide only[TF,q2,hg,hnf,↓reduceIte]
   refine aj.P (aa0 _ _ _) rfl rfl ?_
   simp +decide only[TF,↓reduceIte]
   apply z;clear z
   refine WP.cond rfl (fun q3=>?_) (fun q3=>?_)
   ·simp only[Bool.not_eq_true'] at q3
    have hni:inB l[k].sf l[k].su now=false:=by simpa using q3
    simp only[hni,Bool.false_and,Bool.false_eq_true,if_false] at hI
    iterate 2 first|(refine WP.R fun _ z=>?_;simp +decide only[TF,q3,↓reduceIte];apply z;clear z)|(apply WP.exit;show WP ..)
    show ∃y,_∧Weak _ _ _
    refine⟨⟨(k+1,b,sb),?_⟩,?_,?_⟩
    ·exact⟨by omega,hI,.inl ⟨hb1,hb2⟩⟩
    ·dsimp only;omega
    exact Weak.store (by simp[St.get,lk,Le.refl,hb1,hnf,aT hlt (show l.length≤140737488355328 by omega)]) (by simp[lk]) (by simp[lk]) (by simp[aA,lk]) (by simp[lk])
   simp only[Bool.not_eq_false'] at q3
   have hni:inB l[k].sf l[k].su now=true:=by simpa using q3
   simp only[hni,Bool.true_and] at hI
   apply WP.skip;show WP ..
   refine WP.smd [0,1,4,6,7] 70 (.bool (sS sb l[k])) (by kernel_rfl) (by kernel_rfl) (fun K hK=>?_) ?_
   ·simp +decide only[TF,q3,↓reduceIte]
    exact hK _ _ (by kernel_rfl) (by simp[St.get,lk,W]) rfl (Le.of_eq (by simp[St.get,lk,sS,gtB,heq]))
   refine WP.cond rfl (fun q4=>?_) (fun q4=>?_)
   ·have hbt:=q4
    simp only[hbt,if_true] at hI
    iterate 2 first|(refine WP.R fun _ z=>?_;simp +decide only[TF,q3,q4,↓reduceIte];apply z;clear z;show WP ..)|(refine WP.R fun _ z=>?_;simp +decide only[TF,↓reduceIte];apply z;clear z)
    show ∃y,_∧Weak _ _ _
    refine⟨⟨(k+1,(k:Int),l[k]),?_⟩,?_,?_⟩
    ·exact⟨by omega,hI,.inr ⟨k,hlt,rfl,List.getElem?_eq_getElem hlt⟩⟩
    ·dsimp only;omega
    exact Weak.store (by simp[St.get,lk,Le.refl,hnf,aT hlt (show l.length≤140737488355328 by omega)]) (by simp[lk]) (by simp[lk]) (by simp[aA,lk]) (by simp[lk])
   simp only[q4,Bool.false_eq_true,if_false] at hI
   iterate 2 first|(refine WP.R fun _ z=>?_;simp +decide only[TF,q3,q4,↓reduceIte];apply z;clear z)|(apply WP.skip;show WP ..)
   show ∃y,_∧Weak _ _ _
   refine⟨⟨(k+1,b,sb),?_⟩,?_,?_⟩
   ·exact⟨by omega,hI,.inl ⟨hb1,hb2⟩⟩
   ·dsimp only;omega
   exact Weak.store (by simp[St.get,lk,Le.refl,hb1,hnf,aT hlt (show l.length≤140737488355328 by omega)]) (by simp[lk]) (by simp[lk]) (by simp[aA,lk]) (by simp[lk])
  have hge:=aN q2
  rw[eP hge] at hI
  simp only[PN] at hI
  rw[hI] at hs
  iterate 5 first|(refine WP.S iV fun _ z=>?_;simp +decide only[TF,q2,↓reduceIte];apply z;clear z)|(apply WP.exit;show WP ..)|refine WP.cT ?_|apply WP.seq
  apply WP.ret
  exact Ends.P (d:= .aJ [_,_]) rfl (Le.of_eq (by simp[St.get,W,aB,zK,hs,hb2,dK,eqK]))
 have hmem:sb∈l:=List.mem_of_getElem? hsb
 have heq:eqK sb dK=false:=aa1 (hcw sb hmem).2
 have hgi:(l.map Key.cs)[i]?=some [.str sb.id,.str sb.sec,.int .i64 sb.sf,.int .i64 sb.su,.int .i64 sb.af,.int .i64 sb.au]:=by rw[List.getElem?_map,hsb];rfl
 have hn0:decide ((i:Int)<0)=false:=by simp
 have YH:=bH hnl hi
 have hb0:=hb1
 iterate 2 first|(refine WP.S iV fun _ z=>?_;simp +decide only[TF,hb1,YH,↓reduceIte];apply z;clear z)|apply WP.seq
 refine WP.cond rfl (fun q5=>?_) (fun q5=>?_)
 ·have hlt:=aK q5
  have hg:(l.map Key.cs)[k]?=some [.str l[k].id,.str l[k].sec,.int .i64 l[k].sf,.int .i64 l[k].su,.int .i64 l[k].af,.int .i64 l[k].au]:=getM hlt
  have hnf:=bH hnl hlt
  rw[dI hlt] at hI
  simp only[BH] at hI
  iterate 4 first|(apply WP.skip;show WP ..)|apply WP.block|apply WP.seq
  refine WP.S iV fun _ z=>?_
  simp +decide only[TF,q5,hg,↓reduceIte]
  refine aj.P (aa0 _ _ _) rfl rfl ?_
  simp +decide only[TF,↓reduceIte]
  apply z;clear z
  refine WP.cond rfl (fun q6=>?_) (fun q6=>?_)
  ·simp only[Bool.not_eq_true'] at q6
   have hni:inB l[k].sf l[k].su now=false:=by simpa using q6
   simp only[hni,Bool.false_and,Bool.false_eq_true,if_false] at hI
   iterate 2 first|(refine WP.R fun _ z=>?_;simp +decide only[TF,q6,↓reduceIte];apply z;clear z)|(apply WP.exit;show WP ..)
   show ∃y,_∧Weak _ _ _
   refine⟨⟨(k+1,b,sb),?_⟩,?_,?_⟩
   ·exact⟨by omega,hI,.inr ⟨i,hi,hb1,hsb⟩⟩
   ·dsimp only;omega
   exact Weak.store (by simp[St.get,lk,Le.refl,hb1,YH,aT hlt (show l.length≤140737488355328 by omega)]) (by simp[lk]) (by simp[lk]) (by simp[aA,lk]) (by simp[lk])
  simp only[Bool.not_eq_false'] at q6
  have hni:inB l[k].sf l[k].su now=true:=by simpa using q6
  simp only[hni,Bool.true_and] at hI
  apply WP.skip;show WP ..
  refine WP.smd [0,1,4,6,7] 70 (.bool (sS sb l[k])) (by kernel_rfl) (by kernel_rfl) (fun K hK=>?_) ?_
  ·refine ah.take 18 fun J hJ=>?_
   simp +decide only[TF,hgi,hn0,hg,q6,↓reduceIte]
   refine hJ _ _ ?_;clear hJ J
   refine ah.part 43 rfl (fun q7=>?_) (fun q7=>?_)
   ·simp +decide only[TF,q7,↓reduceIte]
    exact hK _ _ (by kernel_rfl) (by simp[St.get,lk,W]) rfl (Le.of_eq (by simp[St.get,lk,sS,gtB,heq,q7]))
   refine ah.take 14 fun J hJ=>?_
   simp +decide only[TF,hgi,hg,q7,↓reduceIte]
   refine hJ _ _ ?_;clear hJ J
   refine ah.part 57 rfl (fun q8=>?_) (fun q8=>?_)
   ·simp +decide only[TF,hgi,hg,q8,↓reduceIte]
    exact hK _ _ (by kernel_rfl) (by simp[St.get,lk,W]) rfl (Le.of_eq (by simp[St.get,lk,sS,gtB,heq,q7,q8]))
   simp +decide only[TF,q8,↓reduceIte]
   exact hK _ _ (by kernel_rfl) (by simp[St.get,lk,W]) rfl (Le.of_eq (by simp[St.get,lk,sS,gtB,heq,q7,q8]))
  refine WP.cond rfl (fun q9=>?_) (fun q9=>?_)
  ·have hbt:=q9
   simp only[hbt,if_true] at hI
   iterate 2 first|(refine WP.R fun _ z=>?_;simp +decide only[TF,q6,q9,↓reduceIte];apply z;clear z;show WP ..)|(refine WP.R fun _ z=>?_;simp +decide only[TF,↓reduceIte];apply z;clear z)
   show ∃y,_∧Weak _ _ _
   refine⟨⟨(k+1,(k:Int),l[k]),?_⟩,?_,?_⟩
   ·exact⟨by omega,hI,.inr ⟨k,hlt,rfl,List.getElem?_eq_getElem hlt⟩⟩
   ·dsimp only;omega
   exact Weak.store (by simp[St.get,lk,Le.refl,YH,aT hlt (show l.length≤140737488355328 by omega)]) (by simp[lk]) (by simp[lk]) (by simp[aA,lk]) (by simp[lk])
  simp only[q9,Bool.false_eq_true,if_false] at hI
  iterate 2 first|(refine WP.R fun _ z=>?_;simp +decide only[TF,q6,q9,↓reduceIte];apply z;clear z)|(apply WP.skip;show WP ..)
  show ∃y,_∧Weak _ _ _
  refine⟨⟨(k+1,b,sb),?_⟩,?_,?_⟩
  ·exact⟨by omega,hI,.inr ⟨i,hi,hb1,hsb⟩⟩
  ·dsimp only;omega
  exact Weak.store (by simp[St.get,lk,Le.refl,hb1,YH,aT hlt (show l.length≤140737488355328 by omega)]) (by simp[lk]) (by simp[lk]) (by simp[aA,lk]) (by simp[lk])
 have hge:=aN q5
 rw[eP hge] at hI
 simp only[PN] at hI
 rw[hI] at hs
 iterate 6 first|(refine WP.S iV fun _ z=>?_;simp +decide only[TF,hgi,hn0,q5,↓reduceIte];apply z;clear z)|(apply WP.exit;show WP ..)|(apply WP.skip;show WP ..)|refine WP.cF ?_|apply WP.seq
 apply WP.ret
 exact Ends.P (d:= .aJ [_,_]) rfl (Le.of_eq (by simp[St.get,W,aB,zK,hs,heq]))
def flatK (l:List Key):List D:=(l.map Key.cs).flatten
theorem ag2 (t:Nat)(l:List Key):∀x∈l.map Key.cs,∀d∈x,Fr t d:=by
 intro x hx d hd
 obtain⟨k,_,rfl⟩:=List.mem_map.1 hx
 simp only[Key.cs,List.mem_cons,List.not_mem_nil,or_false] at hd
 rcases hd with rfl|rfl|rfl|rfl|rfl|rfl <;> simp
theorem N9 {S:Nat→Prop}(l:List Key):∀d∈flatK l,cZ S d:=by
 intro d hd
 obtain⟨x,hx,hd⟩:=List.mem_flatten.1 hd
 exact (BG l).2 trivial x hx d hd
@[simp] theorem adn {S:Nat→Prop}(l:List Key):(∀d∈flatK l,cZ S d)↔True:=⟨fun _=>trivial,fun _=>N9 l⟩
@[simp] theorem ag3 {S:Nat→Prop}(e:TypeId)(l:List Key):aA S (.arr e (flatK l))↔True:=⟨fun _=>trivial,fun _=>N9 l⟩
structure Del (p:Key→Bool) (l m:List Key) (i j:Nat):Prop where
 len:m.length=l.length
 ij:i<j
 jl:j≤l.length
 pre:m.take i=(l.take j).filter (fun k=>!p k)
 il:((l.take j).filter (fun k=>!p k)).length=i
 post:m.drop j=l.drop j
theorem Del.at {p:Key→Bool}{l m:List Key}{i j:Nat}(h:Del p l m i j)(hj:j<l.length):m[j]'(by rw[h.len];exact hj)=l[j]:=by
 have h1:=dI (l:=m) (k:=j) (by rw[h.len];exact hj)
 have h2:=dI hj
 rw[h.post,h2] at h1
 exact (List.cons.inj h1).1.symm
theorem N_ (p:Key→Bool)(l:List Key)(j:Nat)(hj:j<l.length):(l.take (j+1)).filter (fun k=>!p k)=(l.take j).filter (fun k=>!p k)++(if p l[j] then [] else [l[j]]):=by
 rw[List.take_succ_eq_append_getElem hj,List.filter_append]
 cases h:p l[j] <;> simp[h]
theorem Del.skip {p:Key→Bool}{l m:List Key}{i j:Nat}(h:Del p l m i j)(hj:j<l.length)(hp:p l[j]=true):Del p l m i (j+1):=by
 have hf:=N_ p l j hj
 rw[hp,if_pos rfl,List.append_nil] at hf
 exact⟨h.len,by have:=h.ij;omega,hj,by rw[hf];exact h.pre,by rw[hf];exact h.il,by rw[← List.drop_drop,h.post,List.drop_drop]⟩
theorem Del.keep {p:Key→Bool}{l m:List Key}{i j:Nat}(h:Del p l m i j)(hj:j<l.length)(hp:p l[j]=false):Del p l (m.set i l[j]) (i+1) (j+1):=by
 have hf:=N_ p l j hj
 rw[hp,if_neg (by simp)] at hf
 have hij:=h.ij
 have hlen:=h.len
 refine⟨by simp[h.len],by omega,hj,?_,by rw[hf,List.length_append,h.il];rfl,?_⟩
 ·rw[hf,← h.pre,List.take_succ_eq_append_getElem (by simp;omega),List.take_set_of_le (Nat.le_refl i),List.getElem_set_self]
 ·rw[List.drop_set_of_lt (by omega),← List.drop_drop,h.post,List.drop_drop]
theorem ad5 (l:List Key)(hne:l≠[])(hn:l.length≤1099511627776):aG Pr 150 [.slice 6 false (l.map Key.cs) none] [] (.arr 0 6 l.length) [(0,.arr 99 (flatK l))]:=by
 have hie:l.isEmpty=false:=by cases l <;> simp_all
 refine aG.of_wp Tryz.func150 rfl (by kernel_rfl) Tryz.ntmps150 (by simp) ?_
 simp only[ay,List.map_nil]
 iterate 2 first|(refine WP.S [0,4] fun _ z=>?_;simp +decide only[TF,↓reduceIte];apply z;clear z)|apply WP.seq
 refine WP.S [0,4] fun _ z=>?_;simp +decide only[TF,↓reduceIte];apply z;clear z
 iterate 2 first|(apply WP.skip;show WP ..)|refine WP.cF ?_
 refine WP.meet ⟨[(2,.arr 0 6 (l.map Key.cs).length)],[(0,.arr 99 (flatK l))]⟩ ?_ ?_
 ·refine WP.R fun _ z=>?_
  simp +decide only[TF,↓reduceIte]
  refine⟨⟨by omega,by omega⟩,?_⟩
  apply z;clear z
  show Weak _ _ _
  exact Weak.agC 0 99 6 (l.map Key.cs) 2 (by simp[St.get,lk]) (by simp[lk]) (ag2 0 l) (by intro b hb;simp[lk,hb]) (by simp)
 apply WP.ret
 refine Ends.imp (.inr rfl) rfl (Le.of_eq (by simp +decide only[St.get,lk,W,↓reduceIte])) ?_ ?_ ?_
 ·simp[lk]
 ·simp[lk,aA]
 simp[lk]
theorem SI (f:Nat→Nat)(l:List Key):qQ f (l.map Key.cs)=l.map Key.cs:=by
 rw[pF];simp[dh,Key.cs]
theorem YI (f:Nat→Nat)(l:List Key):jL f (flatK l)=flatK l:=by
 rw[jS,flatK]
 induction l with
 |nil=>rfl
 |cons k t ih=>simp only[List.map_cons,List.flatten_cons,List.map_append,ih];simp[dh,Key.cs]
theorem Vq (a:Nat)(l:List Key)(hne:l≠[])(hn:l.length≤1099511627776):
  aG Pr 150 [.slice 6 false (l.map Key.cs) none] [] (.arr a 6 l.length) [(a,.arr 99 (flatK l))]:=by
 obtain⟨f,g,h1,h2⟩:=kU [a] (by simp)
 have:=aG.rename h1 (ad5 l hne hn)
 have f0:f 0=a:=h2 0 a rfl
 simpa [kG,oP,dh,jL,SI,YI,f0] using this
theorem aa2 {α:Type}(l:List α)(x:α):(l++[x]).isEmpty=false:=by simp
def alh (at_ f u:Int):Int:=if (if at_<u then at_ else u)>f then (if at_<u then at_ else u) else f
def ali (t:Int)(k:Key):Key:={ k with su:=alh t k.sf k.su }
def alj (id sec:List UInt8)(now life SK:Int):Key:=⟨id,sec,aZ now,aZ (aZ now+aZ life),aZ now,aZ (aZ (aZ now+aZ life)+aZ SK)⟩
def ajd (l:List Key)(id sec:List UInt8)(now life:Int):Int:=
 if (dZ l != 0)=true then dZ l else if (!aX id)=true then 5 else if (!bK sec)=true then 4 else if l.any (fun k=>k.id == id)=true then 7
 else if decide (aZ (aZ now+aZ life)≤aZ now)=true then 2 else if decide ((l.length:Int)≥16)=true then 3 else 0
def aje (l:List Key)(id sec:List UInt8)(now life SK:Int):D:=
 if ajd l id sec now life=0 then .aJ [.slice 6 false ((l.map (ali (aZ now))++[alj id sec now life SK]).map Key.cs) none,.int .i64 0] else .aJ [.slice 6 true [] none,.int .i64 (ajd l id sec now life)]
@[simp] theorem ajf {S:Nat→Prop}(l:List Key)(id sec:List UInt8)(now life SK:Int):cZ S (aje l id sec now life SK)↔True:=by
 simp only[iff_true]
 unfold aje
 split
 ·simp only[Hr,List.mem_cons,List.mem_nil_iff,or_false]
  rintro d (rfl|rfl)
  ·rw[mQ];exact⟨(BG _).2 trivial,by simp⟩
  ·simp
 ·simp
abbrev Gs:=List (List UInt8)
def bn (c:UInt8)(acc:List UInt8):List UInt8→Gs
 | []=>[acc]
 |x::t=>if ((x.toNat:Int) == (c.toNat:Int))=true then acc::bn c [] t else bn c (acc++[x]) t
theorem Vr (x c:UInt8):((x.toNat:Int) == (c.toNat:Int))=(x == c):=by
 rw[Bool.eq_iff_iff]
 simp only[beq_iff_eq]
 exact⟨fun e=>UInt8.toNat_inj.1 (by omega),fun e=>by rw[e]⟩
theorem DN (c:UInt8):∀(s:List UInt8),(Lib.index s [c]=-1→∀acc,bn c acc s=[acc++s])∧(∀i:Nat,Lib.index s [c]=i→∀acc,bn c acc s=(acc++s.take i)::bn c [] (s.drop (i+1)))
 | []=>by
  refine⟨fun _ acc=>by simp[bn],fun i h=>?_⟩
  simp[Lib.index] at h
 |x::t=>by
  obtain⟨h1,h2⟩:=DN c t
  have hg:=Lib.index_ge t [c]
  have e:Lib.index (x::t) [c]=if (c == x)=true then 0 else if Lib.index t [c] == -1 then -1 else Lib.index t [c]+1:=by
   rw[Lib.index];simp[List.isPrefixOf]
  by_cases hx:x=c
  ·subst hx
   rw[e]
   refine⟨fun h=>by simp at h,fun i h acc=>?_⟩
   simp at h
   obtain rfl:i=0:=by omega
   simp[bn]
  ·have hcx:(c == x)=false:=by simpa using fun q=>hx q.symm
   have hxc:((x.toNat:Int) == (c.toNat:Int))=false:=by rw[Vr];simpa using hx
   rw[e,hcx]
   simp only[Bool.false_eq_true,if_false]
   by_cases hm:Lib.index t [c]=-1
   ·simp only[hm,beq_self_eq_true,if_true]
    refine⟨fun _ acc=>?_,fun i h=>by omega⟩
    rw[bn,hxc];simp only[Bool.false_eq_true,if_false]
    rw[h1 hm];simp
   ·have hm':(Lib.index t [c] == -1)=false:=by simpa using hm
    rw[hm']
    simp only[Bool.false_eq_true,if_false]
    refine⟨fun h=>by omega,fun i h acc=>?_⟩
    obtain⟨j,rfl⟩:∃j,i=j+1:=⟨i - 1,by omega⟩
    rw[bn,hxc];simp only[Bool.false_eq_true,if_false]
    rw[h2 j (by omega)];simp
theorem JJ (c:UInt8):∀(k:Nat) (s:List UInt8),Lib.count s [c]=k→Lib.splitK [c] 0 k s=bn c [] s
 | 0,s,h=>by
  rcases Lib.index_spec s [c] with⟨h1,_⟩ | ⟨i,h1,_⟩
  ·rw[(DN c s).1 h1];rfl
  ·have:=Lib.count_hit (s:=s) (sub:=[c]) (by simp) h1
   omega
 |k+1,s,h=>by
  rcases Lib.index_spec s [c] with⟨h1,_⟩ | ⟨i,h1,_⟩
  ·have:=Lib.count_miss h1;omega
  ·have h2:=Lib.count_hit (s:=s) (sub:=[c]) (by simp) h1
   rw[Lib.splitK]
   have hne:(Lib.index s [c] == -1)=false:=by rw[h1];rw[beq_eq_false_iff_ne];omega
   rw[hne]
   simp only[Bool.false_eq_true,if_false]
   have hi:(Lib.index s [c]).toNat=i:=by omega
   rw[hi,(DN c s).2 i h1,List.nil_append]
   simp only[List.length_cons,List.length_nil,Nat.zero_add] at h2 ⊢
   rw[JJ c k _ (by omega)]
   rfl
theorem JK (s:List UInt8)(c:UInt8):mX s [c]=bn c [] s:=by
 unfold mX
 rw[Lib.splitB_data]
 exact JJ c _ s rfl
theorem n_ (c:UInt8):∀(s acc:List UInt8),(bn c acc s).length≤s.length+1∧1≤(bn c acc s).length
 | [],acc=>by simp[bn]
 |x::t,acc=>by
  have h1:=n_ c t []
  have h2:=n_ c t (acc++[x])
  unfold bn
  split
  ·simp only[List.length_cons];omega
  ·simp only[List.length_cons];omega
theorem qp (c:UInt8):∀(s acc:List UInt8),∀x∈bn c acc s,x.length≤acc.length+s.length
 | [],acc,x,h=>by simp[bn] at h;subst h;simp
 |y::t,acc,x,h=>by
  unfold bn at h
  split at h
  ·rcases List.mem_cons.1 h with rfl|h
   ·simp
   ·have:=qp c t [] x h
    simp at this ⊢;omega
  ·have:=qp c t (acc++[y]) x h
   simp at this ⊢;omega
theorem ajg (A:List (List UInt8))(a:List UInt8):(A.map fun x=>[D.str x])++[[.str a]]=(A++[a]).map fun x=>[D.str x]:=by simp
theorem Xc:∀s:List UInt8,s.length≤(aF s).length
 | []=>by simp[aF]
 |c::s=>by
  have h1:1≤(vg c).length:=by unfold vg;split <;> simp
  have h2:=Xc s
  simp only[aF,List.flatMap_cons,List.length_append,List.length_cons] at h2 ⊢
  omega
theorem PU {s u:List UInt8}(h:qG s=some u):u.length≤s.length:=by
 have:=((ru s.length s (Nat.le_refl _) u).1 h).2
 rw[← this];exact Xc u
theorem ad6 (v:List UInt8):((qG v).getD []).length≤v.length:=by
 cases h:qG v with
 |none=>simp
 |some u=>exact PU h
theorem BI {n:Int}(h:0≤n∧n≤1099511627776):(Lib.itoa n).length≤21:=Lib.itoa_length_le n (by omega) (by omega)
abbrev BJ:List Nat:=[0,1,4,5,6,7,11,18]
theorem ad7 (s:List UInt8)(c:UInt8)(hs:s.length≤1099511627776):ak Pr 171 [.str s,.int .u8 c.toNat] (.slice 1 false ((bn c [] s).map fun x=>[D.str x]) none):=by
 refine ak.W Tryz.func171 Tryz.ntmps171 ?_
 simp only[ay,Nat.zero_add]
 iterate 4 first|(refine WP.S BJ fun _ z=>?_;simp +decide only[TF,↓reduceIte];apply z;clear z)|apply WP.seq
 refine WP.S [0,1,5,6,7] fun _ z=>?_;simp +decide only[TF,↓reduceIte];apply z;clear z
 apply WP.block
 refine WP.lp [0,1] (X:={x:(Nat) × (Nat) × (Gs) // match x with|(k,f,out)=>f≤k∧out.length≤k∧k≤s.length∧bn c [] s=out++bn c ((s.take k).drop f) (s.drop k)}) (fun x=>match x with| ⟨(k,f,out),_⟩=>[(5,.slice 1 out.isEmpty (out.map (fun x=>[D.str x])) (some 0)),(6,.int .i64 f),(7,.int .i64 k)]) (fun x=>match x with| ⟨(k,f,out),_⟩=>[(0,.aS 9 1 out.length)]) (fun x=>match x with| ⟨(k,f,out),_⟩=>s.length - k) (by simp +decide only[W,↓reduceIte];rfl) ?_ ⟨(0,0,[]),⟨Nat.le_refl _,Nat.le_refl _,Nat.zero_le _,by simp⟩⟩ ?_
 rotate_left
 ·refine Weak.trans (Weak.ghost 0 9 1 (F':=[(7,.int .i64 0),(6,.int .i64 0),(5,.slice 1 true [] (some 0)),(0,.str s),(1,.int .u8 c.toNat)]) (σ':=[]) (by simp[lk]) (by simp[keep,ins,Ac,zC]) (by simp[Dq])) ?_;exact Weak.store (by simp[St.get,lk,Le.refl]) (by simp[lk]) (by simp[lk]) (by simp[aA,lk]) (by simp[lk])
 rintro ⟨⟨k,f,out⟩,hfk,ho,hks,hI⟩
 dsimp only
 simp only[List.cons_append,List.nil_append]
 iterate 2 first|(refine WP.S BJ fun _ z=>?_;simp +decide only[TF,↓reduceIte];apply z;clear z)|apply WP.seq
 refine WP.cond rfl (fun q1=>?_) (fun q1=>?_)
 ·have hlt:=aK q1
  have hg:=j_ hlt
  rw[dI hlt,bn] at hI
  iterate 4 first|(refine WP.S BJ fun _ z=>?_;simp +decide only[TF,q1,hg,↓reduceIte];apply z;clear z)|(apply WP.skip;show WP ..)|apply WP.block|apply WP.seq
  refine WP.cond rfl (fun q2=>?_) (fun q2=>?_)
  ·have hsc:=q2
   refine WP.S BJ fun _ z=>?_
   simp +decide only[TF,hfk,hks,q2,ajg,↓reduceIte]
   refine⟨⟨by simp only[List.length_append,List.length_cons,List.length_nil];omega,by simp only[List.length_append,List.length_cons,List.length_nil];omega⟩,?_⟩
   apply z;clear z
   iterate 2 first|(refine WP.R fun _ z=>?_;simp +decide only[TF,↓reduceIte];apply z;clear z;show WP ..)|(refine WP.R fun _ z=>?_;simp +decide only[TF,↓reduceIte];apply z;clear z)
   show ∃y,_∧Weak _ _ _
   rw[if_pos hsc] at hI
   refine⟨⟨(k+1,k+1,out++[(s.take k).drop f]),?_⟩,?_,?_⟩
   ·exact⟨Nat.le_refl _,by simp;omega,by dsimp only;omega,by rw[hI];simp⟩
   ·dsimp only;omega
   exact Weak.store (by simp[St.get,lk,Le.refl,aa2,aT hlt (show s.length≤140737488355328 by omega)]) (by simp[lk]) (by simp[lk,or_imp,forall_and]) (by simp[aA,lk]) (by simp[lk])
  have hsc:=q2
  iterate 2 first|(refine WP.R fun _ z=>?_;simp +decide only[TF,q2,↓reduceIte];apply z;clear z)|(apply WP.skip;show WP ..)
  show ∃y,_∧Weak _ _ _
  rw[if_neg (by rw[hsc];decide)] at hI
  refine⟨⟨(k+1,f,out),?_⟩,?_,?_⟩
  ·refine⟨by dsimp only;omega,by dsimp only;omega,by dsimp only;omega,?_⟩;dsimp only;rw[hI,MB hlt,List.drop_append_of_le_length (by simp;omega)]
  ·dsimp only;omega
  exact Weak.store (by simp[St.get,lk,Le.refl,aT hlt (show s.length≤140737488355328 by omega)]) (by simp[lk]) (by simp[lk,or_imp,forall_and]) (by simp[aA,lk]) (by simp[lk])
 have hge:=aN q1
 have hfs:f≤s.length:=by omega
 rw[eP hge,List.take_of_length_le hge,bn] at hI
 apply WP.exit;show WP ..
 refine WP.S BJ fun _ z=>?_
 simp +decide only[TF,q1,hfs,ajg,↓reduceIte]
 refine⟨⟨by simp only[List.length_append,List.length_cons,List.length_nil];omega,by simp only[List.length_append,List.length_cons,List.length_nil];omega⟩,?_⟩
 apply z;clear z
 apply WP.ret
 exact Ends.P rfl (Le.trans (Le.fg _) (Le.of_eq (by rw[hI];simp[fg,St.get,W])))
def ad8 (ws:Gs)(i:Nat):List UInt8:=(ws[i]?).getD []
def anF (r:Gs):Bool:=r.any fun x=>(uY x).2 == 4
def anW (r:Gs):Bool:=r.any fun x=>(uY x).2 == 27
def erF (e:Int)(r:Gs):Int:=if anF r then 4 else e
def erK (e:Int)(r:Gs):Int:=if (erF e r == 0 && anW r)=true then 27 else erF e r
def ueB (w:List UInt8):Int:=if (qG w).isSome then 0 else 4
def alk (w0 w1:List UInt8)(r:Gs):Key:=⟨w0,(qG w1).getD [],(uY (ad8 r 0)).1,(uY (ad8 r 1)).1,(uY (ad8 r 2)).1,(uY (ad8 r 3)).1⟩
def Lj (ws:Gs):Key × Int:=
 match ws with
 |w0::w1::r=>if r.length=4 then (if erK (ueB w1) r=0 then (alk w0 w1 r,0) else (dK,erK (ueB w1) r)) else (dK,4)
 | _=>(dK,4)
def arK (r:Gs)(k:Nat):List D:=((r.take k).map fun x=>D.int .i64 (uY x).1)++List.replicate (4 - k) (D.int .i64 0)
@[simp] theorem akC {S:Nat→Prop}(r:Gs)(k:Nat):(∀d∈arK r k,cZ S d)↔True:=by
 simp only[iff_true,arK,List.mem_append,List.mem_map,List.mem_replicate]
 rintro d (⟨x,_,rfl⟩ | ⟨_,rfl⟩) <;> simp
def ajh (x:Key × Int):D:= .aJ [.agg x.1.cs,.int .i64 x.2]
@[simp] theorem aji {S:Nat→Prop}(x:Key × Int):cZ S (ajh x)↔True:=by
 simp[ajh,Key.cs]
def nsK (r:Gs)(k:Nat):List (List D):=(r.take k).map fun x=>[D.int .i64 (uY x).1]
@[simp] theorem akD {S:Nat→Prop}(r:Gs)(k:Nat):(∀e∈nsK r k,∀d∈e,cZ S d)↔True:=by
 simp only[iff_true,nsK,List.mem_map]
 rintro e ⟨x,_,rfl⟩ d hd
 simp only[List.mem_singleton] at hd
 subst hd;simp
def jU (n:Int)(rs:List Key):Gs→List Key × Int × Int
 | []=>(rs,0,0)
 | [l]=>if l=[] then (rs,0,0) else ([],n+1,4)
 |l::m::t=>
  if (Lj (bn 32 [] l)).2=0 then (if dZ (rs++[(Lj (bn 32 [] l)).1])=0 then jU (n+1) (rs++[(Lj (bn 32 [] l)).1]) (m::t) else ([],n+1,dZ (rs++[(Lj (bn 32 [] l)).1])))
  else ([],n+1,(Lj (bn 32 [] l)).2)
def pK (s:List UInt8):List Key × Int × Int:=if 4096<s.length then ([],0,3) else jU 0 [] (bn 10 [] s)
def pKD (x:List Key × Int × Int):D:= .aJ [.slice 6 x.1.isEmpty (x.1.map Key.cs) none,.int .i64 x.2.1,.int .i64 x.2.2]
@[simp] theorem akE {S:Nat→Prop}(x:List Key × Int × Int):cZ S (pKD x)↔True:=by
 simp only[iff_true,pKD,Hr,List.mem_cons,List.mem_nil_iff,or_false]
 rintro d (rfl|rfl|rfl)
 ·rw[mQ];exact⟨(BG _).2 trivial,by simp⟩
 ·simp
 ·simp
theorem aa3 {s:List UInt8}(h:s.length≤4096):pK s=jU 0 [] (bn 10 [] s):=by unfold pK;rw[if_neg (by omega)]
theorem SN (n:Int)(rs:List Key){l:List UInt8}(h:l=[]):jU n rs [l]=(rs,0,0):=by rw[jU,if_pos h]
theorem SQ (n:Int)(rs:List Key){l m:List UInt8}{t:Gs}{k:Key}{e:Int}(h:Lj (bn 32 [] l)=(k,e))(he:¬e=0):jU n rs (l::m::t)=([],n+1,e):=by rw[jU,h];simp only;rw[if_neg he]
theorem SS (n:Int)(rs:List Key){l m:List UInt8}{t:Gs}{k:Key}(h:Lj (bn 32 [] l)=(k,0))(hk:¬dZ (rs++[k])=0):jU n rs (l::m::t)=([],n+1,dZ (rs++[k])):=by rw[jU,h];simp only;rw[if_pos trivial,if_neg hk]
theorem SV (n:Int)(rs:List Key){l m:List UInt8}{t:Gs}{k:Key}(h:Lj (bn 32 [] l)=(k,0))(hk:dZ (rs++[k])=0):jU n rs (l::m::t)=jU (n+1) (rs++[k]) (m::t):=by rw[jU,h];simp only;rw[if_pos trivial,if_pos hk]
theorem JL:dK.ok:=by simp[Key.ok,dK]
theorem Hz (d:Nat)(h:d<10):(UInt8.ofNat (48+d)).toNat=48+d:=by
 simp only[UInt8.toNat_ofNat'];omega
theorem SX (u:Nat):dY (Lib.decDigits u)=u:=by
 induction u using Nat.strongRecOn with
 |ind u ih=>
  by_cases h:u<10
  ·rw[iT u h]
   have:=Hz u h
   simp only[dY,List.foldl_cons,List.foldl_nil]
   omega
  ·rw[lY u (by omega),NM,ih (u / 10) (by omega),Hz (u % 10) (by omega)]
   omega
theorem Xd (d:Nat)(h:d<10):pJ ((UInt8.ofNat (48+d)).toNat:Int)=true:=by
 rw[Hz d h];simp[pJ];omega
theorem Xe (u:Nat):(Lib.decDigits u).all (fun c=>pJ c.toNat)=true:=by
 induction u using Nat.strongRecOn with
 |ind u ih=>
  by_cases h:u<10
  ·rw[iT u h,List.all_cons,Xd u h];rfl
  ·rw[lY u (by omega),List.all_append,ih (u / 10) (by omega),List.all_cons,Xd _ (by omega)];rfl
theorem Vs (u:Nat):∃c t,Lib.decDigits u=c::t∧48≤c.toNat∧c.toNat≤57∧(0<u→c.toNat≠48):=by
 induction u using Nat.strongRecOn with
 |ind u ih=>
  by_cases h:u<10
  ·rw[iT u h]
   have:=Hz u h
   exact⟨_,_,rfl,by omega,by omega,by omega⟩
  ·obtain⟨c,t,h1,h2,h3,h4⟩:=ih (u / 10) (by omega)
   rw[lY u (by omega),h1]
   exact⟨c,_,rfl,h2,h3,fun _=>h4 (by omega)⟩
theorem YJ (c:UInt8)(t:List UInt8):DC (c::t) 0=c.toNat:=rfl
theorem Oa (u:Nat)(z:Bool)(h:0<u∨z=true):gG (Lib.decDigits u) z=true:=by
 have ha:=Xe u
 obtain⟨c,t,h1,h2,h3,h4⟩:=Vs u
 unfold gG
 rw[ha,h1,YJ]
 by_cases h0:0<u
 ·have:((c.toNat:Int) == 48)=false:=by simp;have:=h4 h0;omega
  simp[this]
 ·have hz:z=true:=h.elim (fun h=>absurd h h0) id
  obtain rfl:u=0:=by omega
  rw[iT 0 (by omega)] at h1
  cases h1
  subst hz
  simp
theorem SY (n:Int)(h0:-9223372036854775808≤n)(h1:n≤9223372036854775807):uY (Lib.itoa n)=(n,0):=by
 by_cases h:n<0
 ·rw[itoa_neg n h]
  have hu:dY (Lib.decDigits n.natAbs)=n.natAbs:=SX _
  simp only[uY,↓reduceIte,Oa n.natAbs false (.inl (by omega)),hu]
  rw[if_pos (by omega)]
  congr 1;omega
 ·rw[BD n h]
  have hu:dY (Lib.decDigits n.natAbs)=n.natAbs:=SX _
  have hd:=Oa n.natAbs true (.inr rfl)
  obtain⟨c,t,e1,e2,e3,e4⟩:=Vs n.natAbs
  rw[e1] at hu hd ⊢
  have hc:¬c=45:=by intro hc;subst hc;simp at e2
  simp only[uY,hc,↓reduceIte,hd,hu]
  rw[if_pos (by omega)]
  congr 1;omega
theorem aa4 (c:UInt8)(t:List UInt8):qG (vg c++t)=(qG t).map (c::·):=by
 unfold vg
 cases hp:fA c.toNat with
 |true=>simp only[if_true,List.cons_append,List.nil_append];rw[sQ,hp,if_pos rfl]
 |false=>
  have hb:oU (hexD (c.toNat / 16)) (hexD (c.toNat % 16))=c:=by
   have hq:c.toNat / 16<16:=by have:=c.toNat_lt;omega
   unfold oU
   rw[yg _ hq,yg _ (by omega)]
   simp only[Int.toNat_natCast]
   rw[show c.toNat / 16 * 16+c.toNat % 16=c.toNat by omega]
   exact UInt8.ofNat_toNat
  have hq:¬fV (hexD (c.toNat / 16))<0:=by rw[yg _ (by have:=c.toNat_lt;omega)];omega
  have hr:¬fV (hexD (c.toNat % 16))<0:=by rw[yg _ (by omega)];omega
  simp only[Bool.false_eq_true,if_false,List.cons_append,List.nil_append]
  rw[sQ,WW,if_neg (by simp),if_pos rfl]
  simp only[Bq,hb,hp,hq,hr,or_self,Bool.false_eq_true,if_false]
theorem qw:∀s:List UInt8,qG (aF s)=some s
 | []=>by simp[aF,qG]
 |c::t=>by
  show qG (vg c++aF t)=_
  rw[aa4,qw t];rfl
def wfW (w:List UInt8):Prop:=w≠[]∧(32:UInt8) ∉ w∧(10:UInt8) ∉ w
theorem afO (u:Nat):(32:UInt8) ∉ Lib.decDigits u∧(10:UInt8) ∉ Lib.decDigits u:=by
 have:=Xe u
 simp only[List.all_eq_true] at this
 constructor <;> (intro hm;have:=this _ hm;revert this;decide)
theorem ag4 (n:Int):wfW (Lib.itoa n):=by
 obtain⟨c,t,h1,_⟩:=Vs n.natAbs
 by_cases h:n<0
 ·rw[itoa_neg n h]
  have:=afO n.natAbs
  refine⟨by simp,?_,?_⟩ <;> simp[this]
 ·rw[BD n h]
  exact⟨by rw[h1];simp,afO _⟩
theorem wP (c:UInt8):∀(w acc r:List UInt8),c ∉ w→bn c acc (w++r)=bn c (acc++w) r
 | [],acc,r,_=>by simp
 |x::w,acc,r,h=>by
  have hx:((x.toNat:Int) == (c.toNat:Int))=false:=by
   rw[Vr];simp;rintro rfl;exact h (by simp)
  rw[List.cons_append,bn,hx]
  simp only[Bool.false_eq_true,if_false]
  rw[wP c w _ r (fun hm=>h (List.mem_cons_of_mem _ hm))]
  simp
theorem JM (c:UInt8)(acc r:List UInt8):bn c acc (c::r)=acc::bn c [] r:=by
 rw[bn,Vr];simp
theorem YK (c:UInt8)(w:List UInt8)(h:c ∉ w):bn c [] w=[w]:=by
 have:=wP c w [] [] h
 simpa [bn] using this
theorem afP (c:UInt8)(x y:List UInt8)(r:Gs):Lib.join (x::y::r) [c]=x++c::Lib.join (y::r) [c]:=by
 simp[Lib.join,List.intercalate]
theorem S9 (c:UInt8):∀(ws:Gs),ws≠[]→(∀w∈ws,c ∉ w)→bn c [] (Lib.join ws [c])=ws
 | [],h,_=>absurd rfl h
 | [x],_,h=>by rw[Lib.join_one];exact YK c x (h x (by simp))
 |x::y::r,_,h=>by
  rw[afP,wP c x _ _ (h x (by simp)),JM,S9 c (y::r) (by simp) (fun w hw=>h w (List.mem_cons_of_mem _ hw))]
  rfl
def Key.good (k:Key):Prop:=aX k.id=true∧bK k.sec=true∧jE k=true
theorem S_ (seen:List Key)(k:Key):keyE seen k=0↔k.good∧∀q∈seen,q.id≠k.id:=by
 have ha:seen.any (fun q=>q.id == k.id)=false↔∀q∈seen,q.id≠k.id:=by simp
 rw[← ha]
 unfold keyE Key.good
 cases h1:aX k.id <;> cases h2:bK k.sec <;> cases h3:jE k <;> cases h4:seen.any (fun q=>q.id == k.id) <;> simp
theorem Tc:∀(l seen:List Key),zI seen l=0↔(∀k∈l,k.good)∧(∀k∈l,∀q∈seen,q.id≠k.id)∧l.Pairwise (fun a b=>a.id≠b.id)
 | [],seen=>by simp[zI]
 |k::t,seen=>by
  rw[zI]
  split
  ·rename_i h
   have h0:¬keyE seen k=0:=by simpa using h
   constructor
   ·intro e;exact absurd e h0
   ·rintro ⟨a,b,_⟩
    exact absurd ((S_ seen k).2 ⟨a k (by simp),fun q hq=>b k (by simp) q hq⟩) h0
  ·rename_i h
   have h0:keyE seen k=0:=by simpa using h
   obtain⟨g,u⟩:=(S_ seen k).1 h0
   rw[Tc t (seen++[k])]
   simp only[List.mem_cons,forall_eq_or_imp,List.mem_append,List.not_mem_nil,or_false,List.pairwise_cons]
   constructor
   ·rintro ⟨a,b,c⟩
    exact⟨⟨g,a⟩,⟨u,fun x hx q hq=>b x hx q (.inl hq)⟩,fun x hx=>b x hx k (.inr rfl),c⟩
   ·rintro ⟨⟨_,a⟩,⟨_,b⟩,d,c⟩
    refine⟨a,fun x hx q hq=>?_,c⟩
    rcases hq with hq|rfl
    ·exact b x hx q hq
    ·exact d x hx
theorem Vt (l:List Key):dZ l=0↔l.length≤16∧(∀k∈l,k.good)∧l.Pairwise (fun a b=>a.id≠b.id):=by
 rw[dZ]
 split
 ·rename_i h
  have:¬l.length≤16:=by simp at h;omega
  simp[this]
 ·rename_i h
  have:l.length≤16:=by simp at h;omega
  rw[Tc]
  simp[this]
theorem PV (now:Int):∀(l:List Key) (b:Key),Vl now b l=b∨(Vl now b l∈l∧inB (Vl now b l).sf (Vl now b l).su now=true)
 | [],b=> .inl rfl
 |k::t,b=>by
  rw[BH]
  split
  ·rename_i h
   rw[Bool.and_eq_true] at h
   rcases PV now t k with e | ⟨h1,h2⟩
   ·exact .inr (by rw[e];exact⟨by simp,h.1⟩)
   ·exact .inr ⟨by simp[h1],h2⟩
  ·rcases PV now t b with e | ⟨h1,h2⟩
   ·exact .inl e
   ·exact .inr ⟨by simp[h1],h2⟩
theorem JO {l:List Key}{now:Int}(h:eqK (qE l now) dK=false):dZ l=0∧qE l now∈l∧inB (qE l now).sf (qE l now).su now=true:=by
 unfold qE at h ⊢
 split at h
 ·rw[(PS _ _).2 rfl] at h;cases h
 ·rename_i hc
  have hc0:dZ l=0:=by simpa using hc
  rw[if_neg hc]
  rcases PV now l dK with e|h1
  ·rw[e,(PS _ _).2 rfl] at h;cases h
  ·exact⟨hc0,h1⟩
end Go.Proofs
