import Derived.Test.YtekopfoidhhedaaGreatDoorG19
import Derived.Test.YtekopfoidhhedaaGreatDoorG13
import Derived.Test.YtekopfoidhhedaaGreatDoorG08
set_option linter.unusedVariables false
set_option linter.unusedSimpArgs false
set_option linter.unnecessarySimpa false
namespace Go.Proofs
open Go Go.Id
def OG {α:Type}(p:α→Bool):List α→Int→Int
 | [],_=>-1
 |x::l,i=>if p x then i else OG p l (i+1)
theorem Z4 {α:Type}(p:α→Bool):∀(l:List α) (i:Int),0≤i→decide (OG p l i≥0)=l.any p
 | [],i,_=>by simp[OG]
 |x::l,i,hi=>by
  have ih:=Z4 p l (i+1) (by omega)
  by_cases h:p x=true
  ·have e:OG p (x::l) i=i:=by simp[OG,h]
   simp only[e,apn,h,aoN];simp;omega
  ·have e:OG p (x::l) i=OG p l (i+1):=by simp[OG,h]
   simp only[e,ih,apn];simp[h]
theorem aev {α:Type}(p:α→Bool)(l:List α):decide (OG p l 0≥0)=l.any p:=Z4 p l 0 (Int.le_refl 0)
structure Key where
 id:List UInt8
 sec:List UInt8
 sf:Int
 su:Int
 af:Int
 au:Int
def Key.cs (k:Key):List D:=[.str k.id,.str k.sec,.int .i64 k.sf,.int .i64 k.su,.int .i64 k.af,.int .i64 k.au]
def dP:Key:=⟨[],[],0,0,0,0⟩
@[simp] theorem DT {S:Nat→Prop}(l:List Key):(∀e∈l.map Key.cs,∀d∈e,bY S d)↔True:=by
 simp only[iff_true]
 intro e he d hd
 simp only[List.mem_map] at he
 obtain⟨c,_,rfl⟩:=he
 simp only[Key.cs,ael,List.mem_nil_iff,or_false] at hd
 rcases hd with rfl|rfl|rfl|rfl|rfl|rfl <;> simp
@[simp] theorem MV {S:Nat→Prop}(l:List Key):(∀a∈l,∀d∈a.cs,bY S d)↔True:=by
 simp only[iff_true]
 intro c _ d hd
 simp only[Key.cs,ael,List.mem_nil_iff,or_false] at hd
 rcases hd with rfl|rfl|rfl|rfl|rfl|rfl <;> simp
def Key.ok (k:Key):Prop:=k.id.length≤1099511627776∧k.sec.length≤1099511627776
def inB (f u t:Int):Bool:=decide (f≤aN t) && decide (aN t<u)
def skB (s:Int):Int:=if 600<(if 0>s then 0 else s) then 600 else (if 0>s then 0 else s)
theorem ane (s:Int):(if 600<(if 0>s then 0 else s) then (600:Int) else (if 0>s then 0 else s))=skB s:=rfl
theorem anf (s:Int):(if (if 600<s then 600 else s)>0 then (if 600<s then (600:Int) else s) else 0)=skB s:=by
 unfold skB;repeat' split <;> omega
theorem aew (s:Int):0≤skB s∧skB s≤600:=by unfold skB;repeat' split <;> omega
theorem aex (t s:Int):IntKind.wrap .i64 (aN t+skB s)=aN t+skB s:=by
 have:=Ye t;have:=Yf t;have:=aew s
 exact wrap_i64 (by omega) (by omega)
theorem aey (t s:Int):IntKind.wrap .i64 (aN t - skB s)=aN t - skB s:=by
 have:=Ye t;have:=Yf t;have:=aew s
 exact wrap_i64 (by omega) (by omega)
def jA (f u t s:Int):Int:=if decide (f>u)=true then 2 else if decide (aN t+skB s<f)=true then 14 else if decide (aN t - skB s≥u)=true then 13 else 0
def sortB:List Int→Bool
 |a::b::t=>!(decide (b<a)) && sortB (b::t)
 | _=>true
theorem QS:∀(l:List Int) (i:Nat) (h:i+1<l.length),sortB (l.take (i+2))=(sortB (l.take (i+1)) && !(decide (l[i+1]<l[i])))
 |a::b::t,0,_=>by simp[sortB]
 |a::b::t,i+1,h=>by
  have ih:=QS (b::t) i (by simpa using h)
  simp only[ahL] at ih ⊢
  rw[sortB,ih,sortB]
  simp[Bool.and_assoc]
def lX (k:Key):Bool:=decide (k.af≥0) && decide (k.af≤k.sf) && decide (k.sf≤k.su) && decide (k.su≤k.au) && decide (k.au≤1099511627776) && decide (k.af<k.au)
theorem aez (k:Key):(!(sortB [0,k.af,k.sf,k.su,k.au,1099511627776]) || decide (k.af≥k.au))=!(lX k):=by
 rw[agZ]
 simp only[sortB,lX,Bool.or_eq_true,adh,Bool.and_eq_false_iff,afE,decide_eq_true_eq,decide_eq_false_iff_not,Bool.and_true]
 omega
def keyE (seen:List Key)(k:Key):Int:=
 if (!bg k.id)=true then 5 else if (!b_ k.sec)=true then 4 else if seen.any (fun q=>q.id == k.id)=true then 7 else if (!lX k)=true then 2 else 0
def JK (seen:List Key):List Key→Int
 | []=>0
 |k::t=>if (keyE seen k != 0)=true then keyE seen k else JK (seen++[k]) t
def gq (l:List Key):Int:=if decide ((l.length:Int)>16)=true then 3 else JK [] l
def eqK (a b:Key):Bool:=a.id == b.id && (a.sec == b.sec && (a.sf == b.sf && (a.su == b.su && (a.af == b.af && a.au == b.au))))
def gtB (a b:List UInt8):Bool:=!(Op.bytesLess a b || a == b)
def vG (b k:Key):Bool:=eqK b dP || decide (k.sf>b.sf) || (k.sf == b.sf && gtB k.id b.id)
def Ym (now:Int)(b:Key):List Key→Key
 | []=>b
 |k::t=>Ym now (if inB k.sf k.su now && vG b k then k else b) t
def xG (l:List Key)(now:Int):Key:=if (gq l != 0)=true then dP else Ym now dP l
def jg (l:List Key)(id:List UInt8)(now skew:Int):Key × Int:=
 match l with
 | []=>(dP,26)
 |k::t=>if k.id == id then (if (jA k.af k.au now skew != 0)=true then (dP,jA k.af k.au now skew) else (k,0)) else jg t id now skew
set_option maxRecDepth 10000
set_option maxHeartbeats 4000000
theorem VI (n:Int):ay Pr 180 [.int .i64 n] (.int .i64 (aN n)):=by
 refine gK Tryz.func180 Tryz.ntmps180 ?_
 refine aG 2 [0,2] ?_
 apply WP.ret
 exact Ends.P rfl (Le.of_eq (by simp[St.get,W,aN];repeat' split <;> (try omega)))
theorem VJ (n:Int):ay Pr 70 [.int .i64 n] (.int .i64 (aN n)):=by
 refine gK Tryz.func70 Tryz.ntmps70 ?_
 refine aG 3 [0,2,4,6] ?_
 refine WP.cond rfl (fun q1=>?_) (fun q1=>?_)
 ·refine aJ 1 [0,2,4,6] q1 ?_
  apply WP.ret
  exact Ends.P rfl (Le.of_eq (by first|(simp[St.get,W,aN];done)|(simp_all[St.get,W,aN];repeat' split <;> (try omega);done)))
 refine aJ 3 [0,2,4,6] q1 ?_
 refine WP.cond rfl (fun q2=>?_) (fun q2=>?_)
 ·refine aJ 1 [0,2,4,6] q2 ?_
  apply WP.ret
  exact Ends.P rfl (Le.of_eq (by first|(simp[St.get,W,aN];done)|(simp_all[St.get,W,aN];repeat' split <;> (try omega);done)))
 refine aJ 2 [0,2,4,6] q2 ?_
 apply WP.ret
 exact Ends.P rfl (Le.of_eq (by simp_all[St.get,W,aN];repeat' split <;> (try omega)))
theorem ak2 (f u t:Int):ay Pr 181 [.agg [.int .i64 f,.int .i64 u],.int .i64 t] (.bool (inB f u t)):=by
 refine gK Tryz.func181 Tryz.ntmps181 ?_
 refine aG 1 [1,2,4] ?_
 refine WP.S [1,2,4] fun _ z=>?_
 simp +decide only[TF,↓reduceIte]
 refine aj.P (vk _) rfl rfl ?_
 simp +decide only[TF,↓reduceIte]
 apply z;clear z
 refine WP.S [1,2,4] fun _ z=>?_
 refine ah.take 5 fun J hJ=>?_
 simp +decide only[TF,↓reduceIte]
 refine hJ _ _ ?_;clear hJ J
 refine ah.part 11 rfl (fun q1=>?_) (fun q1=>?_)
 ·simp +decide only[TF,q1,↓reduceIte]
  apply z;clear z
  apply WP.ret
  exact Bv @inB.eq_def q1
 simp +decide only[TF,q1,↓reduceIte]
 apply z;clear z
 apply WP.ret
 exact Bv @inB.eq_def q1
theorem aeA (f u t:Int):ay Pr 182 [.agg [.int .i64 f,.int .i64 u],.int .i64 t] (.bool (inB f u t)):=by
 refine gK Tryz.func182 Tryz.ntmps182 ?_
 refine aG 1 [1,2,4] ?_
 refine WP.D [1,2,4] fun _ z=>?_
 simp +decide only[TF,↓reduceIte]
 refine aj.P (iT _) rfl rfl ?_
 refine ah.take 2 fun J hJ=>?_
 simp +decide only[TF,↓reduceIte]
 refine hJ _ _ ?_;clear hJ J
 refine ah.part 10 rfl (fun q1=>?_) (fun q1=>?_)
 ·simp +decide only[TF,q1,↓reduceIte]
  refine aj.P (iT _) rfl rfl ?_
  simp +decide only[TF,↓reduceIte]
  refine z _ _ (by kernel_rfl) ?_;clear z
  apply WP.ret
  exact Bv @inB.eq_def q1
 simp +decide only[TF,q1,↓reduceIte]
 refine z _ _ (by kernel_rfl) ?_;clear z
 apply WP.ret
 exact Bv @inB.eq_def q1
abbrev kD:List Nat:=[1,2,3,6,7,8,14,20,27]
theorem BP (f u t s:Int):ay Pr 86 [.agg [.int .i64 f,.int .i64 u],.int .i64 t,.int .i64 s] (.int .i64 (jA f u t s)):=by
 refine gK Tryz.func86 Tryz.ntmps86 ?_
 refine aG 1 kD ?_
 refine WP.S kD fun _ z=>?_
 simp +decide only[TF,↓reduceIte]
 refine aj.P (vk _) rfl rfl ?_
 simp +decide only[TF,ane,↓reduceIte]
 apply z;clear z
 refine aG 3 kD ?_
 refine WP.cond rfl (fun q1=>?_) (fun q1=>?_)
 ·refine aJ 1 kD q1 ?_
  apply WP.ret
  exact Bv @jA.eq_def q1
 refine jd 1 kD q1 @aex ?_
 refine WP.cond rfl (fun q2=>?_) (fun q2=>?_)
 ·refine aJ 1 kD q2 ?_
  apply WP.ret
  exact Md @jA.eq_def q1 q2
 refine jd 1 kD q2 @aey ?_
 refine WP.cond rfl (fun q3=>?_) (fun q3=>?_)
 ·refine aJ 1 kD q3 ?_
  apply WP.ret
  exact Yb @jA.eq_def q1 q2 q3
 refine aJ 2 kD q3 ?_
 apply WP.ret
 exact Yb @jA.eq_def q1 q2 q3
abbrev kE:List Nat:=[1,2,3,6,7,15,22,29]
theorem nV (f u t s:Int):ay Pr 132 [.agg [.int .i64 f,.int .i64 u],.int .i64 t,.int .i64 s] (.int .i64 (jA f u t s)):=by
 refine gK Tryz.func132 Tryz.ntmps132 ?_
 refine aJ 4 kE @anf ?_
 refine WP.cond rfl (fun q1=>?_) (fun q1=>?_)
 ·refine aJ 1 kE q1 ?_
  apply WP.ret
  exact Bv @jA.eq_def q1
 refine aG 2 [] ?_
 refine WP.D kE fun _ z=>?_
 simp +decide only[TF,q1,↓reduceIte]
 refine aj.P (iT _) rfl rfl ?_
 simp +decide only[TF,aex,↓reduceIte]
 refine z _ _ (by kernel_rfl) ?_;clear z
 refine WP.cond rfl (fun q2=>?_) (fun q2=>?_)
 ·refine aJ 1 kE q2 ?_
  apply WP.ret
  exact Md @jA.eq_def q1 q2
 refine aG 2 [] ?_
 refine WP.D kE fun _ z=>?_
 simp +decide only[TF,q2,↓reduceIte]
 refine aj.P (iT _) rfl rfl ?_
 simp +decide only[TF,aey,↓reduceIte]
 refine z _ _ (by kernel_rfl) ?_;clear z
 refine WP.cond rfl (fun q3=>?_) (fun q3=>?_)
 ·refine aJ 1 kE q3 ?_
  apply WP.ret
  exact Yb @jA.eq_def q1 q2 q3
 refine aJ 2 kE q3 ?_
 apply WP.ret
 exact Yb @jA.eq_def q1 q2 q3
theorem ahM (k:Key)(id:List UInt8):aF Pr 205 [.agg [.str k.id,.str k.sec,.int .i64 k.sf,.int .i64 k.su,.int .i64 k.af,.int .i64 k.au],.ref 0 0] [(0,.box 9 [.str id])] (.bool (k.id == id)) [(0,.box 9 [.str id])]:=by
 refine qX Tryz.func205 Tryz.ntmps205 ?_
 refine aG 2 [1,2,3] ?_
 apply WP.ret
 exact ZN
theorem FT (l:List Key)(nl:Bool)(id:List UInt8)(hn:l.length≤1099511627776)(hnl:nl=true→l=[]):aF Pr 204 [.slice 6 nl (l.map Key.cs) none,.fn (.func 205) [] [.ref 0 0]] [(0,.box 9 [.str id])] (.int .i64 (OG (fun k=>k.id == id) l 0)) [(0,.box 9 [.str id])]:=by
 refine qX Tryz.func204 Tryz.ntmps204 ?_
 refine aG 4 [0,1,4,5,7,8,9,16] ?_
 refine WP.lp [0,1,7] (X:={k:Nat // k≤l.length∧OG (fun k=>k.id == id) l 0=OG (fun k=>k.id == id) (l.drop k) k}) (fun x=>match x with| ⟨(k),_⟩=>[(8,.int .i64 k)]) (fun x=>match x with| ⟨(k),_⟩=>[(0,.box 9 [.str id])]) (fun x=>match x with| ⟨(k),_⟩=>l.length - k) (by simp +decide only[W,↓reduceIte];rfl) ?_ ⟨(0),⟨ada _,by simp⟩⟩ ?_
 rotate_left
 ·exact QB
 rintro ⟨k,hk,hI⟩
 dsimp only
 simp only[abS,abT]
 refine aG 2 [0,1,4,5,7,8,9,16] ?_
 refine WP.cond rfl (fun q1=>?_) (fun q1=>?_)
 ·have hlt:=aO q1
  have hg:(l.map Key.cs)[k]?=some [.str l[k].id,.str l[k].sec,.int .i64 l[k].sf,.int .i64 l[k].su,.int .i64 l[k].af,.int .i64 l[k].au]:=getM hlt
  have hnf:=aX hnl hlt
  rw[bZ hlt] at hI
  simp only[OG] at hI
  refine CO 5 [0,1,4,5,7,8,9,16] (ahM l[k] id) q1 hnf hg ?_
  refine WP.cond rfl (fun q2=>?_) (fun q2=>?_)
  ·refine aJ 1 [0,1,4,5,7,8,9,16] q2 ?_
   apply WP.ret
   exact zR2 q2 hI
  refine aJ 2 [] q2 ?_
  show ∃y,_∧Weak _ _ _
  refine⟨⟨k+1,?_⟩,?_,?_⟩
  ·exact⟨by omega,by first|(simpa [hk,q1,hg,hnf,q2] using hI)|(simp_all;done)⟩
  ·dsimp only;omega
  exact CP hnf (aU hlt (show l.length≤140737488355328 by omega))
 have hge:=aP q1
 rw[dR hge] at hI
 simp only[OG] at hI
 refine aJ 2 [0,1,4,5,7,8,9,16] q1 ?_
 apply WP.ret
 exact Me hI
theorem Yn (l:List Key)(nl:Bool)(id:List UInt8)(hn:l.length≤1099511627776)(hnl:nl=true→l=[]):ay Pr 143 [.slice 6 nl (l.map Key.cs) none,.str id] (.int .i64 (OG (fun k=>k.id == id) l 0)):=by
 refine gK Tryz.func143 Tryz.ntmps143 ?_
 refine aJ 2 [0,3,4] (FT l nl id hn hnl) ?_
 apply WP.ret
 exact Ya
theorem ahN (n:Int):ay Pr 280 [.int .i64 n] (.bool false):=by
 refine gK Tryz.func280 Tryz.ntmps280 ?_
 refine aG 2 [0,2] ?_
 apply WP.ret
 exact Ya
theorem ak3 (n m:Int):ay Pr 262 [.int .i64 n,.int .i64 m] (.bool (decide (n<m))):=by
 refine gK Tryz.func262 Tryz.ntmps262 ?_
 refine aG 1 [0,1,4] ?_
 refine WP.S [0,1,4] fun _ z=>?_
 simp +decide only[TF,↓reduceIte]
 refine aj.P (ahN _) rfl rfl ?_
 simp +decide only[TF,↓reduceIte]
 apply z;clear z
 apply WP.ret
 exact Ya
theorem abD (k:Key):ay Pr 183 [.agg [.str k.id,.str k.sec,.int .i64 k.sf,.int .i64 k.su,.int .i64 k.af,.int .i64 k.au]] (.bool (lX k)):=by
 refine gK Tryz.func183 Tryz.ntmps183 ?_
 refine aG 1 [1,2] ?_
 refine WP.S [1,2] fun _ z=>?_
 refine ah.take 5 fun J hJ=>?_
 simp +decide only[TF,↓reduceIte]
 refine hJ _ _ ?_;clear hJ J
 refine ah.part 7 rfl (fun q1=>?_) (fun q1=>?_)
 ·refine ah.take 9 fun J hJ=>?_
  simp +decide only[TF,q1,↓reduceIte]
  refine hJ _ _ ?_;clear hJ J
  refine ah.part 16 rfl (fun q2=>?_) (fun q2=>?_)
  ·refine ah.take 9 fun J hJ=>?_
   simp +decide only[TF,q2,↓reduceIte]
   refine hJ _ _ ?_;clear hJ J
   refine ah.part 25 rfl (fun q3=>?_) (fun q3=>?_)
   ·refine ah.take 9 fun J hJ=>?_
    simp +decide only[TF,q3,↓reduceIte]
    refine hJ _ _ ?_;clear hJ J
    refine ah.part 34 rfl (fun q4=>?_) (fun q4=>?_)
    ·refine ah.take 6 fun J hJ=>?_
     simp +decide only[TF,q4,↓reduceIte]
     refine hJ _ _ ?_;clear hJ J
     refine ah.part 40 rfl (fun q5=>?_) (fun q5=>?_)
     ·simp +decide only[TF,q5,↓reduceIte]
      apply z;clear z
      apply WP.ret
      exact zP6 @lX.eq_def q1 q2 q3 q4 q5
     simp +decide only[TF,q5,↓reduceIte]
     apply z;clear z
     apply WP.ret
     exact zP6 @lX.eq_def q1 q2 q3 q4 q5
    simp +decide only[TF,q4,↓reduceIte]
    apply z;clear z
    apply WP.ret
    exact zP5 @lX.eq_def q1 q2 q3 q4
   simp +decide only[TF,q3,↓reduceIte]
   apply z;clear z
   apply WP.ret
   exact Yb @lX.eq_def q1 q2 q3
  simp +decide only[TF,q2,↓reduceIte]
  apply z;clear z
  apply WP.ret
  exact Md @lX.eq_def q1 q2
 simp +decide only[TF,q1,↓reduceIte]
 apply z;clear z
 apply WP.ret
 exact Bv @lX.eq_def q1
theorem Yo (l:List Int)(hne:0<l.length)(hn:l.length≤1099511627776):ay Pr 238 [.slice 1 false (l.map fun x=>[.int .i64 x]) none] (.bool (sortB l)):=by
 have hw0:=ad3 hne (show l.length≤140737488355328 by omega)
 refine gK Tryz.func238 Tryz.ntmps238 ?_
 refine aJ 4 [0,2,3,8,20] hw0 ?_
 refine WP.lp [0] (X:={i:Nat // i<l.length∧sortB l=sortB (l.take (i+1))}) (fun x=>match x with| ⟨(i),_⟩=>[(3,.int .i64 i)]) (fun x=>match x with| ⟨(i),_⟩=>[]) (fun x=>match x with| ⟨(i),_⟩=>i) (by simp +decide only[W,↓reduceIte];rfl) ?_ ⟨(l.length - 1),⟨by omega,by rw[show l.length - 1+1=l.length by omega,ajy]⟩⟩ ?_
 rotate_left
 ·exact QB
 rintro ⟨i,hi,hI⟩
 dsimp only
 simp only[abS,abT]
 refine aG 2 [0,2,3,8,20] ?_
 refine WP.cond rfl (fun q1=>?_) (fun q1=>?_)
 ·obtain⟨j,rfl⟩:∃j,i=j+1:=⟨i - 1,by have:=of_decide_eq_true q1;omega⟩
  have hg1:(l.map fun x=>[D.int .i64 x])[j+1]?=some [.int .i64 l[j+1]]:=getM hi
  have hg0:(l.map fun x=>[D.int .i64 x])[j]?=some [.int .i64 l[j]]:=getM (show j<l.length by omega)
  have hwj:IntKind.wrap .i64 (((j+1:Nat):Int) - 1)=((j:Nat):Int):=by rw[wrap_i64 (by omega) (by omega)];omega
  rw[QS l j hi] at hI
  refine aG 3 [] ?_
  refine WP.D [0,2,3,8,20] fun _ z=>?_
  simp +decide only[TF,q1,hg1,hg0,hwj,↓reduceIte]
  refine aj.P (ak3 _ _) rfl rfl ?_
  simp +decide only[TF,↓reduceIte]
  refine z _ _ (by kernel_rfl) ?_;clear z
  refine WP.cond rfl (fun q2=>?_) (fun q2=>?_)
  ·have hf:sortB l=false:=by rw[hI,q2];simp
   refine aJ 1 [0,2,3,8,20] q2 ?_
   apply WP.ret
   exact Bq hf
  have hI:sortB l=sortB (l.take (j+1)):=by rw[hI,q2];simp
  refine jd 2 [] hwj q2 ?_
  show ∃y,_∧Weak _ _ _
  refine⟨⟨j,?_⟩,?_,?_⟩
  ·exact⟨by omega,hI⟩
  ·dsimp only;omega
  exact QB
 have hi0:i=0:=by have:=of_decide_eq_false q1;omega
 subst hi0
 have hone:sortB (l.take 1)=true:=by match l with| []=>rfl|a::t=>rfl
 rw[hone] at hI
 refine aG 2 [0,2,3,8,20] ?_
 apply WP.ret
 exact Bq hI
abbrev jf:List Nat:=[0,1,4,5,6,11,16,21,53]
theorem Yp (l:List Key)(nl:Bool)(i:Nat)(hi:i<l.length)(hn:l.length≤1099511627776)(hnl:nl=true→l=[])(hl:∀k∈l,k.ok):ay Pr 209 [.slice 6 nl (l.map Key.cs) none,.int .i64 i] (.int .i64 (keyE (l.take i) l[i])):=by
 have hg:(l.map Key.cs)[i]?=some [.str l[i].id,.str l[i].sec,.int .i64 l[i].sf,.int .i64 l[i].su,.int .i64 l[i].af,.int .i64 l[i].au]:=getM hi
 have hnf:=aX hnl hi
 have hk:=hl _ (adb hi)
 have hle:i≤l.length:=by omega
 have hix:=aev (fun q=>q.id == l[i].id) (l.take i)
 have hws:=aez l[i]
 refine gK Tryz.func209 Tryz.ntmps209 ?_
 refine oC 5 jf (S_ l[i].id (by have:=hk.1;omega)) hg hnf ?_
 refine WP.cond rfl (fun q1=>?_) (fun q1=>?_)
 ·refine aJ 1 jf q1 ?_
  apply WP.ret
  exact Bv @keyE.eq_def q1
 refine jd 1 jf (Tc l[i].sec (by have:=hk.2;omega)) q1 ?_
 refine WP.cond rfl (fun q2=>?_) (fun q2=>?_)
 ·refine aJ 1 jf q2 ?_
  apply WP.ret
  exact Md @keyE.eq_def q1 q2
 refine WP.D jf fun _ z=>?_
 simp +decide only[TF,hle,q2,← List.map_take,↓reduceIte]
 refine aj.P (Yn (l.take i) false l[i].id (by simp;omega) nofun) rfl rfl ?_
 simp +decide only[TF,hix,↓reduceIte]
 refine z _ _ (by kernel_rfl) ?_;clear z
 refine WP.cond rfl (fun q3=>?_) (fun q3=>?_)
 ·refine aJ 1 jf q3 ?_
  apply WP.ret
  exact Yb @keyE.eq_def q1 q2 q3
 refine jd 3 jf (Yo [0,l[i].af,l[i].sf,l[i].su,l[i].au,1099511627776] (by simp) (by simp)) q3 ?_
 refine WP.S jf fun _ z=>?_
 refine ah.take 3 fun J hJ=>?_
 simp +decide only[TF,↓reduceIte]
 refine hJ _ _ ?_;clear hJ J
 refine ah.part 45 rfl (fun q4=>?_) (fun q4=>?_)
 ·simp only[adh] at q4
  simp +decide only[TF,q4,↓reduceIte]
  apply z;clear z
  refine aG 2 jf ?_
  apply WP.ret
  exact Ends.P rfl (Le.of_eq (by simp_all[St.get,W,keyE]))
 simp only[afE] at q4
 simp +decide only[TF,q4,↓reduceIte]
 apply z;clear z
 refine WP.cond rfl (fun q5=>?_) (fun q5=>?_)
 ·refine aJ 1 jf q5 ?_
  apply WP.ret
  exact Ends.P rfl (Le.of_eq (by simp_all[St.get,W,keyE]))
 refine aJ 2 jf q5 ?_
 apply WP.ret
 exact Ends.P rfl (Le.of_eq (by simp_all[St.get,W,keyE]))
abbrev ru:List Nat:=[0,2,3,4,7,9,10,11,17]
theorem QT (l:List Key)(nl:Bool)(hn:l.length≤1099511627776)(hnl:nl=true→l=[])(hl:∀k∈l,k.ok):ay Pr 149 [.slice 6 nl (l.map Key.cs) none] (.int .i64 (gq l)):=by
 refine gK Tryz.func149 Tryz.ntmps149 ?_
 refine aG 3 ru ?_
 refine WP.cond rfl (fun q1=>?_) (fun q1=>?_)
 ·refine aJ 1 ru q1 ?_
  apply WP.ret
  exact Bv @gq.eq_def q1
 refine aJ 4 [0,9,10] q1 ?_
 refine WP.lp [0,9] (X:={k:Nat // k≤l.length∧JK [] l=JK (l.take k) (l.drop k)}) (fun x=>match x with| ⟨(k),_⟩=>[(10,.int .i64 k)]) (fun x=>match x with| ⟨(k),_⟩=>[]) (fun x=>match x with| ⟨(k),_⟩=>l.length - k) (by simp +decide only[W,↓reduceIte];rfl) ?_ ⟨(0),⟨ada _,by simp⟩⟩ ?_
 rotate_left
 ·exact QB
 rintro ⟨k,hk,hI⟩
 dsimp only
 simp only[abS,abT]
 refine aG 2 ru ?_
 refine WP.cond rfl (fun q2=>?_) (fun q2=>?_)
 ·have hlt:=aO q2
  have hg:(l.map Key.cs)[k]?=some [.str l[k].id,.str l[k].sec,.int .i64 l[k].sf,.int .i64 l[k].su,.int .i64 l[k].af,.int .i64 l[k].au]:=getM hlt
  have hnf:=aX hnl hlt
  rw[bZ hlt] at hI
  simp only[JK] at hI
  refine oC 6 ru (Yp l false k hlt hn nofun hl) q2 hnf ?_
  refine WP.cond rfl (fun q3=>?_) (fun q3=>?_)
  ·refine aJ 1 ru q3 ?_
   apply WP.ret
   exact Yb @gq.eq_def q1 q3 hI
  refine aJ 2 [] q3 ?_
  show ∃y,_∧Weak _ _ _
  refine⟨⟨k+1,?_⟩,?_,?_⟩
  ·exact⟨by omega,by first|(simpa [q1,hk,q2,hg,hnf,q3] using hI)|(simp_all;done)⟩
  ·dsimp only;omega
  exact CP hnf (aU hlt (show l.length≤140737488355328 by omega))
 have hge:=aP q2
 rw[dR hge] at hI
 simp only[JK] at hI
 refine aJ 2 ru q2 ?_
 apply WP.ret
 exact Md @gq.eq_def q1 hI
abbrev iU:List Nat:=[0,2,3,4,7,11,20,27,30,43,49]
theorem QU (l:List Key)(nl:Bool)(hn:l.length≤1099511627776)(hnl:nl=true→l=[])(hl:∀k∈l,k.ok):ay Pr 126 [.slice 6 nl (l.map Key.cs) none] (.int .i64 (gq l)):=by
 refine gK Tryz.func126 Tryz.ntmps126 ?_
 refine aG 3 iU ?_
 refine WP.cond rfl (fun q1=>?_) (fun q1=>?_)
 ·refine aJ 1 iU q1 ?_
  apply WP.ret
  exact Bv @gq.eq_def q1
 refine aJ 4 [0,3] q1 ?_
 refine WP.lp [0] (X:={k:Nat // k≤l.length∧JK [] l=JK (l.take k) (l.drop k)}) (fun x=>match x with| ⟨(k),_⟩=>[(3,.int .i64 k)]) (fun x=>match x with| ⟨(k),_⟩=>[]) (fun x=>match x with| ⟨(k),_⟩=>l.length - k) (by simp +decide only[W,↓reduceIte];rfl) ?_ ⟨(0),⟨ada _,by simp⟩⟩ ?_
 rotate_left
 ·exact QB
 rintro ⟨k,hk,hI⟩
 dsimp only
 simp only[abS,abT]
 refine aG 2 iU ?_
 refine WP.cond rfl (fun q2=>?_) (fun q2=>?_)
 ·have hlt:=aO q2
  have hg:(l.map Key.cs)[k]?=some [.str l[k].id,.str l[k].sec,.int .i64 l[k].sf,.int .i64 l[k].su,.int .i64 l[k].af,.int .i64 l[k].au]:=getM hlt
  have hnf:=aX hnl hlt
  rw[bZ hlt] at hI
  simp only[JK] at hI
  have hk1:=hl _ (adb hlt)
  have hke:keyE (l.take k) l[k]=keyE (l.take k) l[k]:=rfl
  refine CO 5 iU (iI l[k].id (by have:=hk1.1;omega)) q2 hg hnf ?_
  refine WP.cond rfl (fun q3=>?_) (fun q3=>?_)
  ·simp only[adh] at q3
   refine aJ 1 iU q3 ?_
   apply WP.ret
   exact zP5 @gq.eq_def @keyE.eq_def q1 q3 hI
  simp only[afE] at q3
  refine oC 3 iU (zW l[k].sec (by have:=hk1.2;omega)) hg q3 ?_
  refine WP.cond rfl (fun q4=>?_) (fun q4=>?_)
  ·simp only[adh] at q4
   refine aJ 1 iU q4 ?_
   apply WP.ret
   exact zP6 @gq.eq_def @keyE.eq_def q1 q3 q4 hI
  simp only[afE] at q4
  refine aJ 4 [0,3,4] q4 ?_
  refine WP.lp [0,3] (X:={j:Nat // j≤k∧(l.take k).any (fun q=>q.id == l[k].id)=((l.take k).drop j).any (fun q=>q.id == l[k].id)}) (fun x=>match x with| ⟨(j),_⟩=>[(4,.int .i64 j)]) (fun x=>match x with| ⟨(j),_⟩=>[]) (fun x=>match x with| ⟨(j),_⟩=>k - j) (by simp +decide only[W,↓reduceIte];rfl) ?_ ⟨(0),⟨ada _,by simp⟩⟩ ?_
  rotate_left
  ·exact QB
  rintro ⟨j,hj,hJ⟩
  dsimp only
  simp only[abS,abT]
  refine aG 2 iU ?_
  refine WP.cond rfl (fun q5=>?_) (fun q5=>?_)
  ·have hjk:j<k:=by have:=of_decide_eq_true q5;omega
   have hjl:j<l.length:=by omega
   have hgj:(l.map Key.cs)[j]?=some [.str l[j].id,.str l[j].sec,.int .i64 l[j].sf,.int .i64 l[j].su,.int .i64 l[j].af,.int .i64 l[j].au]:=getM hjl
   have htj:j<(l.take k).length:=by simp;omega
   rw[bZ htj,apn,aoQ] at hJ
   refine oC 4 iU hg q5 hgj ?_
   refine WP.cond rfl (fun q6=>?_) (fun q6=>?_)
   ·refine aJ 1 iU q6 ?_
    apply WP.ret
    exact Ends.P rfl (Le.of_eq (by simp +decide only[St.get,W,gq,keyE,q1,q3,q4,q6,hJ,hI,↓reduceIte]))
   refine aJ 2 [] q6 ?_
   show ∃y,_∧Weak _ _ _
   refine⟨⟨j+1,?_⟩,?_,?_⟩
   ·exact⟨by omega,by first|(simpa [q1,hk,q2,hg,hnf,q3,q4,hj,q5,hgj,q6] using hJ)|(simp_all;done)⟩
   ·dsimp only;omega
   exact zY1 (aU hjl (show l.length≤140737488355328 by omega))
  have hjk:k≤j:=by have:=of_decide_eq_false q5;omega
  rw[dR (show (l.take k).length≤j by simp;omega)] at hJ
  simp only[List.any_nil] at hJ
  refine oC 2 iU (abD l[k]) hg q5 ?_
  refine WP.cond rfl (fun q7=>?_) (fun q7=>?_)
  ·simp only[adh] at q7
   refine aJ 1 iU q7 ?_
   apply WP.ret
   exact Ends.P rfl (Le.of_eq (by simp +decide only[St.get,W,gq,keyE,q1,q3,q4,q7,hJ,hI,↓reduceIte]))
  simp only[afE] at q7
  have hk0:keyE (l.take k) l[k]=0:=by clear hI;simp_all[keyE]
  simp only[hk0,bne_self_eq_false,ag8,if_false] at hI
  refine aJ 2 [] q7 ?_
  show ∃y,_∧Weak _ _ _
  refine⟨⟨k+1,?_⟩,?_,?_⟩
  ·exact⟨by omega,by first|(simpa [q1,hk,q2,hg,hnf,q3,q4,hj,q5,hJ,q7,hk0] using hI)|(simp_all;done)⟩
  ·dsimp only;omega
  exact CP hnf (aU hlt (show l.length≤140737488355328 by omega))
 have hge:=aP q2
 rw[dR hge] at hI
 simp only[JK] at hI
 refine aJ 2 iU q2 ?_
 apply WP.ret
 exact Md @gq.eq_def q1 hI
theorem VK (id:List UInt8)(now skew:Int):∀(l:List Key) (c:Int),0≤c→(OG (fun k=>k.id == id) l c=-1∧jg l id now skew=(dP,26))∨
  ∃(i:Nat) (h:i<l.length),OG (fun k=>k.id == id) l c=c+i∧jg l id now skew=(if (jA l[i].af l[i].au now skew != 0)=true then (dP,jA l[i].af l[i].au now skew) else (l[i],0))
 | [],c,_=> .inl ⟨rfl,rfl⟩
 |k::t,c,hc=>by
  by_cases h:(k.id == id)=true
  ·exact .inr ⟨0,by simp,by simp[OG,h],by simp[jg,h]⟩
  ·rcases VK id now skew t (c+1) (by omega) with⟨h1,h2⟩ | ⟨i,hi,h1,h2⟩
   ·exact .inl ⟨by simp only[OG,h];exact h1,by simp only[jg,h];exact h2⟩
   ·refine .inr ⟨i+1,by simpa using hi,?_,?_⟩
    ·simp only[OG,h,ag8,if_false];rw[h1];omega
    ·simp only[jg,h,ag8,if_false];rw[h2];rfl
theorem abE (l:List Key)(id:List UInt8)(now skew:Int):(OG (fun k=>k.id == id) l 0=-1∧jg l id now skew=(dP,26))∨
  ∃(i:Nat) (h:i<l.length),OG (fun k=>k.id == id) l 0=i∧jg l id now skew=(if (jA l[i].af l[i].au now skew != 0)=true then (dP,jA l[i].af l[i].au now skew) else (l[i],0)):=by
 rcases VK id now skew l 0 (Int.le_refl 0) with h | ⟨i,h,h1,h2⟩
 ·exact .inl h
 ·exact .inr ⟨i,h,by simpa using h1,h2⟩
theorem zY (k:Key)(t:List Key)(id:List UInt8)(now skew:Int):jg (k::t) id now skew=if k.id == id then (if (jA k.af k.au now skew != 0)=true then (dP,jA k.af k.au now skew) else (k,0)) else jg t id now skew:=rfl
theorem aeB (id:List UInt8)(now skew:Int):jg [] id now skew=(dP,26):=rfl
theorem QV:∀(l seen:List Key),JK seen l=0→∀k∈l,keyE [] k=0
 | [],_,_,k,hk=>by simp at hk
 |q::t,seen,h,k,hk=>by
  rw[JK] at h
  split at h
  ·rename_i h1;rw[h] at h1;simp at h1
  ·rename_i h1
   rcases ael.1 hk with rfl|hk
   ·simp only[bne_iff_ne,ne_eq,Decidable.not_not] at h1
    unfold keyE at h1 ⊢
    repeat' split at h1
    all_goals first|(cases h1;done)|simp_all
   ·exact QV t _ h k hk
theorem VL {l:List Key}(h:gq l=0):∀k∈l,bg k.id=true∧k.id≠[]:=by
 rw[gq] at h
 split at h
 ·cases h
 intro k hk
 have:=QV l [] h k hk
 unfold keyE at this
 split at this
 ·cases this
 ·rename_i h1
  have hw:bg k.id=true:=by simpa using h1
  exact⟨hw,(by intro e;rw[e] at hw;simp[bg] at hw)⟩
theorem aeC {k:Key}(h:k.id≠[]):eqK k dP=false:=by simp[eqK,dP,h]
theorem D7 (now:Int)(b k:Key)(t:List Key):Ym now b (k::t)=Ym now (if inB k.sf k.su now && vG b k then k else b) t:=rfl
theorem Tq (now:Int)(b:Key):Ym now b []=b:=rfl
theorem ahO (f u t:Int):inB f u (aN t)=inB f u t:=by simp only[inB,ahE]
theorem Tt (a b:Key):eqK a b=true↔a=b:=by
 cases a;cases b;simp[eqK]
theorem zK (h:99<Tryz.prog.types.size):(Tryz.prog.types[99]'h).size=6:=by kernel_rfl
abbrev ug:List Nat:=[0,1,2,3,8,9,10,11,16,27]
theorem VN (l:List Key)(nl:Bool)(id:List UInt8)(now skew:Int)(hn:l.length≤1099511627776)(hnl:nl=true→l=[]):ay Pr 85 [.slice 6 nl (l.map Key.cs) none,.str id,.int .i64 now,.int .i64 skew] (.aQ [.agg [.str (jg l id now skew).1.id,.str (jg l id now skew).1.sec,.int .i64 (jg l id now skew).1.sf,.int .i64 (jg l id now skew).1.su,.int .i64 (jg l id now skew).1.af,.int .i64 (jg l id now skew).1.au],.int .i64 (jg l id now skew).2]):=by
 refine gK Tryz.func85 Tryz.ntmps85 ?_
 rcases abE l id now skew with⟨hx,hacc⟩ | ⟨i,hi,hx,hacc⟩
 ·refine jd 6 ug (Yn l nl id hn hnl) hx ?_
  apply WP.ret
  exact Ends.P (d:= .aQ [_,_]) rfl (Le.of_eq (by simp[St.get,W,ak,zK,dP,hacc]))
 have hnf:=aX hnl hi
 have hg:(l.map Key.cs)[i]?=some [.str l[i].id,.str l[i].sec,.int .i64 l[i].sf,.int .i64 l[i].su,.int .i64 l[i].af,.int .i64 l[i].au]:=getM hi
 have hn0:decide ((i:Int)<0)=false:=by simp
 refine zG6 9 ug (Yn l false id hn nofun) (BP l[i].af l[i].au now skew) hnf hx hn0 hg ?_
 refine WP.cond rfl (fun q1=>?_) (fun q1=>?_)
 ·refine aJ 1 ug q1 ?_
  apply WP.ret
  exact Ends.P (d:= .aQ [_,_]) rfl (Le.of_eq (by simp[St.get,W,ak,zK,dP,hacc,q1]))
 refine jd 2 ug hg q1 ?_
 apply WP.ret
 exact Ends.P (d:= .aQ [_,_]) rfl (Le.of_eq (by simp[St.get,W,ak,zK,hacc,q1]))
abbrev iM:List Nat:=[0,1,2,3,8,9,10,11,15,24,34]
theorem uJ (l:List Key)(nl:Bool)(id:List UInt8)(now skew:Int)(hn:l.length≤1099511627776)(hnl:nl=true→l=[]):ay Pr 130 [.slice 6 nl (l.map Key.cs) none,.str id,.int .i64 now,.int .i64 skew] (.aQ [.agg [.str (jg l id now skew).1.id,.str (jg l id now skew).1.sec,.int .i64 (jg l id now skew).1.sf,.int .i64 (jg l id now skew).1.su,.int .i64 (jg l id now skew).1.af,.int .i64 (jg l id now skew).1.au],.int .i64 (jg l id now skew).2]):=by
 refine gK Tryz.func130 Tryz.ntmps130 ?_
 refine aG 4 iM ?_
 refine WP.lp [0,1,2,3,8] (X:={k:Nat // k≤l.length∧jg l id now skew=jg (l.drop k) id now skew}) (fun x=>match x with| ⟨(k),_⟩=>[(10,.int .i64 k)]) (fun x=>match x with| ⟨(k),_⟩=>[(0,.box 99 [.str [],.str [],.int .i64 0,.int .i64 0,.int .i64 0,.int .i64 0])]) (fun x=>match x with| ⟨(k),_⟩=>l.length - k) (by simp +decide only[W,↓reduceIte];rfl) ?_ ⟨(0),⟨ada _,by simp⟩⟩ ?_
 rotate_left
 ·exact QB
 rintro ⟨k,hk,hI⟩
 dsimp only
 simp only[abS,abT]
 refine aG 2 iM ?_
 refine WP.cond rfl (fun q1=>?_) (fun q1=>?_)
 ·have hlt:=aO q1
  have hg:(l.map Key.cs)[k]?=some [.str l[k].id,.str l[k].sec,.int .i64 l[k].sf,.int .i64 l[k].su,.int .i64 l[k].af,.int .i64 l[k].au]:=getM hlt
  have hnf:=aX hnl hlt
  rw[bZ hlt] at hI
  simp only[zY] at hI
  refine oC 4 iM q1 hg hnf ?_
  refine WP.cond rfl (fun q2=>?_) (fun q2=>?_)
  ·refine WP.S iM fun _ z=>?_
   simp +decide only[TF,hg,q2,↓reduceIte]
   refine aj.P (nV _ _ _ _) rfl rfl ?_
   simp +decide only[TF,↓reduceIte]
   apply z;clear z
   refine aG 2 iM ?_
   refine WP.cond rfl (fun q3=>?_) (fun q3=>?_)
   ·refine aJ 1 iM q3 ?_
    apply WP.ret
    exact Ends.P (d:= .aQ [_,_]) rfl (Le.of_eq (by simp[St.get,W,ak,zK,hI,dP,q2,q3]))
   refine jd 2 iM hg q3 ?_
   apply WP.ret
   exact Ends.P (d:= .aQ [_,_]) rfl (Le.of_eq (by simp[St.get,W,ak,zK,hI,q2,q3]))
  refine aJ 2 [] q2 ?_
  show ∃y,_∧Weak _ _ _
  refine⟨⟨k+1,?_⟩,?_,?_⟩
  ·exact⟨by omega,by first|(simpa [hk,q1,hg,hnf,q2] using hI)|(simp_all;done)⟩
  ·dsimp only;omega
  exact CP hnf (aU hlt (show l.length≤140737488355328 by omega))
 have hge:=aP q1
 rw[dR hge] at hI
 simp only[aeB] at hI
 refine aJ 2 iM q1 ?_
 apply WP.ret
 exact Ends.P (d:= .aQ [_,_]) rfl (Le.of_eq (by simp[St.get,W,ak,zK,hI,dP]))
theorem abG (l:List Key)(nl:Bool)(now:Int)(hn:l.length≤1099511627776)(hnl:nl=true→l=[])(hl:∀k∈l,k.ok):ay Pr 119 [.slice 6 nl (l.map Key.cs) none,.int .i64 now] (.aQ [.agg [.str (xG l now).id,.str (xG l now).sec,.int .i64 (xG l now).sf,.int .i64 (xG l now).su,.int .i64 (xG l now).af,.int .i64 (xG l now).au],.bool (!(eqK (xG l now) dP))]):=by
 refine gK Tryz.func119 Tryz.ntmps119 ?_
 refine aG 1 [0,1,4] ?_
 refine WP.sr [0,1,4] (by kernel_rfl) fun K hK=>?_
 simp +decide only[TF,↓reduceIte]
 refine aj.pure (VI _) rfl rfl (by simp[-List.map_take]) ?_
 simp +decide only[TF,↓reduceIte]
 refine hK _ _ ?_;clear hK K
 refine aJ 3 [0,1,4,6,14] (QT l nl hn hnl hl) ?_
 refine WP.cond (b:=_) rfl (fun q1=>?_) (fun q1=>?_)
 ·
  have hs:xG l now=dP:=by simp[xG,q1]
  refine aJ 1 [4,5] q1 ?_
  refine WP.ret ?_
  exact Ends.pure (d:= .aQ [_,_]) (.inr rfl) rfl (Le.of_eq (by simp[St.get,W,ak,zK,hs,dP,eqK])) (by simp)
 ·
  have hs:xG l now=Ym now dP l:=by simp[xG,q1]
  refine aJ 4 [1,4,6,16,17,18] q1 ?_
  refine WP.lp [1,4,6,16,17] (X:={x:(Nat) × (Key) // match x with|(k,b)=>k≤l.length∧Ym now dP l=Ym now b (l.drop k)}) (fun x=>match x with| ⟨(k,b),_⟩=>[(18,.int .i64 k)]) (fun x=>match x with| ⟨(k,b),_⟩=>[(0,.box 99 [.str [],.str [],.int .i64 0,.int .i64 0,.int .i64 0,.int .i64 0]),(1,.box 99 [.str b.id,.str b.sec,.int .i64 b.sf,.int .i64 b.su,.int .i64 b.af,.int .i64 b.au])]) (fun x=>match x with| ⟨(k,b),_⟩=>l.length - k) (by simp +decide only[W,↓reduceIte];rfl) ?_ ⟨(0,dP),⟨ada _,by simp⟩⟩ ?_
  rotate_left
  ·exact zY1 @dP.eq_def
  rintro ⟨⟨k,b⟩,hk,hI⟩
  dsimp only
  simp only[abS,abT]
  refine aG 2 [1,4,6,16,17,18,19] ?_
  refine WP.cond (b:=_) rfl (fun q2=>?_) (fun q2=>?_)
  ·
   have hlt:=aO q2
   have hg:(l.map Key.cs)[k]?=some [.str l[k].id,.str l[k].sec,.int .i64 l[k].sf,.int .i64 l[k].su,.int .i64 l[k].af,.int .i64 l[k].au]:=getM hlt
   have hnf:=aX hnl hlt
   rw[bZ hlt] at hI
   simp only[D7] at hI
   refine oC 5 [1,4,6,8,16,17,18] q2 hg hnf ?_
   refine WP.sr [1,4,6,8,16,17,18,26] (by kernel_rfl) fun K hK=>?_
   simp +decide only[TF,↓reduceIte]
   refine aj.pure (ak2 _ _ _) rfl rfl (by simp[-List.map_take]) ?_
   simp +decide only[TF,ahO,↓reduceIte]
   refine hK _ _ ?_;clear hK K
   refine WP.cond (b:=_) rfl (fun q3=>?_) (fun q3=>?_)
   ·
    simp only[adh] at q3
    have hni:inB l[k].sf l[k].su now=false:=by simpa using q3
    simp only[hni,akD,ag8,if_false] at hI
    refine aJ 2 [] q3 ?_
    show ∃y,_∧Weak _ _ _
    refine⟨⟨(k+1,b),?_⟩,?_,?_⟩
    ·exact⟨by omega,hI⟩
    ·dsimp only;omega
    ·exact CP hnf (aU hlt (show l.length≤140737488355328 by omega))
   ·
    simp only[afE] at q3
    have hni:inB l[k].sf l[k].su now=true:=by simpa using q3
    simp only[hni,al5] at hI
    refine aG 1 [] ?_
    refine WP.sm [1,4,6,8,16,17,18] 54 (.bool (vG b l[k])) (by kernel_rfl) (fun K hK=>?_) ?_
    ·
     refine ah.take 4 fun J hJ=>?_
     simp +decide only[TF,q3,↓reduceIte]
     refine hJ _ _ ?_;clear hJ J
     refine ah.part 30 rfl (fun q4=>?_) (fun q4=>?_)
     ·
      simp +decide only[TF,q4,↓reduceIte]
      exact hK _ _ (by simp[St.get,lk,W]) rfl (Le.of_eq (by simp_all[St.get,lk,W,bne,vG,eqK,dP,gtB]))
     ·
      refine ah.take 9 fun J hJ=>?_
      simp +decide only[TF,q4,↓reduceIte]
      refine hJ _ _ ?_;clear hJ J
      refine ah.part 39 rfl (fun q5=>?_) (fun q5=>?_)
      ·
       simp +decide only[TF,q5,↓reduceIte]
       exact hK _ _ (by simp[St.get,lk,W]) rfl (Le.of_eq (by simp[St.get,lk,vG,eqK,dP,gtB,q5]))
      ·
       refine ah.take 8 fun J hJ=>?_
       simp +decide only[TF,q5,↓reduceIte]
       refine hJ _ _ ?_;clear hJ J
       refine ah.part 47 rfl (fun q6=>?_) (fun q6=>?_)
       ·
        simp +decide only[TF,q6,↓reduceIte]
        exact hK _ _ (by simp[St.get,lk,W]) rfl (Le.of_eq (by simp_all[St.get,lk,W,bne,vG,eqK,dP,gtB]))
       ·
        simp +decide only[TF,q6,↓reduceIte]
        exact hK _ _ (by simp[St.get,lk,W]) rfl (Le.of_eq (by simp_all[St.get,lk,W,bne,vG,eqK,dP,gtB]))
    ·
     refine WP.cond (b:=_) rfl (fun q7=>?_) (fun q7=>?_)
     ·
      have hbt:=q7
      simp only[hbt,if_true] at hI
      refine jd 2 [] q3 q7 ?_
      show ∃y,_∧Weak _ _ _
      refine⟨⟨(k+1,l[k]),?_⟩,?_,?_⟩
      ·exact⟨by omega,hI⟩
      ·dsimp only;omega
      ·exact CP hnf (aU hlt (show l.length≤140737488355328 by omega))
     ·
      simp only[q7,ag8,if_false] at hI
      refine jd 2 [] q3 q7 ?_
      show ∃y,_∧Weak _ _ _
      refine⟨⟨(k+1,b),?_⟩,?_,?_⟩
      ·exact⟨by omega,hI⟩
      ·dsimp only;omega
      ·exact CP hnf (aU hlt (show l.length≤140737488355328 by omega))
  ·
   have hge:=aP q2
   rw[dR hge] at hI
   simp only[Tq] at hI
   rw[hI] at hs
   refine aG 1 [] ?_
   refine WP.sd [4,5] (by kernel_rfl) (by kernel_rfl) fun K hK=>?_
   simp +decide only[TF,q2,↓reduceIte]
   refine hK _ _ (by kernel_rfl) ?_
   clear hK K
   refine WP.ret ?_
   exact Ends.pure (d:= .aQ [_,_]) (.inr rfl) rfl (Le.of_eq (by simp[St.get,W,ak,zK,hs,eqK,dP])) (by simp)
abbrev jY:List Nat:=[0,1,4,5,6,7,10,15,25,73]
theorem VO (l:List Key)(nl:Bool)(now:Int)(hn:l.length≤1099511627776)(hnl:nl=true→l=[])(hl:∀k∈l,k.ok):ay Pr 121 [.slice 6 nl (l.map Key.cs) none,.int .i64 now] (.aQ [.agg [.str (xG l now).id,.str (xG l now).sec,.int .i64 (xG l now).sf,.int .i64 (xG l now).su,.int .i64 (xG l now).af,.int .i64 (xG l now).au],.bool (!(eqK (xG l now) dP))]):=by
 refine gK Tryz.func121 Tryz.ntmps121 ?_
 refine aJ 4 jY (QU l nl hn hnl hl) ?_
 refine WP.cond rfl (fun q1=>?_) (fun q1=>?_)
 ·have hs:xG l now=dP:=by simp[xG,q1]
  refine aJ 1 jY q1 ?_
  apply WP.ret
  exact Ends.P (d:= .aQ [_,_]) rfl (Le.of_eq (by simp[St.get,W,ak,zK,hs,dP,eqK]))
 have hs:xG l now=Ym now dP l:=by simp[xG,q1]
 have hcw:=VL (by simpa using q1)
 refine aJ 4 [0,1,4,6,7] q1 ?_
 refine WP.lp [0,1,4] (X:={x:(Nat) × (Int) × (Key) // match x with|(k,b,sb)=>k≤l.length∧Ym now dP l=Ym now sb (l.drop k)∧((b=-1∧sb=dP)∨∃i,i<l.length∧b=(i:Int)∧l[i]?=some sb)}) (fun x=>match x with| ⟨(k,b,sb),_⟩=>[(6,.int .i64 b),(7,.int .i64 k)]) (fun x=>match x with| ⟨(k,b,sb),_⟩=>[(0,.box 99 [.str [],.str [],.int .i64 0,.int .i64 0,.int .i64 0,.int .i64 0])]) (fun x=>match x with| ⟨(k,b,sb),_⟩=>l.length - k) (by simp +decide only[W,↓reduceIte];rfl) ?_ ⟨(0,-1,dP),⟨ada _,by simp,.inl ⟨rfl,rfl⟩⟩⟩ ?_
 rotate_left
 ·exact QB
 rintro ⟨⟨k,b,sb⟩,hk,hI,hb⟩
 dsimp only
 simp only[abS,abT]
 rcases hb with⟨hb1,hb2⟩ | ⟨i,hi,hb1,hsb⟩
 ·have heq:eqK sb dP=true:=by rw[hb2];rfl
  refine aJ 2 jY hb1 ?_
  refine WP.cond rfl (fun q2=>?_) (fun q2=>?_)
  ·have hlt:=aO q2
   have hg:(l.map Key.cs)[k]?=some [.str l[k].id,.str l[k].sec,.int .i64 l[k].sf,.int .i64 l[k].su,.int .i64 l[k].af,.int .i64 l[k].au]:=getM hlt
   have hnf:=aX hnl hlt
   rw[bZ hlt] at hI
   simp only[D7] at hI
   refine aG 4 [] ?_
   refine WP.S jY fun _ z=>?_
   simp +decide only[TF,q2,hg,hnf,↓reduceIte]
   refine aj.P (aeA _ _ _) rfl rfl ?_
   simp +decide only[TF,↓reduceIte]
   apply z;clear z
   refine WP.cond rfl (fun q3=>?_) (fun q3=>?_)
   ·simp only[adh] at q3
    have hni:inB l[k].sf l[k].su now=false:=by simpa using q3
    simp only[hni,akD,ag8,if_false] at hI
    refine aJ 2 [] q3 ?_
    show ∃y,_∧Weak _ _ _
    refine⟨⟨(k+1,b,sb),?_⟩,?_,?_⟩
    ·exact⟨by omega,hI,.inl ⟨hb1,hb2⟩⟩
    ·dsimp only;omega
    exact zY3 hb1 hnf (aU hlt (show l.length≤140737488355328 by omega))
   simp only[afE] at q3
   have hni:inB l[k].sf l[k].su now=true:=by simpa using q3
   simp only[hni,al5] at hI
   refine aG 1 [] ?_
   refine WP.smd [0,1,4,6,7] 70 (.bool (vG sb l[k])) (by kernel_rfl) (by kernel_rfl) (fun K hK=>?_) ?_
   ·simp +decide only[TF,q3,↓reduceIte]
    exact hK _ _ (by kernel_rfl) (by simp[St.get,lk,W]) rfl (Le.of_eq (by simp[St.get,lk,vG,gtB,heq]))
   refine WP.cond rfl (fun q4=>?_) (fun q4=>?_)
   ·have hbt:=q4
    simp only[hbt,if_true] at hI
    refine jd 2 [] q3 q4 ?_
    show ∃y,_∧Weak _ _ _
    refine⟨⟨(k+1,(k:Int),l[k]),?_⟩,?_,?_⟩
    ·exact⟨by omega,hI,.inr ⟨k,hlt,rfl,abt hlt⟩⟩
    ·dsimp only;omega
    exact CP hnf (aU hlt (show l.length≤140737488355328 by omega))
   simp only[q4,ag8,if_false] at hI
   refine jd 2 [] q3 q4 ?_
   show ∃y,_∧Weak _ _ _
   refine⟨⟨(k+1,b,sb),?_⟩,?_,?_⟩
   ·exact⟨by omega,hI,.inl ⟨hb1,hb2⟩⟩
   ·dsimp only;omega
   exact zY3 hb1 hnf (aU hlt (show l.length≤140737488355328 by omega))
  have hge:=aP q2
  rw[dR hge] at hI
  simp only[Tq] at hI
  rw[hI] at hs
  refine aJ 5 jY q2 ?_
  apply WP.ret
  exact Ends.P (d:= .aQ [_,_]) rfl (Le.of_eq (by simp[St.get,W,ak,zK,hs,hb2,dP,eqK]))
 have hmem:sb∈l:=ac8 hsb
 have heq:eqK sb dP=false:=aeC (hcw sb hmem).2
 have hgi:(l.map Key.cs)[i]?=some [.str sb.id,.str sb.sec,.int .i64 sb.sf,.int .i64 sb.su,.int .i64 sb.af,.int .i64 sb.au]:=by rw[adw,hsb];rfl
 have hn0:decide ((i:Int)<0)=false:=by simp
 have abH:=aX hnl hi
 have hb0:=hb1
 refine jd 2 jY hb1 abH ?_
 refine WP.cond rfl (fun q5=>?_) (fun q5=>?_)
 ·have hlt:=aO q5
  have hg:(l.map Key.cs)[k]?=some [.str l[k].id,.str l[k].sec,.int .i64 l[k].sf,.int .i64 l[k].su,.int .i64 l[k].af,.int .i64 l[k].au]:=getM hlt
  have hnf:=aX hnl hlt
  rw[bZ hlt] at hI
  simp only[D7] at hI
  refine aG 4 [] ?_
  refine WP.S jY fun _ z=>?_
  simp +decide only[TF,q5,hg,↓reduceIte]
  refine aj.P (aeA _ _ _) rfl rfl ?_
  simp +decide only[TF,↓reduceIte]
  apply z;clear z
  refine WP.cond rfl (fun q6=>?_) (fun q6=>?_)
  ·simp only[adh] at q6
   have hni:inB l[k].sf l[k].su now=false:=by simpa using q6
   simp only[hni,akD,ag8,if_false] at hI
   refine aJ 2 [] q6 ?_
   show ∃y,_∧Weak _ _ _
   refine⟨⟨(k+1,b,sb),?_⟩,?_,?_⟩
   ·exact⟨by omega,hI,.inr ⟨i,hi,hb1,hsb⟩⟩
   ·dsimp only;omega
   exact zY3 hb1 abH (aU hlt (show l.length≤140737488355328 by omega))
  simp only[afE] at q6
  have hni:inB l[k].sf l[k].su now=true:=by simpa using q6
  simp only[hni,al5] at hI
  refine aG 1 [] ?_
  refine WP.smd [0,1,4,6,7] 70 (.bool (vG sb l[k])) (by kernel_rfl) (by kernel_rfl) (fun K hK=>?_) ?_
  ·refine ah.take 18 fun J hJ=>?_
   simp +decide only[TF,hgi,hn0,hg,q6,↓reduceIte]
   refine hJ _ _ ?_;clear hJ J
   refine ah.part 43 rfl (fun q7=>?_) (fun q7=>?_)
   ·simp +decide only[TF,q7,↓reduceIte]
    exact hK _ _ (by kernel_rfl) (by simp[St.get,lk,W]) rfl (Le.of_eq (by simp[St.get,lk,vG,gtB,heq,q7]))
   refine ah.take 14 fun J hJ=>?_
   simp +decide only[TF,hgi,hg,q7,↓reduceIte]
   refine hJ _ _ ?_;clear hJ J
   refine ah.part 57 rfl (fun q8=>?_) (fun q8=>?_)
   ·simp +decide only[TF,hgi,hg,q8,↓reduceIte]
    exact hK _ _ (by kernel_rfl) (by simp[St.get,lk,W]) rfl (Le.of_eq (by simp[St.get,lk,vG,gtB,heq,q7,q8]))
   simp +decide only[TF,q8,↓reduceIte]
   exact hK _ _ (by kernel_rfl) (by simp[St.get,lk,W]) rfl (Le.of_eq (by simp[St.get,lk,vG,gtB,heq,q7,q8]))
  refine WP.cond rfl (fun q9=>?_) (fun q9=>?_)
  ·have hbt:=q9
   simp only[hbt,if_true] at hI
   refine jd 2 [] q6 q9 ?_
   show ∃y,_∧Weak _ _ _
   refine⟨⟨(k+1,(k:Int),l[k]),?_⟩,?_,?_⟩
   ·exact⟨by omega,hI,.inr ⟨k,hlt,rfl,abt hlt⟩⟩
   ·dsimp only;omega
   exact CP abH (aU hlt (show l.length≤140737488355328 by omega))
  simp only[q9,ag8,if_false] at hI
  refine jd 2 [] q6 q9 ?_
  show ∃y,_∧Weak _ _ _
  refine⟨⟨(k+1,b,sb),?_⟩,?_,?_⟩
  ·exact⟨by omega,hI,.inr ⟨i,hi,hb1,hsb⟩⟩
  ·dsimp only;omega
  exact zY3 hb1 abH (aU hlt (show l.length≤140737488355328 by omega))
 have hge:=aP q5
 rw[dR hge] at hI
 simp only[Tq] at hI
 rw[hI] at hs
 refine oC 6 jY hgi hn0 q5 ?_
 apply WP.ret
 exact Ends.P (d:= .aQ [_,_]) rfl (Le.of_eq (by simp[St.get,W,ak,zK,hs,heq]))
def flatK (l:List Key):List D:=(l.map Key.cs).flatten
theorem ak4 (t:Nat)(l:List Key):∀x∈l.map Key.cs,∀d∈x,Fr t d:=by
 intro x hx d hd
 obtain⟨k,_,rfl⟩:=List.mem_map.1 hx
 simp only[Key.cs,ael,akg,or_false] at hd
 rcases hd with rfl|rfl|rfl|rfl|rfl|rfl <;> simp
theorem QW {S:Nat→Prop}(l:List Key):∀d∈flatK l,bY S d:=by
 intro d hd
 obtain⟨x,hx,hd⟩:=List.mem_flatten.1 hd
 exact (DT l).2 trivial x hx d hd
@[simp] theorem ag5 {S:Nat→Prop}(l:List Key):(∀d∈flatK l,bY S d)↔True:=⟨fun _=>trivial,fun _=>QW l⟩
@[simp] theorem ak5 {S:Nat→Prop}(e:TypeId)(l:List Key):aB S (.arr e (flatK l))↔True:=⟨fun _=>trivial,fun _=>QW l⟩
structure Del (p:Key→Bool) (l m:List Key) (i j:Nat):Prop where
 len:m.length=l.length
 ij:i<j
 jl:j≤l.length
 pre:m.take i=(l.take j).filter (fun k=>!p k)
 il:((l.take j).filter (fun k=>!p k)).length=i
 post:m.drop j=l.drop j
theorem Del.at {p:Key→Bool}{l m:List Key}{i j:Nat}(h:Del p l m i j)(hj:j<l.length):m[j]'(by rw[h.len];exact hj)=l[j]:=by
 have h1:=bZ (l:=m) (k:=j) (by rw[h.len];exact hj)
 have h2:=bZ hj
 rw[h.post,h2] at h1
 exact (List.cons.inj h1).1.symm
theorem QX (p:Key→Bool)(l:List Key)(j:Nat)(hj:j<l.length):(l.take (j+1)).filter (fun k=>!p k)=(l.take j).filter (fun k=>!p k)++(if p l[j] then [] else [l[j]]):=by
 rw[List.take_succ_eq_append_getElem hj,List.filter_append]
 cases h:p l[j] <;> simp[h]
theorem Del.skip {p:Key→Bool}{l m:List Key}{i j:Nat}(h:Del p l m i j)(hj:j<l.length)(hp:p l[j]=true):Del p l m i (j+1):=by
 have hf:=QX p l j hj
 rw[hp,if_pos rfl,akz] at hf
 exact⟨h.len,by have:=h.ij;omega,hj,by rw[hf];exact h.pre,by rw[hf];exact h.il,by rw[← alv,h.post,alv]⟩
theorem Del.keep {p:Key→Bool}{l m:List Key}{i j:Nat}(h:Del p l m i j)(hj:j<l.length)(hp:p l[j]=false):Del p l (m.set i l[j]) (i+1) (j+1):=by
 have hf:=QX p l j hj
 rw[hp,if_neg (by simp)] at hf
 have hij:=h.ij
 have hlen:=h.len
 refine⟨by simp[h.len],by omega,hj,?_,by rw[hf,abf,h.il];rfl,?_⟩
 ·rw[hf,← h.pre,List.take_succ_eq_append_getElem (by simp;omega),List.take_set_of_le (ag4 i),List.getElem_set_self]
 ·rw[List.drop_set_of_lt (by omega),← alv,h.post,alv]
theorem ahP (l:List Key)(hne:l≠[])(hn:l.length≤1099511627776):aF Pr 150 [.slice 6 false (l.map Key.cs) none] [] (.arr 0 6 l.length) [(0,.arr 99 (flatK l))]:=by
 have hie:l.isEmpty=false:=by cases l <;> simp_all
 refine qX Tryz.func150 Tryz.ntmps150 ?_
 refine aG 5 [0,4] ?_
 refine WP.meet ⟨[(2,.arr 0 6 (l.map Key.cs).length)],[(0,.arr 99 (flatK l))]⟩ ?_ ?_
 ·refine WP.R fun _ z=>?_
  simp +decide only[TF,↓reduceIte]
  refine⟨⟨by omega,by omega⟩,?_⟩
  apply z;clear z
  show Weak _ _ _
  exact Weak.akC 0 99 6 (l.map Key.cs) 2 (by simp[St.get,lk]) (by simp[lk]) (ak4 0 l) (by intro b hb;simp[lk,hb]) (by simp)
 apply WP.ret
 exact ZN
theorem D8 (f:Nat→Nat)(l:List Key):oz f (l.map Key.cs)=l.map Key.cs:=by
 rw[kN];simp[bK,Key.cs]
theorem abI (f:Nat→Nat)(l:List Key):iG f (flatK l)=flatK l:=by
 rw[iH,flatK]
 induction l with
 |nil=>rfl
 |cons k t ih=>simp only[ag1,amb,List.map_append,ih];simp[bK,Key.cs]
theorem Yq (a:Nat)(l:List Key)(hne:l≠[])(hn:l.length≤1099511627776):
  aF Pr 150 [.slice 6 false (l.map Key.cs) none] [] (.arr a 6 l.length) [(a,.arr 99 (flatK l))]:=by
 obtain⟨f,g,h1,h2⟩:=lg [a] (by simp)
 have:=aF.rename h1 (ahP l hne hn)
 have f0:f 0=a:=h2 0 a rfl
 simpa [kC,lU,bK,iG,D8,abI,f0] using this
theorem aeD {α:Type}(l:List α)(x:α):(l++[x]).isEmpty=false:=by simp
def apz (at_ f u:Int):Int:=if (if at_<u then at_ else u)>f then (if at_<u then at_ else u) else f
def apA (t:Int)(k:Key):Key:={ k with su:=apz t k.sf k.su }
def apB (id sec:List UInt8)(now life VP:Int):Key:=⟨id,sec,aN now,aN (aN now+aN life),aN now,aN (aN (aN now+aN life)+aN VP)⟩
def ang (l:List Key)(id sec:List UInt8)(now life:Int):Int:=
 if (gq l != 0)=true then gq l else if (!bg id)=true then 5 else if (!b_ sec)=true then 4 else if l.any (fun k=>k.id == id)=true then 7
 else if decide (aN (aN now+aN life)≤aN now)=true then 2 else if decide ((l.length:Int)≥16)=true then 3 else 0
def anh (l:List Key)(id sec:List UInt8)(now life VP:Int):D:=
 if ang l id sec now life=0 then .aQ [.slice 6 false ((l.map (apA (aN now))++[apB id sec now life VP]).map Key.cs) none,.int .i64 0] else .aQ [.slice 6 true [] none,.int .i64 (ang l id sec now life)]
@[simp] theorem ani {S:Nat→Prop}(l:List Key)(id sec:List UInt8)(now life VP:Int):bY S (anh l id sec now life VP)↔True:=by
 simp only[iff_true]
 unfold anh
 split
 ·simp only[JX,ael,List.mem_nil_iff,or_false]
  rintro d (rfl|rfl)
  ·rw[oI];exact⟨(DT _).2 trivial,by simp⟩
  ·simp
 ·simp
end Go.Proofs
