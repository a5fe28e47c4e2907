import Derived.Test.YtekopfoidhhedaaGreatDoorG13
import Derived.Test.YtekopfoidhhedaaGreatDoorG24
import Derived.Test.YtekopfoidhhedaaGreatDoorG11
set_option linter.unusedVariables false
set_option linter.unusedSimpArgs false
set_option linter.unnecessarySimpa false
set_option maxRecDepth 10000
namespace Go.Proofs
open Go Go.Id
set_option maxHeartbeats 4000000
abbrev eU:List Nat:=[0,2,3,4,6,7,10,11,12,13,14,21,24,25,26,27,36,41,45,50]
theorem YH (l:List At)(nl:Bool)(hn:l.length≤1099511627776)(hnl:nl=true→l=[])(hl:∀a∈l,a.ok):ay Pr 58 [.slice 2 nl (l.map At.cs) none] (.int .i64 (eP l)):=by
 refine gK Tryz.func58 Tryz.ntmps58 ?_
 refine aG 3 eU ?_
 refine WP.cond rfl (fun q1=>?_) (fun q1=>?_)
 ·refine aJ 1 eU q1 ?_
  apply WP.ret
  exact Bv @eP.eq_def q1
 refine aJ 4 [0,11,12,13] q1 ?_
 refine WP.lp [0,11,12] (X:={k:Nat // k≤l.length∧AP [] l=AP (l.take k) (l.drop k)}) (fun x=>match x with| ⟨(k),_⟩=>[(13,.int .i64 k)]) (fun x=>match x with| ⟨(k),_⟩=>[]) (fun x=>match x with| ⟨(k),_⟩=>l.length - k) (by simp +decide only[W,↓reduceIte];rfl) ?_ ⟨(0),⟨ada _,by simp⟩⟩ ?_
 rotate_left
 ·exact QB
 rintro ⟨k,hk,hI⟩
 dsimp only
 simp only[abS,abT]
 refine aG 2 eU ?_
 refine WP.cond rfl (fun q2=>?_) (fun q2=>?_)
 ·have hlt:=aO q2
  have hg:(l.map At.cs)[k]?=some [.str l[k].name,.slice 1 l[k].nl (l[k].vals.map fun x=>[.str x]) none]:=getM hlt
  have hnf:=aX hnl hlt
  rw[bZ hlt] at hI
  simp only[Rh] at hI
  have hok:=Jo (hl _ (adb hlt))
  have hvz:=TY l[k].vals
  refine CO 6 eU (alu l[k].name hok.1) q2 hg hnf ?_
  refine WP.cond rfl (fun q3=>?_) (fun q3=>?_)
  ·simp only[adh] at q3
   refine aJ 1 eU q3 ?_
   apply WP.ret
   exact Yb @eP.eq_def q1 q3 hI
  simp only[afE] at q3
  refine aG 2 [] ?_
  refine WP.S [0,4,11,12,13,24,25,26] fun _ z=>?_;simp +decide only[TF,hk,q3,← List.map_take,↓reduceIte];apply z;clear z
  apply WP.block
  refine WP.lp [0,4,11,12,13,24,25] (X:={j:Nat // j≤(l.take k).length∧twB (l.take k) l[k]=(((l.take k).drop j).any fun b=>bG l[k].name == bG b.name)}) (fun x=>match x with| ⟨(j),_⟩=>[(26,.int .i64 j)]) (fun x=>match x with| ⟨(j),_⟩=>[(0,.box 75 [.str l[k].name,.slice 1 l[k].nl (l[k].vals.map fun x=>[.str x]) none])]) (fun x=>match x with| ⟨(j),_⟩=>(l.take k).length - j) (by simp +decide only[W,↓reduceIte];rfl) ?_ ⟨(0),⟨ada _,by simp[twB]⟩⟩ ?_
  rotate_left
  ·exact zY1 hk
  rintro ⟨j,hj,hJ⟩
  dsimp only
  simp only[abS,abT]
  refine aG 2 eU ?_
  refine WP.cond rfl (fun q4=>?_) (fun q4=>?_)
  ·have hjl:=aO q4
   have hgj:((l.take k).map At.cs)[j]?=some [.str (l.take k)[j].name,.slice 1 (l.take k)[j].nl ((l.take k)[j].vals.map fun x=>[.str x]) none]:=getM hjl
   rw[bZ hjl,apn] at hJ
   have aii:=Jo (hl _ (List.mem_of_mem_take (adb hjl)))
   refine CO 5 eU (TV l[k].name hok.1) (TV (l.take k)[j].name aii.1) q4 hgj ?_
   refine WP.cond rfl (fun q5=>?_) (fun q5=>?_)
   ·refine aJ 1 eU q5 ?_
    apply WP.ret
    exact zP6 @eP.eq_def q1 q3 q5 hJ hI
   refine aJ 2 [] q5 ?_
   show ∃y,_∧Weak _ _ _
   refine⟨⟨j+1,?_⟩,?_,?_⟩
   ·exact⟨by omega,by first|(simpa [q1,hk,q2,hg,hnf,hvz,q3,hj,q4,hgj,q5] using hJ)|(simp_all;done)⟩
   ·dsimp only;omega
   exact CP hk (aU hjl (show (l.take k).length≤140737488355328 by simp;omega))
  have hjg:=aP q4
  rw[dR hjg,List.any_nil] at hJ
  refine jd 3 eU hvz q4 ?_
  refine WP.cond rfl (fun q6=>?_) (fun q6=>?_)
  ·refine aJ 1 eU q6 ?_
   apply WP.ret
   exact zP6 @eP.eq_def q1 q3 q6 hJ hI
  refine aJ 3 eU q6 ?_
  refine WP.cond rfl (fun q7=>?_) (fun q7=>?_)
  ·refine aJ 1 eU q7 ?_
   apply WP.ret
   exact Ends.P rfl (Le.of_eq (by simp +decide only[St.get,W,eP,q1,q3,q6,q7,hJ,hI,↓reduceIte]))
  refine jd 3 eU (ae2 l[k].vals l[k].nl hok.2.1 hok.2.2.1 hok.2.2.2) q7 ?_
  refine WP.cond rfl (fun q8=>?_) (fun q8=>?_)
  ·refine aJ 1 eU q8 ?_
   apply WP.ret
   exact Ends.P rfl (Le.of_eq (by simp +decide only[St.get,W,eP,q1,q3,q6,q7,q8,hJ,hI,↓reduceIte]))
  refine aJ 2 [] q8 ?_
  show ∃y,_∧Weak _ _ _
  refine⟨⟨k+1,?_⟩,?_,?_⟩
  ·exact⟨by omega,by first|(simpa [q1,hk,q2,hg,hnf,hvz,q3,hj,q4,q6,q7,q8] using hI)|(simp_all;done)⟩
  ·dsimp only;omega
  exact zY3 hk hnf (aU hlt (show l.length≤140737488355328 by omega))
 have hge:=aP q2
 rw[dR hge] at hI
 simp only[Wu] at hI
 refine aJ 2 eU q2 ?_
 apply WP.ret
 exact Md @eP.eq_def q1 hI
set_option maxRecDepth 10000
theorem abY (l:List At)(nl:Bool)(i:Nat)(hi:i<l.length)(hn:l.length≤1099511627776)(hnl:nl=true→l=[])(hl:∀a∈l,a.ok):ay Pr 117 [.slice 2 nl (l.map At.cs) none,.int .i64 i] (.bool (twB (l.take i) l[i])):=by
 have hgi:(l.map At.cs)[i]?=some [.str l[i].name,.slice 1 l[i].nl (l[i].vals.map fun x=>[.str x]) none]:=getM hi
 have arF:=Jo (hl _ (adb hi))
 have hnf:=aX hnl hi
 have htl:(l.take i).length=i:=by rw[adg];omega
 refine gK Tryz.func117 Tryz.ntmps117 ?_
 refine aJ 4 [0,1,4,5,8,23] hnf ?_
 refine WP.lp [0,1] (X:={j:Nat // j≤(l.take i).length∧twB (l.take i) l[i]=(((l.take i).drop j).any fun b=>bG l[i].name == bG b.name)}) (fun x=>match x with| ⟨(j),_⟩=>[(5,.int .i64 j)]) (fun x=>match x with| ⟨(j),_⟩=>[]) (fun x=>match x with| ⟨(j),_⟩=>(l.take i).length - j) (by simp +decide only[W,↓reduceIte];rfl) ?_ ⟨(0),⟨ada _,by simp[twB]⟩⟩ ?_
 rotate_left
 ·exact QB
 rintro ⟨j,hj,hJ⟩
 dsimp only
 simp only[abS,abT]
 refine aG 2 [0,1,4,5,8,23] ?_
 refine WP.cond rfl (fun q1=>?_) (fun q1=>?_)
 ·have hjl:j<(l.take i).length:=by have:=of_decide_eq_true q1;rw[htl];omega
  have aij:j<l.length:=by rw[htl] at hjl;omega
  have hgj:(l.map At.cs)[j]?=some [.str l[j].name,.slice 1 l[j].nl (l[j].vals.map fun x=>[.str x]) none]:=getM aij
  rw[bZ hjl,apn] at hJ
  have hje:(l.take i)[j]=l[j]:=aoQ
  rw[hje] at hJ
  have aii:=Jo (hl _ (adb aij))
  have hbc:(bG l[j].name == bG l[i].name)=(bG l[i].name == bG l[j].name):=Bool.beq_comm
  have arG:decide ((j:Int)<i)=true:=decide_eq_true (by rw[htl] at hjl;omega)
  refine aG 3 [] ?_
  refine WP.D [0,1,4,5,8,23] fun _ z=>?_
  simp +decide only[TF,q1,hgj,↓reduceIte]
  refine aj.P (Aa l[j].name (hl _ (adb aij)).1) rfl rfl ?_
  simp +decide only[TF,hgi,↓reduceIte]
  refine aj.P (Aa l[i].name (hl _ (adb hi)).1) rfl rfl ?_
  simp +decide only[TF,hbc,↓reduceIte]
  refine z _ _ (by kernel_rfl) ?_;clear z
  refine WP.cond rfl (fun q2=>?_) (fun q2=>?_)
  ·refine aJ 1 [0,1,4,5,8,23] q2 ?_
   apply WP.ret
   exact Bv q2 hJ
  refine aJ 2 [] q2 ?_
  show ∃y,_∧Weak _ _ _
  refine⟨⟨j+1,?_⟩,?_,?_⟩
  ·exact⟨by omega,by first|(simpa [hgi,hnf,hj,q1,hgj,hbc,q2] using hJ)|(simp_all;done)⟩
  ·dsimp only;omega
  exact zY1 (aU aij (show l.length≤140737488355328 by omega))
 have hjg:(l.take i).length≤j:=by have:=of_decide_eq_false q1;rw[htl];omega
 rw[dR hjg,List.any_nil] at hJ
 refine aJ 2 [0,1,4,5,8,23] q1 ?_
 apply WP.ret
 exact Bq hJ
abbrev dQ:List Nat:=[0,2,3,4,7,11,20,23,30,37,45]
theorem T_ (l:List At)(nl:Bool)(hn:l.length≤1099511627776)(hnl:nl=true→l=[])(hl:∀a∈l,a.ok):ay Pr 61 [.slice 2 nl (l.map At.cs) none] (.int .i64 (eP l)):=by
 refine gK Tryz.func61 Tryz.ntmps61 ?_
 refine aG 3 dQ ?_
 refine WP.cond rfl (fun q1=>?_) (fun q1=>?_)
 ·refine aJ 1 dQ q1 ?_
  apply WP.ret
  exact Bv @eP.eq_def q1
 refine aJ 4 [0,3] q1 ?_
 refine WP.lp [0] (X:={k:Nat // k≤l.length∧AP [] l=AP (l.take k) (l.drop k)}) (fun x=>match x with| ⟨(k),_⟩=>[(3,.int .i64 k)]) (fun x=>match x with| ⟨(k),_⟩=>[]) (fun x=>match x with| ⟨(k),_⟩=>l.length - k) (by simp +decide only[W,↓reduceIte];rfl) ?_ ⟨(0),⟨ada _,by simp⟩⟩ ?_
 rotate_left
 ·exact QB
 rintro ⟨k,hk,hI⟩
 dsimp only
 simp only[abS,abT]
 refine aG 2 dQ ?_
 refine WP.cond rfl (fun q2=>?_) (fun q2=>?_)
 ·have hlt:=aO q2
  have hg:(l.map At.cs)[k]?=some [.str l[k].name,.slice 1 l[k].nl (l[k].vals.map fun x=>[.str x]) none]:=getM hlt
  have hnf:=aX hnl hlt
  rw[bZ hlt] at hI
  simp only[Rh] at hI
  have hok:=Jo (hl _ (adb hlt))
  have hvz:=TY l[k].vals
  refine CO 5 dQ (ae0 l[k].name hok.1) q2 hg hnf ?_
  refine WP.cond rfl (fun q3=>?_) (fun q3=>?_)
  ·simp only[adh] at q3
   refine aJ 1 dQ q3 ?_
   apply WP.ret
   exact Yb @eP.eq_def q1 q3 hI
  simp only[afE] at q3
  refine jd 3 dQ (abY l false k hlt hn nofun hl) q3 ?_
  refine WP.cond rfl (fun q4=>?_) (fun q4=>?_)
  ·refine aJ 1 dQ q4 ?_
   apply WP.ret
   exact zP5 @eP.eq_def q1 q3 q4 hI
  refine oC 3 dQ hg hvz q4 ?_
  refine WP.cond rfl (fun q5=>?_) (fun q5=>?_)
  ·refine aJ 1 dQ q5 ?_
   apply WP.ret
   exact zP6 @eP.eq_def q1 q3 q4 q5 hI
  refine jd 3 dQ hg q5 ?_
  refine WP.cond rfl (fun q6=>?_) (fun q6=>?_)
  ·refine aJ 1 dQ q6 ?_
   apply WP.ret
   exact Ends.P rfl (Le.of_eq (by simp +decide only[St.get,W,eP,q1,q3,q4,q5,q6,hI,↓reduceIte]))
  refine oC 3 dQ (YG l[k].vals l[k].nl hok.2.1 hok.2.2.1 hok.2.2.2) hg q6 ?_
  refine WP.cond rfl (fun q7=>?_) (fun q7=>?_)
  ·refine aJ 1 dQ q7 ?_
   apply WP.ret
   exact Ends.P rfl (Le.of_eq (by simp +decide only[St.get,W,eP,q1,q3,q4,q5,q6,q7,hI,↓reduceIte]))
  refine aJ 2 [] q7 ?_
  show ∃y,_∧Weak _ _ _
  refine⟨⟨k+1,?_⟩,?_,?_⟩
  ·exact⟨by omega,by first|(simpa [q1,hk,q2,hg,hnf,hvz,q3,q4,q5,q6,q7] using hI)|(simp_all;done)⟩
  ·dsimp only;omega
  exact CP hnf (aU hlt (show l.length≤140737488355328 by omega))
 have hge:=aP q2
 rw[dR hge] at hI
 simp only[Wu] at hI
 refine aJ 2 dQ q2 ?_
 apply WP.ret
 exact Md @eP.eq_def q1 hI
abbrev kH:List Nat:=[0,1,4,5,6,7,11,23,33,42]
theorem B_ (ls:List (List UInt8))(nl:Bool)(s:List UInt8)(hn:ls.length≤1099511627776)(hnl:nl=true→ls=[]):ay Pr 78 [.slice 1 nl (ls.map fun x=>[.str x]) none,.str s] (.slice 1 (lY ls s).isEmpty ((lY ls s).map fun x=>[.str x]) none):=by
 refine ay.W Tryz.func78 Tryz.ntmps78 ?_
 simp only[aT,ade]
 refine aG 6 [0,1,5,6,7] ?_
 refine WP.lp [0,1] (X:={x:(Nat) × (List (List UInt8)) × (Bool) // match x with|(k,o,dn)=>k≤ls.length∧o.length≤2 * k∧ls.foldl (dw s) ([],false)=(ls.drop k).foldl (dw s) (o,dn)}) (fun x=>match x with| ⟨(k,o,dn),_⟩=>[(5,.slice 1 o.isEmpty (o.map fun x=>[.str x]) (some 0)),(6,.bool dn),(7,.int .i64 k)]) (fun x=>match x with| ⟨(k,o,dn),_⟩=>[(0,.aI 9 1 o.length)]) (fun x=>match x with| ⟨(k,o,dn),_⟩=>ls.length - k) (by simp +decide only[W,↓reduceIte];rfl) ?_ ⟨(0,[],false),⟨ada _,ada _,by simp⟩⟩ ?_
 rotate_left
 ·refine Weak.trans (Weak.ghost 0 9 1 (F':=[(7,.int .i64 0),(6,.bool false),(5,.slice 1 true [] (some 0)),(0,.slice 1 nl (ls.map fun x=>[.str x]) none),(1,.str s)]) (σ':=[]) (by simp[lk]) (by simp[keep,ins,zO,wJ]) (by simp[BK])) ?_;exact Weak.store (by simp[St.get,lk,Le.refl]) (by simp[lk]) (by simp[lk]) (by simp[aB,lk]) (by simp[lk])
 rintro ⟨⟨k,o,dn⟩,hk,hr,hI⟩
 dsimp only
 simp only[abS,abT]
 refine aG 2 kH ?_
 refine WP.cond rfl (fun q1=>?_) (fun q1=>?_)
 ·have hlt:=aO q1
  have hg:(ls.map fun x=>[D.str x])[k]?=some [.str ls[k]]:=getM hlt
  have hnf:=aX hnl hlt
  rw[bZ hlt] at hI
  simp only[akk] at hI
  refine aG 4 [] ?_
  refine WP.S kH fun _ z=>?_
  refine ah.take 3 fun J hJ=>?_
  simp +decide only[TF,q1,hnf,↓reduceIte]
  refine hJ _ _ ?_;clear hJ J
  refine ah.part 16 rfl (fun q2=>?_) (fun q2=>?_)
  ·simp only[adh] at q2
   simp +decide only[TF,hg,q2,↓reduceIte]
   apply z;clear z
   refine WP.cond rfl (fun q3=>?_) (fun q3=>?_)
   ·have hA:=q3
    refine WP.S kH fun _ z=>?_
    simp +decide only[TF,q3,↓reduceIte]
    refine⟨⟨by simp only[abf,ac',abN,acS];omega,by simp only[abf,ac',abN,acS];omega⟩,?_⟩
    apply z;clear z
    refine aJ 2 kH hg ?_
    refine WP.cond rfl (fun q4=>?_) (fun q4=>?_)
    ·have hC:=q4
     refine WP.R fun _ z=>?_
     simp +decide only[TF,hg,q4,↓reduceIte]
     refine⟨⟨by simp only[abf,ac',abN,acS];omega,by simp only[abf,ac',abN,acS];omega⟩,?_⟩
     apply z;clear z
     show WP ..
     refine aG 1 [] ?_
     show ∃y,_∧Weak _ _ _
     have hX:(!dn && !Op.bytesLess ls[k] s)=true:=by simp[q2,q3]
     have hY:(ls[k] == s)=false:=by simpa using hC
     simp only[dw,hX,hY,↓reduceIte,ag8] at hI
     refine⟨⟨(k+1,o++[s]++[ls[k]],true),?_⟩,?_,?_⟩
     ·exact⟨by dsimp only;omega,by simp;omega,hI⟩
     ·dsimp only;omega
     exact Weak.store (by simp[St.get,lk,Le.refl,JM,-List.append_assoc,hnf,aU hlt (show ls.length≤140737488355328 by omega)]) (by simp[lk,-List.append_assoc]) (by simp[lk,yX,fH,-List.mem_append,-List.mem_map,-List.append_assoc]) (by simp[aB,lk]) (by simp[lk])
    have hD:=q4
    refine aJ 2 [] q4 ?_
    show ∃y,_∧Weak _ _ _
    have hX:(!dn && !Op.bytesLess ls[k] s)=true:=by simp[q2,q3]
    have hY:(ls[k] == s)=true:=by simpa using hD
    simp only[dw,hX,hY,↓reduceIte] at hI
    refine⟨⟨(k+1,o++[s],true),?_⟩,?_,?_⟩
    ·exact⟨by dsimp only;omega,by simp;omega,hI⟩
    ·dsimp only;omega
    exact Weak.store (by simp[St.get,lk,Le.refl,JM,-List.append_assoc,hnf,aU hlt (show ls.length≤140737488355328 by omega)]) (by simp[lk,-List.append_assoc]) (by simp[lk,yX,fH,-List.mem_append,-List.mem_map,-List.append_assoc]) (by simp[aB,lk]) (by simp[lk])
   have hB:=q3
   refine jd 2 kH hg q3 ?_
   refine WP.cond rfl (fun q5=>?_) (fun q5=>?_)
   ·have hC:=q5
    refine WP.R fun _ z=>?_
    simp +decide only[TF,hg,q5,↓reduceIte]
    refine⟨⟨by simp only[abf,ac',abN,acS];omega,by simp only[abf,ac',abN,acS];omega⟩,?_⟩
    apply z;clear z
    show WP ..
    refine aG 1 [] ?_
    show ∃y,_∧Weak _ _ _
    have hX:(!dn && !Op.bytesLess ls[k] s)=false:=by simp[q2,q3]
    have hY:(ls[k] == s)=false:=by simpa using hC
    simp only[dw,hX,hY,↓reduceIte,ag8] at hI
    refine⟨⟨(k+1,o++[ls[k]],dn),?_⟩,?_,?_⟩
    ·exact⟨by dsimp only;omega,by simp;omega,hI⟩
    ·dsimp only;omega
    exact Weak.store (by simp[St.get,lk,Le.refl,JM,-List.append_assoc,hnf,q2,aU hlt (show ls.length≤140737488355328 by omega)]) (by simp[lk,-List.append_assoc]) (by simp[lk,yX,fH,-List.mem_append,-List.mem_map,-List.append_assoc]) (by simp[aB,lk]) (by simp[lk])
   have hD:=q5
   refine aJ 2 [] q5 ?_
   show ∃y,_∧Weak _ _ _
   have hX:(!dn && !Op.bytesLess ls[k] s)=false:=by simp[q2,q3]
   have hY:(ls[k] == s)=true:=by simpa using hD
   simp only[dw,hX,hY,↓reduceIte,ag8] at hI
   refine⟨⟨(k+1,o,dn),?_⟩,?_,?_⟩
   ·exact⟨by dsimp only;omega,by simp;omega,hI⟩
   ·dsimp only;omega
   exact Weak.store (by simp[St.get,lk,Le.refl,-List.append_assoc,hnf,q2,aU hlt (show ls.length≤140737488355328 by omega)]) (by simp[lk,-List.append_assoc]) (by simp[lk,fH,-List.mem_append,-List.mem_map,-List.append_assoc]) (by simp[aB,lk]) (by simp[lk])
  simp only[afE] at q2
  simp +decide only[TF,q2,↓reduceIte]
  apply z;clear z
  refine aJ 3 kH hg ?_
  refine WP.cond rfl (fun q6=>?_) (fun q6=>?_)
  ·have hC:=q6
   refine WP.R fun _ z=>?_
   simp +decide only[TF,hg,q6,↓reduceIte]
   refine⟨⟨by simp only[abf,ac',abN,acS];omega,by simp only[abf,ac',abN,acS];omega⟩,?_⟩
   apply z;clear z
   show WP ..
   refine aG 1 [] ?_
   show ∃y,_∧Weak _ _ _
   have hX:(!dn && !Op.bytesLess ls[k] s)=false:=by simp[q2]
   have hY:(ls[k] == s)=false:=by simpa using hC
   simp only[dw,hX,hY,↓reduceIte,ag8] at hI
   refine⟨⟨(k+1,o++[ls[k]],dn),?_⟩,?_,?_⟩
   ·exact⟨by dsimp only;omega,by simp;omega,hI⟩
   ·dsimp only;omega
   exact Weak.store (by simp[St.get,lk,Le.refl,JM,-List.append_assoc,hnf,q2,aU hlt (show ls.length≤140737488355328 by omega)]) (by simp[lk,-List.append_assoc]) (by simp[lk,yX,fH,-List.mem_append,-List.mem_map,-List.append_assoc]) (by simp[aB,lk]) (by simp[lk])
  have hD:=q6
  refine aJ 2 [] q6 ?_
  show ∃y,_∧Weak _ _ _
  have hX:(!dn && !Op.bytesLess ls[k] s)=false:=by simp[q2]
  have hY:(ls[k] == s)=true:=by simpa using hD
  simp only[dw,hX,hY,↓reduceIte,ag8] at hI
  refine⟨⟨(k+1,o,dn),?_⟩,?_,?_⟩
  ·exact⟨by dsimp only;omega,by simp;omega,hI⟩
  ·dsimp only;omega
  exact Weak.store (by simp[St.get,lk,Le.refl,-List.append_assoc,hnf,q2,aU hlt (show ls.length≤140737488355328 by omega)]) (by simp[lk,-List.append_assoc]) (by simp[lk,fH,-List.mem_append,-List.mem_map,-List.append_assoc]) (by simp[aB,lk]) (by simp[lk])
 have hge:=aP q1
 rw[dR hge] at hI
 simp only[apF] at hI
 refine aJ 3 kH q1 ?_
 refine WP.cond rfl (fun q7=>?_) (fun q7=>?_)
 ·simp only[adh] at q7
  refine WP.R fun _ z=>?_
  simp +decide only[TF,q7,↓reduceIte]
  refine⟨⟨by simp only[abf,ac',abN,acS];omega,by simp only[abf,ac',abN,acS];omega⟩,?_⟩
  apply z;clear z
  show WP ..
  refine aG 1 kH ?_
  apply WP.ret
  exact Ends.P rfl ((by simp +decide only[lY,hI,St.get,W,q7,↓reduceIte];first|exact Le.fg _|(simp only[JM,List.map_append,ag1,aj9];exact Le.fg _)))
 simp only[afE] at q7
 refine aJ 2 kH q7 ?_
 apply WP.ret
 exact Ends.P rfl ((by simp +decide only[lY,hI,St.get,W,q7,↓reduceIte];first|exact Le.fg _|(simp only[JM,List.map_append,ag1,aj9,List.isEmpty_cons,Bool.and_false];exact Le.fg _)))
def Ua (i:Nat)(a:At):D:= .slice 1 false (pU a.vals) (some (3 * i+5))
def cO:Nat→List At→List (List D)
 | _,[]=>[]
 |i,a::l=>[.str (bG a.name),Ua i a]::cO (i+1) l
theorem vP:∀(i:Nat) (l:List At),(cO i l).length=l.length
 | _,[]=>rfl
 |i,a::l=>by simp[cO,vP (i+1) l]
theorem Ac:∀(i:Nat) (l:List At),∀x∈cO i l,x.length=2
 | _,[],x,h=>by simp[cO] at h
 |i,a::l,x,h=>by
  simp only[cO,ael] at h
  rcases h with rfl|h
  ·rfl
  ·exact Ac _ l x h
theorem wX (i:Nat)(l:List At):(cO i l).flatten.length=l.length * 2:=by rw[kL _ (Ac i l),vP]
theorem Ei:∀(i:Nat) (l:List At) (j:Nat) (h:j<l.length),(cO i l)[j]?=some [.str (bG l[j].name),Ua (i+j) l[j]]
 | _,[],j,h=>by simp at h
 |i,a::l,0,h=>by simp[cO]
 |i,a::l,j+1,h=>by
  have:=Ei (i+1) l j (by simpa using h)
  simp only[cO,amG,this,List.getElem_cons_succ]
  rw[show i+1+j=i+(j+1) by omega]
theorem Nu:∀(i:Nat) (l:List At) (a:At),cO i (l++[a])=cO i l++[[.str (bG a.name),Ua (i+l.length) a]]
 |i,[],a=>by simp[cO]
 |i,b::l,a=>by
  simp only[abS,cO,Nu (i+1) l a,abN]
  rw[show i+1+l.length=i+(l.length+1) by omega]
theorem zM {sz:Nat}:∀(es:List (List D)) (j:Nat),(∀x∈es,x.length=sz)→es.flatten.drop (j * sz)=(es.drop j).flatten
 | [],j,_=>by simp
 |e::es,0,_=>by simp
 |e::es,j+1,h=>by
  have he:e.length=sz:=h e (by simp)
  rw[amb,Nat.succ_mul,Nat.add_comm,← alv,← he,List.drop_left,he,anx]
  exact zM es j fun x hx=>h x (by simp[hx])
theorem Cb (i:Nat)(l:List At){j:Nat}(h:j<l.length):(cO i l).flatten.drop (j * 2)= .str (bG l[j].name)::Ua (i+j) l[j]::((cO i l).drop (j+1)).flatten:=by
 rw[zM _ _ (Ac i l)]
 have hj:j<(cO i l).length:=by rw[vP];exact h
 rw[bZ hj,amb]
 have:=Ei i l j h
 rw[abt hj] at this
 rw[al6 this];rfl
def gy:Nat→List At→List (Nat × bf)
 | _,[]=>[]
 |i,a::l=>(3 * i+5,.aI 9 1 a.vals.length)::gy (i+1) l
theorem Nv:∀(i:Nat) (l:List At) (b:Nat),(∀j,j<l.length→b≠3 * (i+j)+5)→lk (gy i l) b=none
 | _,[],_,_=>rfl
 |i,a::l,b,h=>by
  simp only[gy,lk]
  rw[if_neg (by have:=h 0 (by simp);simpa using this)]
  exact Nv (i+1) l b fun j hj=>by have:=h (j+1) (by simpa using hj);rw[show i+1+j=i+(j+1) by omega];exact this
theorem yY:∀(i:Nat) (l:List At) (j:Nat) (h:j<l.length),lk (gy i l) (3 * (i+j)+5)=some (.aI 9 1 l[j].vals.length)
 | _,[],j,h=>by simp at h
 |i,a::l,0,h=>by simp[gy,lk]
 |i,a::l,j+1,h=>by
  have:=yY (i+1) l j (by simpa using h)
  rw[show i+1+j=i+(j+1) by omega] at this
  simp only[gy,lk,List.getElem_cons_succ]
  rw[if_neg (by omega)];exact this
theorem rC:∀(i:Nat) (l:List At) (p:Nat × bf),p∈gy i l→∃(j:Nat) (h:j<l.length),p=(3 * (i+j)+5,.aI 9 1 l[j].vals.length)
 | _,[],p,h=>by simp[gy] at h
 |i,a::l,p,h=>by
  simp only[gy,ael] at h
  rcases h with rfl|h
  ·exact⟨0,by simp,by simp⟩
  ·obtain⟨j,hj,rfl⟩:=rC (i+1) l p h
   exact⟨j+1,by simpa using hj,by rw[show i+(j+1)=i+1+j by omega];rfl⟩
theorem yZ:∀(i:Nat) (l:List At),fresh (gy i l)=if l=[] then 0 else 3 * (i+l.length)+3
 | _,[]=>rfl
 |i,a::l=>by
  simp only[gy,fresh,yZ (i+1) l]
  cases l with
  |nil=>simp;omega
  |cons b l=>simp;omega
theorem Ej:∀(i:Nat) (l:List At) (b:Nat),(∀j,j<l.length→b≠3 * (i+j)+5)→dl (gy i l) b=gy i l
 | _,[],_,_=>rfl
 |i,a::l,b,h=>by
  simp only[gy,dl]
  rw[if_neg (by have:=h 0 (by simp);simpa using this),Ej (i+1) l b fun j hj=>by have:=h (j+1) (by simpa using hj);rw[show i+1+j=i+(j+1) by omega];exact this]
theorem Nw (f:Nat→Nat)(ls:List (List UInt8)):oz f (pU ls)=pU ls:=by
 rw[kN,pU,List.map_map];rfl
theorem Wv {S:Nat→Prop}(ls:List (List UInt8)):(∀e∈pU ls,∀d∈e,bY S d)↔True:=fH ls
theorem Ri (l:List At)(S:Nat→Prop)(hS:∀j,j<l.length→S (3 * j+5)):∀d∈(cO 0 l).flatten,bY S d:=by
 intro d hd
 obtain⟨x,hx,hd⟩:=List.mem_flatten.1 hd
 obtain⟨j,hj,rfl⟩:=aja.1 hx
 rw[vP] at hj
 have h1:=Ei 0 l j hj
 rw[abt (by rw[vP];exact hj)] at h1
 rw[al6 h1] at hd
 simp only[ael,akg,or_false] at hd
 rcases hd with rfl|rfl
 ·exact .str _
 ·refine .slice ((Wv _).2 trivial) (fun t ht=>?_)
  cases ht
  rw[ade];exact hS j hj
theorem kR (l:List At)(r:Nat)(X:List (Nat × bf))(hX:∀p∈X,p.1≠r∧(∀j,p.1≠3 * j+5)∧lk X p.1=some p.2∧∀S,aB S p.2)(hr:∀j,r≠3 * j+5):
  ∀p∈((r,bf.arr 75 (cO 0 l).flatten)::(X++gy 0 l)),lk ((r,bf.arr 75 (cO 0 l).flatten)::(X++gy 0 l)) p.1=some p.2∧aB (fun i=>(lk ((r,bf.arr 75 (cO 0 l).flatten)::(X++gy 0 l)) i).isSome=true) p.2:=by
 have hXn:∀j,lk X (3 * j+5)=none:=fun j=>by
  cases h:lk X (3 * j+5) with
  |none=>rfl
  |some x=>exact absurd rfl ((hX _ (iZ _ _ _ h)).2.1 j)
 intro p hp
 simp only[ael,List.mem_append] at hp
 rcases hp with rfl|hp|hp
 ·refine⟨by simp[lk],Ri l _ fun j hj=>?_⟩
  simp only[lk,oM]
  rw[if_neg (Ne.symm (hr j)),hXn j]
  have:=yY 0 l j hj
  rw[ade] at this
  rw[this];rfl
 ·obtain⟨h1,h2,h3,h4⟩:=hX p hp
  refine⟨?_,h4 _⟩
  simp only[lk,oM]
  rw[if_neg h1,h3]
 ·obtain⟨j,hj,rfl⟩:=rC 0 l p hp
  refine⟨?_,trivial⟩
  simp only[lk,oM,ade]
  rw[if_neg (Ne.symm (hr j)),hXn j]
  have:=yY 0 l j hj
  rw[ade] at this
  exact this
theorem ae3 (a nm:List UInt8)(d:D):aF Pr 155 [.agg [.str a,d],.ref 0 0] [(0,.box 9 [.str nm])] (.bool (a == nm)) [(0,.box 9 [.str nm])]:=by
 refine qX Tryz.func155 Tryz.ntmps155 ?_
 refine aG 2 [1,2,3] ?_
 apply WP.ret
 exact ZN
theorem ae4 (a:List UInt8)(nl:Bool)(es:List (List D)):ay Pr 157 [.agg [.str a,.slice 1 nl es none]] (.bool ((es.length:Int) == 0)):=by
 refine gK Tryz.func157 Tryz.ntmps157 ?_
 refine aG 2 [1,2] ?_
 apply WP.ret
 exact Ya
theorem Wx (b:Nat)(a nm:List UInt8)(ls:List (List UInt8)):aF Pr 155 [.agg [.str a,.slice 1 false (pU ls) none],.ref b 0] [(b,.box 9 [.str nm])] (.bool (a == nm)) [(b,.box 9 [.str nm])]:=by
 obtain⟨f,g,h1,h2⟩:=lg [b] (by simp)
 have e0:f 0=b:=h2 0 b rfl
 have:=(ae3 a nm (.slice 1 false (pU ls) none)).rename h1
 simpa [bK,iG,kC,lU,e0,Nw] using this
abbrev Em:List Nat:=[0,1,4,5,7,8,9,16]
theorem ae5 (l:List At)(r b:Nat)(nm:List UInt8)(hbr:b≠r)(h5r:∀j,r≠3 * j+5)(h5b:∀j,b≠3 * j+5)(hne:∀a∈l,(bG a.name == nm)=false)(hn:l.length≤1099511627776):aF Pr 154 [.arr r 2 l.length,.fn (.func 155) [] [.ref b 0]] ((r,.arr 75 (cO 0 l).flatten)::(b,.box 9 [.str nm])::gy 0 l) (.int .i64 (-1)) ((r,.arr 75 (cO 0 l).flatten)::(b,.box 9 [.str nm])::gy 0 l):=by
 have nbr:(b=r)=False:=eq_false hbr
 have nrb:(r=b)=False:=eq_false (Ne.symm hbr)
 refine qX Tryz.func154 Tryz.ntmps154 ?_
 refine aG 4 Em ?_
 refine WP.lp [0,1,7] (X:={k:Nat // k≤l.length}) (fun x=>match x with| ⟨(k),_⟩=>[(8,.int .i64 k)]) (fun x=>match x with| ⟨(k),_⟩=>((r,.arr 75 (cO 0 l).flatten)::(b,.box 9 [.str nm])::gy 0 l)) (fun x=>match x with| ⟨(k),_⟩=>l.length - k) (by simp +decide only[W,↓reduceIte];rfl) ?_ ⟨(0),ada _⟩ ?_
 rotate_left
 ·exact Weak.rP (by simp[St.get,lk,W,Le.refl]) (fun _=>rfl)
 rintro ⟨k,hk⟩
 dsimp only
 simp only[abS,abT]
 refine aG 2 Em ?_
 refine WP.cond rfl (fun q1=>?_) (fun q1=>?_)
 ·have hlt:=aO q1
  have hd:(cO 0 l).flatten.drop (k * 2)= .str (bG l[k].name)::Ua k l[k]::((cO 0 l).drop (k+1)).flatten:=by rw[Cb 0 l hlt,ade]
  have hkl:(k<l.length)=True:=by simp[hlt]
  have h22:∀n:Nat,(2≤n+1+1)=True:=fun n=>eq_true (by omega)
  have hx:=hne _ (adb hlt)
  refine zG7 5 Em (Wx b (bG l[k].name) nm l[k].vals) q1 hd hkl h22 nbr @pU.eq_def ?_
  refine WP.cond rfl (fun q2=>?_) (fun q2=>?_)
  ·exact absurd q2 (by simp[hx])
  refine aJ 2 [] q2 ?_
  show ∃y,_∧Weak _ _ _
  refine⟨⟨k+1,?_⟩,?_,?_⟩
  ·show k+1≤l.length;omega
  ·dsimp only;omega
  exact Weak.rP (by simp[St.get,lk,Le.refl,aU hlt (show l.length≤140737488355328 by omega)]) (fun i=>by simp only[lk,PS];repeat' split <;> simp_all)
 have hge:=aP q1
 refine aJ 2 Em q1 ?_
 apply WP.ret
 refine Ends.imp (.inr rfl) rfl (Le.of_eq (by simp +decide only[St.get,W,↓reduceIte])) ?_ ?_ ?_
 ·simp
 ·exact kR l r [(b,.box 9 [.str nm])] (by simp[aB,hbr,h5b,lk]) h5r
 intro p hp;exact akj.2 ⟨_,(kR l r [(b,.box 9 [.str nm])] (by simp[aB,hbr,h5b,lk]) h5r p hp).1⟩
abbrev y9:List Nat:=[0,1,4,5,7,8,9,16]
theorem ae6 (l:List At)(r:Nat)(h5r:∀j,r≠3 * j+5)  (hne:∀a∈l,a.vals≠[])(hn:l.length≤1099511627776):aF Pr 154 [.arr r 2 l.length,.fn (.func 157) [] []] ((r,.arr 75 (cO 0 l).flatten)::gy 0 l) (.int .i64 (-1)) ((r,.arr 75 (cO 0 l).flatten)::gy 0 l):=by
 refine aF.of_wp Tryz.func154 rfl (by kernel_rfl) Tryz.ntmps154 (by simp) ?_
 simp only[aT,ade,ag1]
 iterate 2 first|(refine WP.S y9 fun _ z=>?_;simp +decide only[TF,↓reduceIte];apply z;clear z)|apply WP.seq
 refine WP.S [0,1,7,8] fun _ z=>?_;simp +decide only[TF,↓reduceIte];apply z;clear z
 apply WP.block
 refine WP.lp [0,1,7] (X:={k:Nat // k≤l.length}) (fun x=>match x with| ⟨(k),_⟩=>[(8,.int .i64 k)]) (fun x=>match x with| ⟨(k),_⟩=>((r,.arr 75 (cO 0 l).flatten)::gy 0 l)) (fun x=>match x with| ⟨(k),_⟩=>l.length - k) (by simp +decide only[W,↓reduceIte];rfl) ?_ ⟨(0),ada _⟩ ?_
 rotate_left
 ·exact Weak.rP (by simp[St.get,lk,W,Le.refl,W]) (fun _=>rfl)
 rintro ⟨k,hk⟩
 dsimp only
 simp only[abS,abT]
 iterate 2 first|(refine WP.S y9 fun _ z=>?_;simp +decide only[TF,↓reduceIte];apply z;clear z)|apply WP.seq
 refine WP.cond rfl (fun q1=>?_) (fun q1=>?_)
 ·have hlt:=aO q1
  have hd:(cO 0 l).flatten.drop (k * 2)= .str (bG l[k].name)::Ua k l[k]::((cO 0 l).drop (k+1)).flatten:=by rw[Cb 0 l hlt,ade]
  have hkl:(k<l.length)=True:=by simp[hlt]
  have h22:∀n:Nat,(2≤n+1+1)=True:=fun n=>eq_true (by omega)
  have hx:(((pU l[k].vals).length:Int) == 0)=false:=beq_eq_false_iff_ne.2 (by rw[rQ];have:=akT.2 (hne _ (adb hlt));omega)
  iterate 4 first|(refine WP.S y9 fun _ z=>?_;simp +decide only[TF,q1,↓reduceIte];apply z;clear z)|(apply WP.skip;show WP ..)|apply WP.block|apply WP.seq
  refine WP.S y9 fun _ z=>?_
  simp +decide only[TF,hd,hkl,h22,↓reduceIte]
  refine aj.pure (ae4 (bG l[k].name) false (pU l[k].vals)) rfl rfl (by simp[pU]) ?_
  simp +decide only[TF,↓reduceIte]
  apply z;clear z
  refine WP.cond rfl (fun q2=>?_) (fun q2=>?_)
  ·exact absurd q2 (by simp[hx])
  iterate 2 first|(refine WP.R fun _ z=>?_;simp +decide only[TF,q2,↓reduceIte];apply z;clear z)|(apply WP.skip;show WP ..)
  show ∃y,_∧Weak _ _ _
  refine⟨⟨k+1,?_⟩,?_,?_⟩
  ·show k+1≤l.length;omega
  ·dsimp only;omega
  exact Weak.rP (by simp[St.get,lk,Le.refl,aU hlt (show l.length≤140737488355328 by omega)]) (fun i=>by simp only[lk];repeat' split <;> simp_all)
 have hge:=aP q1
 iterate 2 first|(refine WP.S y9 fun _ z=>?_;simp +decide only[TF,q1,↓reduceIte];apply z;clear z)|(apply WP.exit;show WP ..)
 apply WP.ret
 refine Ends.imp (.inr rfl) rfl (Le.of_eq (by simp +decide only[St.get,W,↓reduceIte])) ?_ ?_ ?_
 ·simp
 ·exact kR l r [] (by simp) h5r
 intro p hp;exact akj.2 ⟨_,(kR l r [] (by simp) h5r p hp).1⟩
theorem aF.lkE {P:dF}{k:FuncId}{ds:List D}{ins outs ins' ae7:List (Nat × bf)}{v:D}(h:aF P k ds ins v outs)(h1:∀b,lk ins' b=lk ins b)(h2:∀b,lk ae7 b=lk outs b):aF P k ds ins' v ae7:=by
 unfold aF at h ⊢
 rw[show lk ins'=lk ins from funext h1,show lk ae7=lk outs from funext h2];exact h
def Cc:Nat→D
 | 0=> .slice 2 true [] (some 2)
 |k+1=> .arr 2 2 (k+1)
def outT:List At→List (Nat × bf)
 | []=>[(2,.aI 75 2 0)]
 |a::l=>(2,.arr 75 (cO 0 (a::l)).flatten)::gy 0 (a::l)
theorem ae8 {n:Nat}:∀{R:List D},R.length=n→∀a b:D,(R++[a,b]).drop (n+1)=[b]
 | [],rfl,a,b=>rfl
 |x::R,rfl,a,b=>ae8 (R:=R) rfl a b
theorem ae9 {n:Nat}:∀{R:List D},R.length=n→∀a b:D,(R++[a,b]).drop (n+1+1)=[]
 | [],rfl,a,b=>rfl
 |x::R,rfl,a,b=>ae9 (R:=R) rfl a b
theorem ae_ {n:Nat}:∀{R:List D},R.length=n→∀a b:D,(R++[a,b]).take (n+1)=R++[a]
 | [],rfl,a,b=>rfl
 |x::R,rfl,a,b=>congrArg (x::·) (ae_ (R:=R) rfl a b)
theorem abZ {S S':Nat→Prop}(h:∀b,S b→S' b){x:bf}(hx:aB S x):aB S' x:=by
 cases x with
 |box t cs=>exact fun d hd=>(hx d hd).mono h
 |arr t cs=>exact fun d hd=>(hx d hd).mono h
 |map es c=>exact fun d hd=>(hx d hd).mono h
 |dZ m s q z=>exact h _ hx
 | _=>trivial
theorem aik (k:Nat):(k=0∧Cc k= .slice 2 true [] (some 2))∨Cc k= .arr 2 2 k:=by cases k with|zero=>exact .inl ⟨rfl,rfl⟩|succ k=>exact .inr rfl
theorem Ny {l:List At}(h:l≠[]):outT l=(2,.arr 75 (cO 0 l).flatten)::gy 0 l:=by cases l with|nil=>exact absurd rfl h|cons a l=>rfl
theorem ae' {k:Nat}(h:0<k):Cc k= .arr 2 2 k:=by cases k with|zero=>omega|succ k=>rfl
theorem YI (l:List At):fresh (outT l)=3 * l.length+3:=by
 cases l with
 |nil=>rfl
 |cons a l=>
  rw[outT];simp only[fresh]
  rw[yZ,if_neg (by simp)];simp only[abN];omega
theorem afa (l:List At):FB (lk (outT l)) 2 75 2 (cO 0 l).flatten l.length (Cc l.length):=by
 cases l with
 |nil=>exact .inl ⟨.inr ⟨rfl,2,rfl⟩,rfl,rfl⟩
 |cons a l=>exact .inr ⟨rfl,wX _ _,rfl⟩
theorem ail (l:List At)(b:Nat)(h2:b≠2):lk (outT l) b=lk (gy 0 l) b:=by
 cases l with
 |nil=>simp[outT,lk,gy,h2]
 |cons a l=>simp[outT,lk,h2]
theorem ajZ:∀(l:List (Nat × bf)) (b:Nat),(∀p∈l,p.1≠b)→dl l b=l
 | [],_,_=>rfl
 |(c,x)::l,b,h=>by
  simp only[dl]
  rw[if_neg (fun e=>h (c,x) (by simp) e.symm),ajZ l b fun p hp=>h p (by simp[hp])]
theorem aas (l:List At)(b:Nat)(h2:b≠2)(h:b<5∨3 * l.length+3≤b∨b % 3≠2):dl (outT l) b=outT l:=by
 refine ajZ _ _ fun p hp=>?_
 cases l with
 |nil=>simp only[outT,ad1] at hp;subst hp;exact fun e=>h2 e.symm
 |cons a l=>
  simp only[outT,ael] at hp
  rcases hp with rfl|hp
  ·exact fun e=>h2 e.symm
  ·obtain⟨j,hj,rfl⟩:=rC 0 (a::l) p hp
   dsimp only;omega
theorem afb (l:List At):dl (outT l) 2=gy 0 l:=by
 cases l with
 |nil=>rfl
 |cons a l=>
  rw[outT];simp only[dl,↓reduceIte]
  exact Ej 0 (a::l) 2 fun j _=>by omega
theorem ab1 {l:List At}{k:Nat}(hk:k<l.length){σ:Nat→Option bf}(h2:σ 2=some (.arr 75 (cO 0 (l.take (k+1))).flatten))(hC:σ (3 * k+5)=some (.aI 9 1 l[k].vals.length))
  (hr:∀j,j<k→σ (3 * j+5)=lk (gy 0 (l.take k)) (3 * j+5)):∀q∈outT (l.take (k+1)),σ q.1=some q.2:=by
 rw[Ny (by simp;rintro rfl;simp at hk)]
 intro q hq
 simp only[ael] at hq
 rcases hq with rfl|hq
 ·exact h2
 ·obtain⟨j,hj,rfl⟩:=rC 0 _ q hq
  rw[adg] at hj
  have hj':j<l.length:=by omega
  simp only[ade,aoQ]
  by_cases h:j=k
  ·subst h;exact hC
  ·rw[hr j (by omega)]
   have:=yY 0 (l.take k) j (by rw[adg];omega)
   simp only[ade,aoQ] at this
   exact this
theorem take_snoc {l:List At}{k:Nat}(hk:k<l.length):l.take (k+1)=l.take k++[l[k]]:=by rw[aow,abt hk];rfl
theorem YJ {l:List At}{k:Nat}(hk:k<l.length):(cO 0 (l.take (k+1))).flatten=(cO 0 (l.take k)).flatten++[.str (bG l[k].name),Ua k l[k]]:=by
 rw[take_snoc hk,Nu,apL,adg]
 simp[amv (Nat.le_of_lt hk)]
theorem Rj (l:List At):∀q∈outT l,aB (fun i=>(lk (outT l) i).isSome=true) q.2:=by
 cases l with
 |nil=>simp[outT,aB]
 |cons a l=>intro q hq;exact (kR (a::l) 2 [] (by simp) (by omega) q hq).2
theorem ain (l:List At)(b:Nat)(nm:List UInt8)(hb:b=3 * l.length+4):∀p∈((b,bf.box 9 [.str nm])::outT l),aB (fun i=>(lk ((b,bf.box 9 [.str nm])::outT l) i).isSome=true) p.2:=by
 intro p hp
 simp only[ael] at hp
 rcases hp with rfl|hp
 ·simp[aB]
 ·exact abZ (fun i hi=>by simp only[lk];split <;> first|rfl|exact hi) (Rj l p hp)
theorem afc (l:List At)(b:Nat)(x:bf)(hb:b=3 * l.length+4):∀d∈[fg (Cc l.length),D.fn (.func 155) [] [.ref b 0]],bY (fun i=>(lk ((b,x)::outT l) i).isSome=true) d:=by
 cases l with
 |nil=>simp[Cc,fg,lk]
 |cons a l=>
  simp[Cc,fg,lk,outT]
  split <;> rfl
theorem ab2 (l:List At)(A B:Nat)(nm:List UInt8)(a:At):∀i blk,i≠2→lk ((B,bf.box 9 [.str nm])::(A,.box 75 a.cs)::outT l) i=some blk→aB (fun i=>i≠2) blk:=by
 intro i blk h2 h
 simp only[lk] at h
 split at h
 ·cases h;simp[aB]
 split at h
 ·cases h;exact fun d hd=>Eh a d hd
 ·rw[ail l i h2] at h
  obtain⟨j,hj,e⟩:=rC 0 l _ (iZ _ _ _ h)
  cases e;trivial
theorem ab3 {σ σ':Nat→Option bf}{b:Nat}{e:TypeId}{sz n:Nat}{cs:List D}{x:D}(h:FB σ b e sz cs n x)(hb:σ' b=σ b):FB σ' b e sz cs n x:=by
 unfold FB at h ⊢;rw[hb];exact h
theorem anG (l:List At)(b:Nat)(nm:List UInt8)(hb:b=3 * l.length+4)(hne:∀a∈l,(bG a.name == nm)=false)(hn:l.length≤1099511627776)(h0:aF Pr 154 [.slice 2 true [] none,.fn (.func 155) [] [.ref b 0]] [(b,.box 9 [.str nm])] (.int .i64 (-1)) [(b,.box 9 [.str nm])]):
  aF Pr 154 [fg (Cc l.length),.fn (.func 155) [] [.ref b 0]] ((b,.box 9 [.str nm])::outT l) (.int .i64 (-1)) ((b,.box 9 [.str nm])::outT l):=by
 cases l with
 |nil=>exact aF.frame [(2,.aI 75 2 0)] h0 (by intro i blk h;have:=iZ _ _ _ h;simp only[ad1] at this;cases this;simp[aB]) (fun _ h=>h) (fun _ h=> .inl h) (by simp[lk])
 |cons a l=>
  refine aF.lkE (ae5 (a::l) 2 b nm (by omega) (by omega) (by omega) hne hn) ?_ ?_ <;>
  ·intro j
   simp only[outT,lk]
   by_cases h:j=b
   ·rw[if_pos h,if_neg (by omega),if_pos h]
   ·rw[if_neg h,if_neg h]
theorem aly (l:List At)(b:Nat)(hb:b=3 * l.length+4)(x:bf)(A:Nat)(y:bf)(hA:A=3 * l.length+3):∀p∈((b,x)::outT l),lk ((b,x)::(A,y)::outT l) p.1=some p.2:=by
 intro p hp
 simp only[ael] at hp
 rcases hp with rfl|hp
 ·simp[lk]
 ·have hs:∀q∈outT l,lk (outT l) q.1=some q.2∧q.1≠b∧q.1≠A:=by
   intro q hq
   cases l with
   |nil=>simp only[outT,ad1] at hq;subst hq;refine⟨rfl,?_,?_⟩ <;> (simp at hb hA ⊢;omega)
   |cons a l=>
    refine⟨(kR (a::l) 2 [] (by simp) (by omega) q hq).1,?_⟩
    simp only[outT,ael] at hq
    rcases hq with rfl|hq
    ·dsimp only;omega
    ·obtain⟨j,hj,rfl⟩:=rC 0 (a::l) q hq
     dsimp only;omega
  obtain⟨h1,h2,h3⟩:=hs p hp
  simp only[lk]
  rw[if_neg h2,if_neg h3,h1]
theorem Wy (st:St)(ws:List (Nat × bf)):(st.lay ws).F=st.F:=by cases ws <;> rfl
theorem Rk {σ:Nat→Option bf}:∀{ws:List (Nat × bf)},(∀p∈ws,σ p.1=some p.2)→∀b,laid σ ws b=σ b
 | [],_,b=>rfl
 |(c,x)::ws,h,b=>by
  have ih:=Rk (σ:=σ) (ws:=ws) (fun p hp=>h p (by simp[hp])) b
  simp only[laid,lk] at ih ⊢
  by_cases e:b=c
  ·rw[if_pos e,e,h (c,x) (by simp)]
  ·rw[if_neg e];exact ih
theorem WA (st:St)(ws:List (Nat × bf))(h:∀p∈ws,lk st.σ p.1=some p.2):∀b,lk (st.lay ws).σ b=lk st.σ b:=by
 intro b;rw[lay_σ];exact Rk h b
theorem aj.keep {P:dF}{fo:D}{args:List D}{σ:List (Nat × bf)}{K:D→Rec→Prop}{k:FuncId}{first cap ds:List D}{ins:List (Nat × bf)}{val:D}(h:aF P k ds ins val ins)(hfo:fo= .fn (.func k) first cap)(has:ds=(first++args++cap).map fg)
  (hin:∀p∈ins,lk σ p.1=some p.2∧aB (fun i=>(lk ins i).isSome=true) p.2) (hcl:∀d∈ds,bY (fun i=>(lk ins i).isSome=true) d) (hk:∀ws BH,(∀p∈ws,lk σ p.1=some p.2)→K val ⟨BH,ws⟩):aj P fo args σ K:=
 aj.imp h hfo has hin (fun p hp=> .inl (by
  cases hl:lk ins p.1 with
  |some x=>rfl
  |none=>
   have:∀(l:List (Nat × bf)),p∈l→(lk l p.1).isSome=true:=fun l=>by
    induction l with
    |nil=>intro h;cases h
    |cons q l ih=>
     intro h
     obtain⟨c,x⟩:=q
     simp only[lk]
     split
     ·rfl
     ·rename_i hne
      rcases ael.1 h with rfl|h
      ·exact absurd rfl hne
      ·exact ih h
   have:=this ins hp
   rw[hl] at this;cases this)) hcl (hk _ _ fun p hp=>(hin p hp).1)
theorem Weak.lay {ent:List Nat}{st st':St}{F:List (Nat × D)}{ws:List (Nat × bf)}(hw:∀p∈ws,lk st.σ p.1=some p.2)(hF:∀p∈st'.F,Le ((⟨F,[]⟩:St).get p.1) p.2)(hσ:∀b,lk st'.σ b=lk st.σ b):Weak ent ⟨F,(st.lay ws).σ⟩ st':=
 Weak.rP hF fun b=>by rw[hσ b];exact (WA st ws hw b).symm
theorem afd (b:Nat)(nm:List UInt8):aF Pr 154 [.slice 2 true [] none,.fn (.func 155) [] [.ref b 0]] [(b,.box 9 [.str nm])] (.int .i64 (-1)) [(b,.box 9 [.str nm])]:=by
 refine qX Tryz.func154 Tryz.ntmps154 ?_
 refine aG 4 [0,1,4,7,8,9] ?_
 refine WP.lp [0,1,7] (X:={k:Nat // k≤0}) (fun x=>match x with| ⟨(k),_⟩=>[(8,.int .i64 k)]) (fun x=>match x with| ⟨(k),_⟩=>[(b,.box 9 [.str nm])]) (fun x=>match x with| ⟨(k),_⟩=>0 - k) (by simp +decide only[W,↓reduceIte];rfl) ?_ ⟨(0),ada _⟩ ?_
 rotate_left
 ·exact Weak.rP (by simp[St.get,lk,W,Le.refl,W]) (fun _=>rfl)
 rintro ⟨k,hk⟩
 dsimp only
 simp only[abS,abT]
 refine aG 2 [0,1,4,7,8,9] ?_
 refine WP.cond rfl (fun q1=>?_) (fun q1=>?_)
 ·exact absurd (of_decide_eq_true q1) (by omega)
 refine aJ 2 [0,1,4,7,8,9] q1 ?_
 apply WP.ret
 exact ZN
theorem alz (l:List At)(hne:∀a∈l,a.vals≠[])(hn:l.length≤1099511627776):aF Pr 156 [.arr 2 2 l.length,.fn (.func 157) [] []] ((2,.arr 75 (cO 0 l).flatten)::gy 0 l) (.arr 2 2 l.length) ((2,.arr 75 (cO 0 l).flatten)::gy 0 l):=by
 refine qX Tryz.func156 Tryz.ntmps156 ?_
 refine aG 1 [0,1] ?_
 refine WP.meet (⟨[(5,.int .i64 (-1)),(0,.arr 2 2 l.length)],(2,.arr 75 (cO 0 l).flatten)::gy 0 l⟩) ?_ ?_
 ·
  refine WP.region (by kernel_rfl) fun K hK=>?_
  simp +decide only[TF,↓reduceIte]
  refine aj.keep (ae6 l 2 (by omega) hne hn) rfl rfl (kR l 2 [] (by simp) (by omega)) (by simp[lk]) ?_
  intro ws BH hws
  simp +decide only[TF,oZ,↓reduceIte]
  refine hK _ _ ?_
  show Weak _ _ _
  exact Weak.lay hws (by simp[St.get,lk,W,Wy,Le.refl,W]) (fun _=>rfl)
 ·
  refine aG 2 [0,1,5,12] ?_
  refine WP.cond (b:=true) (by rfl) (fun _=>?_) nofun
  refine aG 1 [4] ?_
  refine WP.ret ?_
  refine Ends.imp (.inr rfl) rfl (Le.of_eq (by simp +decide only[St.get,W,↓reduceIte])) ?_ ?_ ?_
  · simp[lk]
  · exact kR l 2 [] (by simp) (by omega)
  · intro p hp;exact akj.2 ⟨_,(kR l 2 [] (by simp) (by omega) p hp).1⟩
abbrev vS:List Nat:=[0,2,3,8,13,25]
theorem ab4 (vs:List (List UInt8))(hn:vs.length≤1099511627776)(hne:∀(j:Nat) (h:j+1<vs.length),(vs[j+1] == vs[j])=false):aF Pr 158 [.arr 0 1 vs.length] [(0,.arr 9 (vs.map .str))] (.arr 0 1 vs.length) [(0,.arr 9 (vs.map .str))]:=by
 refine qX Tryz.func158 Tryz.ntmps158 ?_
 refine aG 3 vS ?_
 refine WP.cond rfl (fun q1=>?_) (fun q1=>?_)
 ·refine aJ 1 vS q1 ?_
  apply WP.ret
  exact ZN
 have h2:=of_decide_eq_false q1
 refine aJ 4 [0,3] q1 ?_
 refine WP.lp [0] (X:={k:Nat // k+1≤vs.length}) (fun x=>match x with| ⟨(k),_⟩=>[(3,.int .i64 ((k+1:Nat):Int))]) (fun x=>match x with| ⟨(k),_⟩=>[(0,.arr 9 (vs.map .str))]) (fun x=>match x with| ⟨(k),_⟩=>vs.length - (k+1)) (by simp +decide only[W,↓reduceIte];rfl) ?_ ⟨(0),by omega⟩ ?_
 rotate_left
 ·exact Weak.rP (by simp[St.get,lk,W,Le.refl]) (fun _=>rfl)
 rintro ⟨k,hk⟩
 dsimp only
 simp only[abS,abT]
 refine aG 2 vS ?_
 refine WP.cond rfl (fun q2=>?_) (fun q2=>?_)
 ·have hlt:(k+1)<vs.length:=by have:=of_decide_eq_true q2;omega
  have hx:=hne k hlt
  have hw:IntKind.i64.wrap (((k+1:Nat):Int) - 1)=((k:Nat):Int):=by rw[Int.natCast_add,Int.natCast_one,Int.add_sub_cancel];exact wrap_i64 (by omega) (by omega)
  have hk1:(k+1<vs.length)=True:=eq_true hlt
  have hk2:(k<vs.length)=True:=eq_true (by omega)
  have hg1:(vs.map D.str).drop (k+1)= .str vs[k+1]::(vs.map D.str).drop (k+1+1):=by rw[← List.map_drop,← List.map_drop,bZ hlt];rfl
  have hg2:(vs.map D.str).drop k= .str vs[k]::(vs.map D.str).drop (k+1):=by rw[← List.map_drop,← List.map_drop,bZ (by omega:k<vs.length)];rfl
  refine zG8 4 vS q2 hx hw hk1 hk2 hg1 hg2 @aos ?_
  refine WP.cond rfl (fun q3=>?_) (fun q3=>?_)
  ·exact absurd q3 (by decide)
  refine aG 2 [] ?_
  show ∃y,_∧Weak _ _ _
  refine⟨⟨k+1,hlt⟩,?_,?_⟩
  ·dsimp only;omega
  exact Weak.rP (by simp[St.get,lk,Le.refl,show IntKind.i64.wrap ((k:Int)+1+1)=(k:Int)+1+1 from wrap_i64 (by omega) (by omega)]) (fun _=>rfl)
 have hge:vs.length≤(k+1):=by have:=of_decide_eq_false q2;omega
 refine aJ 2 vS q2 ?_
 apply WP.ret
 exact ZN
end Go.Proofs
