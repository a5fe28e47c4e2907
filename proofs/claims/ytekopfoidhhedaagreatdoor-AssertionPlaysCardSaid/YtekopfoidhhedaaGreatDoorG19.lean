import Derived.Test.YtekopfoidhhedaaGreatDoorG13
import Derived.Test.YtekopfoidhhedaaGreatDoorG18
import Derived.Test.YtekopfoidhhedaaGreatDoorG17
set_option linter.unusedVariables false
set_option linter.unusedSimpArgs false
set_option linter.unnecessarySimpa false
set_option maxRecDepth 10000
namespace Go.Proofs
open Go Go.Id
theorem VG {s:List UInt8}{v:Int}(h:Lib.atoiAll s= .ok v):Ji s= .aQ [.int .i64 v,.aK]:=by unfold Ji;rw[h]
theorem QM {s:List UInt8}(h:Lib.atoiAll s=Lib.atoiAll []):Ji s= .aQ [.int .i64 0,.iface 256 .junk]:=by unfold Ji;rw[h];rfl
theorem ZY {s:List UInt8}(h:Lib.atoiAll s=Lib.atoiAll []):rdV s=(0,27):=by unfold rdV;rw[h];rfl
theorem QN {s:List UInt8}(h:Lib.atoiAll s= .range):Ji s= .aQ [.int .i64 (Lib.atoiSat s),.iface 256 .junk]:=by unfold Ji;rw[h]
abbrev bD:List Nat:=[0,2,3,4,6,7,8,21,23,24,25,32,39]
theorem Yl (s:List UInt8)(hs:s.length≤1099511627776):ay Pr 103 [.str s] (.aQ [.int .i64 (UM s).1,.int .i64 (UM s).2]):=by
 have hdl:=aem s
 refine ay.W Tryz.func103 Tryz.ntmps103 ?_
 simp only[aT]
 refine aG 1 bD ?_
 refine WP.S bD fun _ z=>?_
 simp +decide only[TF,↓reduceIte]
 refine aj.P (MF _ _) rfl rfl ?_
 simp +decide only[TF,abB,↓reduceIte]
 apply z;clear z
 apply WP.seq
 refine WP.S bD fun _ z=>?_
 refine ah.take 3 fun J hJ=>?_
 simp +decide only[TF,↓reduceIte]
 refine hJ _ _ ?_;clear hJ J
 refine ah.part 13 rfl (fun q1=>?_) (fun q1=>?_)
 ·refine ah.take 3 fun J hJ=>?_
  simp +decide only[TF,q1,↓reduceIte]
  refine hJ _ _ ?_;clear hJ J
  refine ah.part 16 rfl (fun q2=>?_) (fun q2=>?_)
  ·simp +decide only[TF,q2,↓reduceIte]
   apply z;clear z
   refine aG 2 bD ?_
   apply WP.ret
   exact Ends.P (d:= .aQ [_,_]) rfl (Le.of_eq (by simp_all[St.get,lk,W,UM,uI]))
  have hne:0<(nK s).length:=by cases hd0:nK s with|nil=>simp[hd0] at q2|cons=>simp
  have e0:=kU hne
  have e0c:=zV hne
  simp +decide only[TF,q2,e0,↓reduceIte]
  apply z;clear z
  refine WP.cond rfl (fun q3=>?_) (fun q3=>?_)
  ·refine aJ 1 bD q3 ?_
   apply WP.ret
   exact Ends.P (d:= .aQ [_,_]) rfl (Le.of_eq (by simp_all[St.get,lk,W,UM,uI]))
  refine aJ 4 [0,23] q3 ?_
  refine WP.lp [0,23] (X:={k:Nat // k≤(nK s).length∧uI s=((nK s).drop k).all (fun c=>qZ c.toNat)}) (fun x=>match x with| ⟨(k),_⟩=>[]) (fun x=>match x with| ⟨(k),_⟩=>[(0,.iter (nK s) k)]) (fun x=>match x with| ⟨(k),_⟩=>(nK s).length - k) (by simp +decide only[W,↓reduceIte];rfl) ?_ ⟨(0),⟨ada _,by simp_all[uI]⟩⟩ ?_
  rotate_left
  ·exact Weak.frame (by simp[St.get,lk,W,Le.refl])
  rintro ⟨k,hk,hI⟩
  dsimp only
  simp only[abT]
  rcases MQ qZ ajL (nK s) k hk with hge | ⟨hlt,hb,hd⟩ | ⟨hlt,hd1,hd2,hd⟩
  ·have hnl:¬k<(nK s).length:=by omega
   rw[dR hge] at hI
   simp only[amn] at hI
   refine aJ 4 bD hnl ?_
   rcases VD s with⟨v,hv⟩|hv|hv
   ·have hA:=VG hv
    refine WP.S bD fun _ z=>?_
    simp +decide only[TF,↓reduceIte]
    refine aj.P (vg _ (by omega)) rfl rfl ?_
    simp +decide only[TF,hA,↓reduceIte]
    apply z;clear z
    refine aG 5 bD ?_
    apply WP.ret
    exact Ends.P (d:= .aQ [_,_]) rfl (Le.of_eq (by simp[St.get,lk,W,UM,rdV,hI,hv]))
   ·have hA:=QM hv
    have hV:=ZY hv
    refine WP.S bD fun _ z=>?_
    simp +decide only[TF,↓reduceIte]
    refine aj.P (vg _ (by omega)) rfl rfl ?_
    simp +decide only[TF,hA,↓reduceIte]
    apply z;clear z
    refine aG 4 bD ?_
    apply WP.ret
    exact Ends.P (d:= .aQ [_,_]) rfl (Le.of_eq (by simp_all[St.get,lk,W,UM,rdV,uI]))
   have hA:=QN hv
   refine WP.S bD fun _ z=>?_
   simp +decide only[TF,↓reduceIte]
   refine aj.P (vg _ (by omega)) rfl rfl ?_
   simp +decide only[TF,hA,↓reduceIte]
   apply z;clear z
   refine aG 4 bD ?_
   apply WP.ret
   exact Ends.P (d:= .aQ [_,_]) rfl (Le.of_eq (by simp[St.get,lk,W,UM,rdV,hI,hv]))
  ·rw[hd] at hI
   have hb1:decide ((((jw (nK s) k).1:Nat):Int)<48)=false:=decide_eq_false (by omega)
   have hb2:decide ((((jw (nK s) k).1:Nat):Int)>57)=true:=decide_eq_true (by omega)
   refine oC 9 bD hlt hb1 hb2 ?_
   apply WP.ret
   exact Ends.P (d:= .aQ [_,_]) rfl (Le.of_eq (by simp[St.get,lk,W,UM,hI]))
  rw[hd] at hI
  refine oC 6 bD hlt hd1 hd2 ?_
  refine WP.S bD fun _ z=>?_
  refine ah.take 3 fun J hJ=>?_
  simp +decide only[TF,↓reduceIte]
  refine hJ _ _ ?_;clear hJ J
  refine ah.part 29 rfl (fun q4=>?_) (fun q4=>?_)
  ·have hz:qZ ((nK s)[k].toNat:Int)=false:=by have:=of_decide_eq_true q4;simp[qZ];omega
   simp +decide only[TF,q4,↓reduceIte]
   apply z;clear z
   refine aG 2 bD ?_
   apply WP.ret
   exact Ends.P (d:= .aQ [_,_]) rfl (Le.of_eq (by simp[St.get,lk,W,UM,hz,hI]))
  simp +decide only[TF,q4,↓reduceIte]
  apply z;clear z
  refine WP.cond rfl (fun q5=>?_) (fun q5=>?_)
  ·have hz:qZ ((nK s)[k].toNat:Int)=false:=by have:=of_decide_eq_true q5;simp[qZ];omega
   refine aJ 1 bD q5 ?_
   apply WP.ret
   exact Ends.P (d:= .aQ [_,_]) rfl (Le.of_eq (by simp[St.get,lk,W,UM,hz,hI]))
  apply WP.skip
  show ∃y,_∧Weak _ _ _
  refine⟨⟨k+1,?_⟩,?_,?_⟩
  ·exact⟨by omega,by simp_all[qZ]⟩
  ·dsimp only;omega
  exact Weak.store (by simp[St.get,lk,W,Le.refl]) (by simp[lk]) (by simp[lk]) (by simp[aB]) (by simp)
 simp +decide only[TF,q1,↓reduceIte]
 apply z;clear z
 refine aG 5 [0,23] ?_
 refine WP.lp [0,23] (X:={k:Nat // k≤(nK s).length∧uI s=((nK s).drop k).all (fun c=>qZ c.toNat)}) (fun x=>match x with| ⟨(k),_⟩=>[]) (fun x=>match x with| ⟨(k),_⟩=>[(0,.iter (nK s) k)]) (fun x=>match x with| ⟨(k),_⟩=>(nK s).length - k) (by simp +decide only[W,↓reduceIte];rfl) ?_ ⟨(0),⟨ada _,by simp_all[uI]⟩⟩ ?_
 rotate_left
 ·exact Weak.frame (by simp[St.get,lk,W,Le.refl])
 rintro ⟨k,hk,hI⟩
 dsimp only
 simp only[abT]
 rcases MQ qZ ajL (nK s) k hk with hge | ⟨hlt,hb,hd⟩ | ⟨hlt,hd1,hd2,hd⟩
 ·have hnl:¬k<(nK s).length:=by omega
  rw[dR hge] at hI
  simp only[amn] at hI
  refine aJ 4 bD hnl ?_
  rcases VD s with⟨v,hv⟩|hv|hv
  ·have hA:=VG hv
   refine WP.S bD fun _ z=>?_
   simp +decide only[TF,↓reduceIte]
   refine aj.P (vg _ (by omega)) rfl rfl ?_
   simp +decide only[TF,hA,↓reduceIte]
   apply z;clear z
   refine aG 5 bD ?_
   apply WP.ret
   exact Ends.P (d:= .aQ [_,_]) rfl (Le.of_eq (by simp[St.get,lk,W,UM,rdV,hI,hv]))
  ·have hA:=QM hv
   have hV:=ZY hv
   refine WP.S bD fun _ z=>?_
   simp +decide only[TF,↓reduceIte]
   refine aj.P (vg _ (by omega)) rfl rfl ?_
   simp +decide only[TF,hA,↓reduceIte]
   apply z;clear z
   refine aG 4 bD ?_
   apply WP.ret
   exact Ends.P (d:= .aQ [_,_]) rfl (Le.of_eq (by simp_all[St.get,lk,W,UM,rdV,uI]))
  have hA:=QN hv
  refine WP.S bD fun _ z=>?_
  simp +decide only[TF,↓reduceIte]
  refine aj.P (vg _ (by omega)) rfl rfl ?_
  simp +decide only[TF,hA,↓reduceIte]
  apply z;clear z
  refine aG 4 bD ?_
  apply WP.ret
  exact Ends.P (d:= .aQ [_,_]) rfl (Le.of_eq (by simp[St.get,lk,W,UM,rdV,hI,hv]))
 ·rw[hd] at hI
  have hb1:decide ((((jw (nK s) k).1:Nat):Int)<48)=false:=decide_eq_false (by omega)
  have hb2:decide ((((jw (nK s) k).1:Nat):Int)>57)=true:=decide_eq_true (by omega)
  refine oC 9 bD hlt hb1 hb2 ?_
  apply WP.ret
  exact Ends.P (d:= .aQ [_,_]) rfl (Le.of_eq (by simp[St.get,lk,W,UM,hI]))
 rw[hd] at hI
 refine oC 6 bD hlt hd1 hd2 ?_
 refine WP.S bD fun _ z=>?_
 refine ah.take 3 fun J hJ=>?_
 simp +decide only[TF,↓reduceIte]
 refine hJ _ _ ?_;clear hJ J
 refine ah.part 29 rfl (fun q6=>?_) (fun q6=>?_)
 ·have hz:qZ ((nK s)[k].toNat:Int)=false:=by have:=of_decide_eq_true q6;simp[qZ];omega
  simp +decide only[TF,q6,↓reduceIte]
  apply z;clear z
  refine aG 2 bD ?_
  apply WP.ret
  exact Ends.P (d:= .aQ [_,_]) rfl (Le.of_eq (by simp[St.get,lk,W,UM,hz,hI]))
 simp +decide only[TF,q6,↓reduceIte]
 apply z;clear z
 refine WP.cond rfl (fun q7=>?_) (fun q7=>?_)
 ·have hz:qZ ((nK s)[k].toNat:Int)=false:=by have:=of_decide_eq_true q7;simp[qZ];omega
  refine aJ 1 bD q7 ?_
  apply WP.ret
  exact Ends.P (d:= .aQ [_,_]) rfl (Le.of_eq (by simp[St.get,lk,W,UM,hz,hI]))
 apply WP.skip
 show ∃y,_∧Weak _ _ _
 refine⟨⟨k+1,?_⟩,?_,?_⟩
 ·exact⟨by omega,by simp_all[qZ]⟩
 ·dsimp only;omega
 exact Weak.store (by simp[St.get,lk,W,Le.refl]) (by simp[lk]) (by simp[lk]) (by simp[aB]) (by simp)
theorem QO (s:List UInt8)(hs:s.length≤1099511627776):ay Pr 103 [.str s] (OE s):=by
 have:=Yl s hs
 rw[akY] at this
 exact this
theorem yL (t:List UInt8)(z:Bool)(hs:t.length≤140737488355328):ay Pr 170 [.str t,.bool z] (.bool (h_ t z)):=by
 refine gK Tryz.func170 Tryz.ntmps170 ?_
 refine aG 2 [0,1] ?_
 refine WP.sr [0,22] (by kernel_rfl) fun K hK=>?_
 refine ah.take 4 fun J hJ=>?_
 simp +decide only[TF,↓reduceIte]
 refine hJ _ _ ?_;clear hJ J
 refine ah.part 9 rfl (fun q1=>?_) (fun q1=>?_)
 ·
  simp +decide only[TF,q1,↓reduceIte]
  refine hK _ _ ?_;clear hK K
  refine WP.cond (b:=true) (by rfl) (fun _=>?_) nofun
  refine aG 1 [4] ?_
  refine WP.ret ?_
  exact Ends.pure (.inr rfl) rfl (Le.of_eq (by simp_all[St.get,W,h_])) (by simp)
 ·
  have hne:0<t.length:=by cases t with|nil=>simp at q1|cons=>simp
  have e0:=kU hne
  have e0c:=zV hne
  have hnn:(t == [])=false:=by cases t <;> simp at hne ⊢
  refine ah.take 4 fun J hJ=>?_
  simp +decide only[TF,q1,e0,↓reduceIte]
  refine hJ _ _ ?_;clear hJ J
  refine ah.part 13 rfl (fun q2=>?_) (fun q2=>?_)
  ·
   refine ah.take 4 fun J hJ=>?_
   simp +decide only[TF,q2,↓reduceIte]
   refine hJ _ _ ?_;clear hJ J
   refine ah.part 17 rfl (fun q3=>?_) (fun q3=>?_)
   ·
    simp +decide only[TF,q3,↓reduceIte]
    refine hK _ _ ?_;clear hK K
    refine WP.cond (b:=true) (by rfl) (fun _=>?_) nofun
    refine aG 1 [4] ?_
    refine WP.ret ?_
    exact Ends.pure (.inr rfl) rfl (Le.of_eq (by simp +decide only[St.get,W,h_,e0c,hnn,q2,q3,↓reduceIte])) (by simp)
   ·
    simp +decide only[TF,q3,↓reduceIte]
    refine hK _ _ ?_;clear hK K
    refine WP.cond (b:=_) rfl (fun q4=>?_) (fun q4=>?_)
    ·
     refine aJ 1 [4] q4 ?_
     refine WP.ret ?_
     exact Ends.pure (.inr rfl) rfl (Le.of_eq (by simp +decide only[St.get,W,h_,e0c,hnn,q2,q3,q4,↓reduceIte])) (by simp)
    ·
     refine aJ 4 [0,5] q4 ?_
     refine WP.lp [0] (X:={k:Nat // k≤t.length∧h_ t z=(t.drop k).all (fun c=>qZ c.toNat)}) (fun x=>match x with| ⟨(k),_⟩=>[(5,.int .i64 k)]) (fun x=>match x with| ⟨(k),_⟩=>[]) (fun x=>match x with| ⟨(k),_⟩=>t.length - k) (by simp +decide only[W,↓reduceIte];rfl) ?_ ⟨(0),⟨ada _,by first|(simp[h_,e0c,hnn,q2,q3,q4];done)|(simp_all[h_];done)⟩⟩ ?_
     rotate_left
     ·exact OC
     rintro ⟨k,hk,hI⟩
     dsimp only
     simp only[abS,abT]
     refine aG 2 [0,5,26] ?_
     refine WP.cond (b:=_) rfl (fun q5=>?_) (fun q5=>?_)
     ·
      have hlt:=aO q5
      have hg:=kU hlt
      rw[bZ hlt] at hI
      simp only[alf] at hI
      refine aG 3 [] ?_
      refine WP.sm [0,5] 38 (.bool (!(qZ t[k].toNat))) (by kernel_rfl) (fun K hK=>?_) ?_
      ·
       refine ah.take 5 fun J hJ=>?_
       simp +decide only[TF,q5,hg,↓reduceIte]
       refine hJ _ _ ?_;clear hJ J
       refine ah.part 33 rfl (fun q6=>?_) (fun q6=>?_)
       ·
        simp +decide only[TF,q6,↓reduceIte]
        exact hK _ _ (by simp[St.get,lk,W]) rfl (Le.of_eq (by simp_all[St.get,lk,W,qZ]))
       ·
        simp +decide only[TF,hg,q6,↓reduceIte]
        exact hK _ _ (by simp[St.get,lk,W]) rfl (Le.of_eq (by first|(simp[St.get,lk,qZ];done)|(simp_all[St.get,lk,W,qZ];done)|(simp_all[St.get,lk,W,qZ];rw[agZ];simp;try omega;done)))
      ·
       refine WP.cond (b:=_) rfl (fun q7=>?_) (fun q7=>?_)
       ·
        refine jd 1 [4] q5 q7 ?_
        refine WP.ret ?_
        exact Ends.pure (.inr rfl) rfl (Le.of_eq (by simp_all[St.get,W,h_])) (by simp)
       ·
        refine jd 2 [] q5 q7 ?_
        show ∃y,_∧Weak _ _ _
        refine⟨⟨k+1,?_⟩,?_,Weak.nil ?_ ?_⟩
        ·exact⟨by omega,by first|(simpa [q1,e0,e0c,hnn,q2,q3,q4,q5,hg,q7] using hI)|(simp_all;done)⟩
        ·dsimp only;omega
        ·simp[St.get,lk,Le.refl,aU hlt hs]
        ·simp[W]
     ·
      have hge:=aP q5
      rw[dR hge] at hI
      simp only[amn] at hI
      refine aJ 2 [4] q5 ?_
      refine WP.ret ?_
      exact Ends.pure (.inr rfl) rfl (Le.of_eq (by simp_all[St.get,W,h_])) (by simp)
  ·
   simp +decide only[TF,q2,↓reduceIte]
   refine hK _ _ ?_;clear hK K
   refine WP.cond (b:=false) (by rfl) nofun (fun _=>?_)
   refine aG 4 [0,5] ?_
   refine WP.lp [0] (X:={k:Nat // k≤t.length∧h_ t z=(t.drop k).all (fun c=>qZ c.toNat)}) (fun x=>match x with| ⟨(k),_⟩=>[(5,.int .i64 k)]) (fun x=>match x with| ⟨(k),_⟩=>[]) (fun x=>match x with| ⟨(k),_⟩=>t.length - k) (by simp +decide only[W,↓reduceIte];rfl) ?_ ⟨(0),⟨ada _,by first|(simp[h_,e0c,hnn,q2];done)|(simp_all[h_];done)⟩⟩ ?_
   rotate_left
   ·exact OC
   rintro ⟨k,hk,hI⟩
   dsimp only
   simp only[abS,abT]
   refine aG 2 [0,5,26] ?_
   refine WP.cond (b:=_) rfl (fun q8=>?_) (fun q8=>?_)
   ·
    have hlt:=aO q8
    have hg:=kU hlt
    rw[bZ hlt] at hI
    simp only[alf] at hI
    refine aG 3 [] ?_
    refine WP.sm [0,5] 38 (.bool (!(qZ t[k].toNat))) (by kernel_rfl) (fun K hK=>?_) ?_
    ·
     refine ah.take 5 fun J hJ=>?_
     simp +decide only[TF,q8,hg,↓reduceIte]
     refine hJ _ _ ?_;clear hJ J
     refine ah.part 33 rfl (fun q9=>?_) (fun q9=>?_)
     ·
      simp +decide only[TF,q9,↓reduceIte]
      exact hK _ _ (by simp[St.get,lk,W]) rfl (Le.of_eq (by simp_all[St.get,lk,W,qZ]))
     ·
      simp +decide only[TF,hg,q9,↓reduceIte]
      exact hK _ _ (by simp[St.get,lk,W]) rfl (Le.of_eq (by first|(simp[St.get,lk,qZ];done)|(simp_all[St.get,lk,W,qZ];done)|(simp_all[St.get,lk,W,qZ];rw[agZ];simp;try omega;done)))
    ·
     refine WP.cond (b:=_) rfl (fun q10=>?_) (fun q10=>?_)
     ·
      refine jd 1 [4] q8 q10 ?_
      refine WP.ret ?_
      exact Ends.pure (.inr rfl) rfl (Le.of_eq (by simp_all[St.get,W,h_])) (by simp)
     ·
      refine jd 2 [] q8 q10 ?_
      show ∃y,_∧Weak _ _ _
      refine⟨⟨k+1,?_⟩,?_,Weak.nil ?_ ?_⟩
      ·exact⟨by omega,by first|(simpa [q1,e0,e0c,hnn,q2,q8,hg,q10] using hI)|(simp_all;done)⟩
      ·dsimp only;omega
      ·simp[St.get,lk,Le.refl,aU hlt hs]
      ·simp[W]
   ·
    have hge:=aP q8
    rw[dR hge] at hI
    simp only[amn] at hI
    refine aJ 2 [4] q8 ?_
    refine WP.ret ?_
    exact Ends.pure (.inr rfl) rfl (Le.of_eq (by simp_all[St.get,W,h_])) (by simp)
theorem aeu (n:Int)(h0:-9223372036854775808≤n)(h1:n≤9223372036854775807):ay Pr 95 [.int .i64 n] (.str (Lib.itoa n)):=by
 refine gK Tryz.func95 Tryz.ntmps95 ?_
 refine aG 1 [0,2] ?_
 refine WP.S [0,2] fun _ z=>?_
 simp +decide only[TF,↓reduceIte]
 refine aj.P (Vu _ (by assumption) (by assumption)) rfl rfl ?_
 simp +decide only[TF,↓reduceIte]
 apply z;clear z
 apply WP.ret
 exact Ya
abbrev uf:List Nat:=[0,2,3,4,5,7,10,16,27]
theorem Tn (n:Int)(h0:-9223372036854775808≤n)(h1:n≤9223372036854775807):ay Pr 46 [.int .i64 n] (.str (Lib.itoa n)):=by
 refine gK Tryz.func46 Tryz.ntmps46 ?_
 refine aG 3 uf ?_
 refine WP.cond rfl (fun q1=>?_) (fun q1=>?_)
 ·obtain rfl:n=0:=by simpa using q1
  refine aG 1 uf ?_
  apply WP.ret
  exact Ends.P rfl (Le.of_eq (by simp[St.get,W,ak0]))
 have hn:n≠0:=by simpa using q1
 refine aJ 5 uf q1 ?_
 refine WP.lp [0] (X:={x:(Int) × (List UInt8) // match x with|(m,out)=>MR n m out}) (fun x=>match x with| ⟨(m,out),_⟩=>[(3,.str out),(4,.int .i64 m)]) (fun x=>match x with| ⟨(m,out),_⟩=>[]) (fun x=>match x with| ⟨(m,out),_⟩=>m.natAbs) (by simp +decide only[W,↓reduceIte];rfl) ?_ ⟨(n,[]),Tm n h0 h1 hn⟩ ?_
 rotate_left
 ·exact OC
 rintro ⟨⟨m,out⟩,hI⟩
 dsimp only
 simp only[abS,abT]
 dsimp only at hI
 refine aG 2 uf ?_
 refine WP.cond rfl (fun q2=>?_) (fun q2=>?_)
 ·have hm:m≠0:=by simpa using q2
  obtain⟨hl,hJ⟩:=VF hI hm
  have hdb:=aes (m.natAbs % 10) (by omega)
  refine aJ 6 uf q2 ?_
  refine WP.cond rfl (fun q3=>?_) (fun q3=>?_)
  ·have htm:=tmod_neg m (of_decide_eq_true q3)
   refine jd 1 [] q3 htm ?_
   refine WP.R fun _ z=>?_
   simp +decide only[TF,hdb,bytesOf?,byteOf?,↓reduceIte]
   refine⟨by first|omega|(simp;omega),?_⟩
   apply z;clear z
   show WP ..
   refine aG 1 [] ?_
   show ∃y,_∧Weak _ _ _
   refine⟨⟨(m.tdiv 10,UInt8.ofNat (48+m.natAbs % 10)::out),hJ⟩,?_,Weak.nil ?_ ?_⟩
   ·have:=DZ m;dsimp only;omega
   ·simp[St.get,lk,Le.refl,QL m hI.1 hI.2.1]
   simp[W]
  have htm:=aer m (of_decide_eq_false q3)
  refine aG 1 [] ?_
  refine WP.R fun _ z=>?_
  simp +decide only[TF,hdb,htm,bytesOf?,byteOf?,↓reduceIte]
  refine⟨by first|omega|(simp;omega),?_⟩
  apply z;clear z
  show WP ..
  refine aG 1 [] ?_
  show ∃y,_∧Weak _ _ _
  refine⟨⟨(m.tdiv 10,UInt8.ofNat (48+m.natAbs % 10)::out),hJ⟩,?_,Weak.nil ?_ ?_⟩
  ·have:=DZ m;dsimp only;omega
  ·simp[St.get,lk,Le.refl,QL m hI.1 hI.2.1]
  simp[W]
 obtain rfl:m=0:=by simpa using q2
 have hE:=Yk hI
 refine aG 3 uf ?_
 refine WP.cond rfl (fun q4=>?_) (fun q4=>?_)
 ·have hit:=itoa_neg n (of_decide_eq_true q4)
  refine WP.S uf fun _ z=>?_
  simp +decide only[TF,q4,↓reduceIte]
  refine⟨by have:=hI.2.2.1;first|omega|(simp;omega),?_⟩
  apply z;clear z
  apply WP.ret
  exact Ends.P rfl (Le.of_eq (by rw[hit,hE];simp[St.get,W]))
 have hit:=D5 n (of_decide_eq_false q4)
 refine aJ 2 uf q4 ?_
 apply WP.ret
 exact Ends.P rfl (Le.of_eq (by rw[hit,hE];simp[St.get,W]))
set_option maxRecDepth 10000
theorem apx:(((45:UInt8).toNat:Int) == 45)=true:=by decide
theorem gt0 (n:Nat):decide (((n+1:Nat):Int)>0)=true:=decide_eq_true (by omega)
theorem le1 (n:Nat):(1≤n+1)=True:=eq_true (by omega)
theorem apy {s:List UInt8}(h:0<s.length):decide ((s.length:Int)>0)=true:=decide_eq_true (by omega)
theorem ahK (s:List UInt8)(h:0<s.length)(hc:¬s[0]=45):xB s=if h_ s true then (if eH s<9223372036854775808 then ((eH s:Int),0) else (0,27)) else (0,4):=by
 match s,h,hc with
 |c::t,_,hc=>simp only[xB];rw[if_neg (by simpa using hc)]
theorem JH:ay Pr 108 [.str []] (OE []):=by
 have h00:decide (((0:Nat):Int)>0)=false:=by decide
 refine gK Tryz.func108 Tryz.ntmps108 ?_
 refine aJ 10 [0,2,3,4,5,6,19,26] (yL [] true (by simp)) ?_
 refine WP.cond rfl (fun q1=>?_) (fun q1=>?_)
 ·simp only[adh] at q1
  refine aJ 1 [0,2,3,4,5,6,19,26] q1 ?_
  apply WP.ret
  exact Ends.P (d:= .aQ [_,_]) rfl (Le.of_eq (by simp +decide only[St.get,lk,W,OE,xB,↓reduceIte]))
 simp only[afE] at q1
 exact absurd q1 (by decide)
abbrev iq:List Nat:=[0,2,3,4,5,6,7,8,9,19,26,30,43,48]
theorem JI (t:List UInt8)(hs:t.length<1099511627776):ay Pr 108 [.str (45::t)] (OE (45::t)):=by
 have hL:t.length≤140737488355328:=by omega
 refine ay.W Tryz.func108 Tryz.ntmps108 ?_
 simp only[aT]
 refine OY 10 iq (yL (t) false (by omega)) apx @gt0 @ajy.{0} @le1 ?_
 refine WP.cond rfl (fun q1=>?_) (fun q1=>?_)
 ·simp only[adh] at q1
  have hok:h_ t false=false:=by simpa using q1
  refine aJ 1 iq q1 ?_
  apply WP.ret
  exact Ends.P (d:= .aQ [_,_]) rfl (Le.of_eq (by simp[St.get,lk,W,OE,xB,hok]))
 simp only[afE] at q1
 have hok:h_ t false=true:=by simpa using q1
 have hall:=QK hok
 refine aJ 3 iq q1 ?_
 refine aG 2 [4,5,6,7,8] ?_
 refine WP.lp [4,5,6] (X:={k:Nat // k≤t.length∧eH (t.take k)≤9223372036854775808}) (fun x=>match x with| ⟨(k),_⟩=>[(7,.int .i64 (-(eH (t.take k):Int))),(8,.int .i64 k)]) (fun x=>match x with| ⟨(k),_⟩=>[]) (fun x=>match x with| ⟨(k),_⟩=>t.length - k) (by simp +decide only[W,↓reduceIte];rfl) ?_ ⟨(0),⟨ada _,by simp[eH]⟩⟩ ?_
 rotate_left
 ·exact Weak.nil (by simp[St.get,lk,W,Le.refl,eH]) (by simp)
 rintro ⟨k,hk,hI⟩
 dsimp only
 simp only[abS,abT]
 refine aG 2 iq ?_
 refine WP.cond rfl (fun q2=>?_) (fun q2=>?_)
 ·have hlt:=aO q2
  have hg:=kU hlt
  have hdg:=aep hall hlt
  have hdc:=VE _ hdg
  have hd9:=aeo _ hdg
  have hcm:=aen (eH (t.take k)) _ hI hd9
  have htk:=QJ t k hlt
  have hle:=ZW t (k+1)
  refine CO 6 iq q2 hg hdc hcm ?_
  refine WP.cond rfl (fun q3=>?_) (fun q3=>?_)
  ·have hov:9223372036854775808<eH (t.take k) * 10+(t[k].toNat - 48):=of_decide_eq_true q3
   have hbig:¬eH (t)≤9223372036854775808:=by omega
   refine aJ 1 iq q3 ?_
   apply WP.ret
   exact Ends.P (d:= .aQ [_,_]) rfl (Le.of_eq (by simp[St.get,lk,W,OE,xB,hok,hbig]))
  have hov:=of_decide_eq_false q3
  have hst:=ZX (eH (t.take k)) _ hd9 (by omega)
  refine jd 3 [] q3 hst ?_
  show ∃y,_∧Weak _ _ _
  refine⟨⟨k+1,?_⟩,?_,Weak.nil ?_ ?_⟩
  ·exact⟨by omega,by omega⟩
  ·dsimp only;omega
  ·simp[St.get,lk,Le.refl,htk,aU hlt hL]
  simp[W]
 have hge:=aP q2
 obtain rfl:k=t.length:=by omega
 rw[ajy] at hI
 refine jd 5 iq q2 @ajy.{0} ?_
 apply WP.ret
 exact Ends.P (d:= .aQ [_,_]) rfl (Le.of_eq (by simp[St.get,lk,W,OE,xB,hok,hI]))
abbrev eF:List Nat:=[0,2,3,4,5,6,7,8,9,19,26,30,43,48,52]
theorem JJ (s:List UInt8)(hs:s.length≤1099511627776)(hne:0<s.length)(hc:¬s[0]=45):ay Pr 108 [.str (s)] (OE (s)):=by
 have hL:s.length≤140737488355328:=by omega
 have hn45:=apv hc
 have e0:=kU hne
 have gt0:=apy hne
 have hrn:=ahK s hne hc
 refine ay.W Tryz.func108 Tryz.ntmps108 ?_
 simp only[aT]
 refine CO 10 eF (yL (s) true (by omega)) hn45 e0 @gt0 ?_
 refine WP.cond rfl (fun q1=>?_) (fun q1=>?_)
 ·simp only[adh] at q1
  have hok:h_ s true=false:=by simpa using q1
  refine aJ 1 eF q1 ?_
  apply WP.ret
  exact Ends.P (d:= .aQ [_,_]) rfl (Le.of_eq (by simp[St.get,lk,W,OE,hrn,hok]))
 simp only[afE] at q1
 have hok:h_ s true=true:=by simpa using q1
 have hall:=QK hok
 refine aJ 3 eF q1 ?_
 refine aG 2 [4,5,6,7,8] ?_
 refine WP.lp [4,5,6] (X:={k:Nat // k≤s.length∧eH (s.take k)≤9223372036854775808}) (fun x=>match x with| ⟨(k),_⟩=>[(7,.int .i64 (-(eH (s.take k):Int))),(8,.int .i64 k)]) (fun x=>match x with| ⟨(k),_⟩=>[]) (fun x=>match x with| ⟨(k),_⟩=>s.length - k) (by simp +decide only[W,↓reduceIte];rfl) ?_ ⟨(0),⟨ada _,by simp[eH]⟩⟩ ?_
 rotate_left
 ·exact Weak.nil (by simp[St.get,lk,W,Le.refl,eH]) (by simp)
 rintro ⟨k,hk,hI⟩
 dsimp only
 simp only[abS,abT]
 refine aG 2 eF ?_
 refine WP.cond rfl (fun q2=>?_) (fun q2=>?_)
 ·have hlt:=aO q2
  have hg:=kU hlt
  have hdg:=aep hall hlt
  have hdc:=VE _ hdg
  have hd9:=aeo _ hdg
  have hcm:=aen (eH (s.take k)) _ hI hd9
  have htk:=QJ s k hlt
  have hle:=ZW s (k+1)
  refine CO 6 eF q2 hg hdc hcm ?_
  refine WP.cond rfl (fun q3=>?_) (fun q3=>?_)
  ·have hov:9223372036854775808<eH (s.take k) * 10+(s[k].toNat - 48):=of_decide_eq_true q3
   have hbig:¬eH (s)<9223372036854775808:=by omega
   refine aJ 1 eF q3 ?_
   apply WP.ret
   exact Ends.P (d:= .aQ [_,_]) rfl (Le.of_eq (by simp[St.get,lk,W,OE,hrn,hok,hbig]))
  have hov:=of_decide_eq_false q3
  have hst:=ZX (eH (s.take k)) _ hd9 (by omega)
  refine jd 3 [] q3 hst ?_
  show ∃y,_∧Weak _ _ _
  refine⟨⟨k+1,?_⟩,?_,Weak.nil ?_ ?_⟩
  ·exact⟨by omega,by omega⟩
  ·dsimp only;omega
  ·simp[St.get,lk,Le.refl,htk,aU hlt hL]
  simp[W]
 have hge:=aP q2
 obtain rfl:k=s.length:=by omega
 rw[ajy] at hI
 refine jd 7 eF q2 @ajy.{0} ?_
 refine WP.cond rfl (fun q4=>?_) (fun q4=>?_)
 ·have he:¬eH (s)<9223372036854775808:=by simp at q4;omega
  refine aJ 1 eF q4 ?_
  apply WP.ret
  exact Ends.P (d:= .aQ [_,_]) rfl (Le.of_eq (by first|(simp[St.get,lk,W,bne,OE,hrn,hok,hbig,hn45,e0,gt0,q1,q2,q4];done)|(simp[St.get,lk,W,OE,hrn,hok];done)|(simp[St.get,lk,W,bne,OE,hrn,hok,he,hng];done)|(simp[St.get,lk,W,OE,hrn,hok];done)|(simp_all[OE,xB,St.get,lk,W];try omega;done)))
 have he:eH (s)<9223372036854775808:=by simp at q4;omega
 have hng:=akZ _ he
 refine jd 2 eF q4 hng ?_
 apply WP.ret
 exact Ends.P (d:= .aQ [_,_]) rfl (Le.of_eq (by simp[St.get,lk,W,OE,hrn,hok,he]))
theorem VH (s:List UInt8)(hs:s.length≤1099511627776):ay Pr 108 [.str s] (OE s):=by
 match s,hs with
 | [],_=>exact JH
 |c::t,hs=>
  by_cases h:c=45
  ·subst h;exact JI t (by simp at hs;omega)
  ·exact JJ (c::t) hs (by simp) (by simpa using h)
theorem abC (s t:List UInt8)(hs:s.length<4294967281)(ht:t≠[]):ay Pr 49 [.str s,.str t] (.slice 1 false ((oN s t).map fun x=>[.str x]) none):=
 .str2 (dH Tryz.func49 (by kernel_rfl) (by kernel_rfl)) fun M w b c hb hc hI hn hM=>by
  obtain⟨⟨m,hm⟩,_⟩:=hI
  obtain⟨⟨l⟩⟩:=b
  obtain⟨⟨k⟩⟩:=c
  simp only at hb hc
  subst hb
  subst hc
  have h1:1≤(⟨⟨k⟩⟩:ByteArray).size:=akT.2 ht
  refine (Tryz.strings_Split ⟨⟨l⟩⟩ ⟨⟨k⟩⟩ m w hs hm h1).mono ?_
  rintro e w' ⟨rfl,rfl⟩
  have hlen:=Lib.splitB_all ⟨⟨k⟩⟩ h1 0 _ ⟨⟨l⟩⟩ rfl
  refine⟨_,rfl,(RowKit.Below.refl _ w).alloc (ag4 _) _,?_⟩
  refine adG (heap_alloc_new w _) (fun off hm=>by have:=hM _ _ hm;omega) ?_ (by rw[oN,ac'];exact hlen.symm)
  rw[oN,List.map_map]
  rfl
theorem O5 (s t:List UInt8):ay Pr 208 [.str s,.str t] (.bool (Lib.hasPrefix s t)):=
 .str2 (dH Tryz.func208 (by kernel_rfl) (by kernel_rfl)) fun M w b c hb hc hI hn hM=>by
  refine (Tryz.strings_HasPrefix b c w).mono ?_
  rintro e w' ⟨rfl,rfl⟩
  exact⟨_,rfl,.refl _ _,by rw[hb,hc];exact .bool _⟩
theorem O6 (s t:List UInt8):ay Pr 104 [.str s,.str t] (.aQ [.str (Lib.trimPrefix s t),.bool (Lib.hasPrefix s t)]):=
 .str2 (dH Tryz.func104 (by kernel_rfl) (by kernel_rfl)) fun M w b c hb hc hI hn hM=>by
  refine (Tryz.strings_CutPrefix b c w).mono ?_
  rintro e w' ⟨rfl,rfl⟩
  refine⟨_,rfl,.refl _ _,.aQ rfl fun i d v h1 h2=>?_⟩
  rw[hb,hc] at h2
  match i with
  | 0=>simp at h1 h2;subst h1;subst h2;exact jS _
  | 1=>simp at h1 h2;subst h1;subst h2;exact .bool _
  |i+2=>simp at h1
theorem D6 (s:List UInt8)(n:Int)(hs:s.length<4611686018427387904):ay Pr 141 [.str s,.int .u8 n] (.int .i64 (Lib.lastIndexByte ⟨s.toArray⟩ n)):=
 .X4 (dH Tryz.func141 (by kernel_rfl) (by kernel_rfl)) fun M w b hb hI hn hM=>by
  obtain⟨⟨l⟩⟩:=b
  simp only at hb
  subst hb
  refine (Tryz.strings_LastIndexByte ⟨⟨l⟩⟩ n hs w).mono ?_
  rintro e w' ⟨rfl,rfl⟩
  exact⟨_,rfl,.refl _ _,.int _ _⟩
end Go.Proofs
