import Derived.Test.YtekopfoidhhedaaGreatDoorG13
import Derived.Test.YtekopfoidhhedaaGreatDoorG17
import Derived.Lib.AtoiAll
import Derived.Lib.ItoaNum
import Derived.Lib.Strings
set_option linter.unusedVariables false
set_option linter.unusedSimpArgs false
set_option linter.unnecessarySimpa false
set_option maxRecDepth 10000
namespace Go.Proofs
open Go Go.Id
theorem ana (l:List UInt8)(b c:UInt8):fK l++[[.int .u8 37],[.int .u8 b.toNat],[.int .u8 c.toNat]]=fK (l++[37,b,c]):=by simp[fK]
theorem ZU (c:UInt8):Lib.indexByte [48,49,50,51,52,53,54,55,56,57,65,66,67,68,69,70] c=gW c:=rfl
theorem zO.refl (t sz:Nat):∀F:List (Nat × D),zO t sz F F
 | []=>trivial
 |(k,d)::F=>⟨rfl,.inl rfl,zO.refl t sz F⟩
theorem ZV (l:List UInt8)(c:UInt8):(l++[c]).isEmpty=false:=by cases l <;> rfl
theorem ajH (l m:List UInt8)(c:UInt8):(l++c::m).isEmpty=false:=by cases l <;> rfl
theorem drop2 {α:Type}{l:List α}{k:Nat}(h:k+2<l.length):l.drop (k+1)=l[k+1]::l[k+2]::l.drop (k+3):=by
 rw[anO (by omega),anO (by omega)]
theorem VB (l:List UInt8)(k:Nat)(h:l.length≤k+2):DW (l.drop (k+1))=none:=by
 have:(l.drop (k+1)).length≤1:=by simp;omega
 match l.drop (k+1),this with
 | [],_=>rfl
 | [_],_=>rfl
theorem Tj (l:List UInt8)(k:Nat)(h:l.length≤k+2):yK (l.drop (k+1))=none:=by
 have:(l.drop (k+1)).length≤1:=by simp;omega
 match l.drop (k+1),this with
 | [],_=>rfl
 | [_],_=>rfl
theorem ajI {k n:Nat}(h:k<n)(hn:n≤1099511627776):IntKind.wrap .i64 ((k:Int)+2)=((k+2:Nat):Int):=by
 rw[wrap_i64 (by omega) (by omega)];rfl
theorem QG {k n:Nat}(h:k<n)(hn:n≤1099511627776):IntKind.wrap .i64 ((k:Int)+1)=((k+1:Nat):Int):=by
 rw[wrap_i64 (by omega) (by omega)];rfl
theorem aed (c:UInt8):c.toNat.toUInt8=c:=by simp
theorem ajJ {k n:Nat}(h:k<n)(hn:n≤1099511627776):IntKind.wrap .i64 ((k:Int)+2+1)=(k:Int)+3:=by
 rw[wrap_i64 (by omega) (by omega)];omega
theorem aee (k:Nat)(h:k<16):hexL.drop k=hexD k::hexL.drop (k+1):=by
 revert k;decide +kernel
theorem ahJ (n:Int)(h0:0≤n)(h1:n≤255):ay Pr 152 [.int .u8 n] (.bool (fJ n)):=by
 refine gK Tryz.func152 Tryz.ntmps152 ?_
 refine aG 1 [0,2] ?_
 refine WP.S [0,2] fun _ z=>?_
 refine ah.take 3 fun J hJ=>?_
 simp +decide only[TF,↓reduceIte]
 refine hJ _ _ ?_;clear hJ J
 refine ah.part 5 rfl (fun q1=>?_) (fun q1=>?_)
 ·refine ah.take 4 fun J hJ=>?_
  simp +decide only[TF,q1,↓reduceIte]
  refine hJ _ _ ?_;clear hJ J
  refine ah.part 9 rfl (fun q2=>?_) (fun q2=>?_)
  ·have hpx:=ad5 n (by simpa using q1) (by simpa using q2)
   simp +decide only[TF,q2,↓reduceIte]
   refine aj.P (o9 _ _) rfl rfl ?_
   simp +decide only[TF,hpx,↓reduceIte]
   apply z;clear z
   apply WP.ret
   exact Md @fJ.eq_def q1 q2
  simp +decide only[TF,q2,↓reduceIte]
  apply z;clear z
  apply WP.ret
  exact Md @fJ.eq_def q1 q2
 simp +decide only[TF,q1,↓reduceIte]
 apply z;clear z
 apply WP.ret
 exact Bv @fJ.eq_def q1
theorem abx (n:Int):ay Pr 99 [.int .u8 n] (.bool (fJ n)):=by
 refine gK Tryz.func99 Tryz.ntmps99 ?_
 refine aG 1 [0,2] ?_
 refine WP.S [0,2] fun _ z=>?_
 refine ah.take 3 fun J hJ=>?_
 simp +decide only[TF,↓reduceIte]
 refine hJ _ _ ?_;clear hJ J
 refine ah.part 5 rfl (fun q1=>?_) (fun q1=>?_)
 ·refine ah.take 4 fun J hJ=>?_
  simp +decide only[TF,q1,↓reduceIte]
  refine hJ _ _ ?_;clear hJ J
  refine ah.part 9 rfl (fun q2=>?_) (fun q2=>?_)
  ·refine ah.take 4 fun J hJ=>?_
   simp +decide only[TF,q2,↓reduceIte]
   refine hJ _ _ ?_;clear hJ J
   refine ah.part 13 rfl (fun q3=>?_) (fun q3=>?_)
   ·refine ah.take 4 fun J hJ=>?_
    simp +decide only[TF,q3,↓reduceIte]
    refine hJ _ _ ?_;clear hJ J
    refine ah.part 17 rfl (fun q4=>?_) (fun q4=>?_)
    ·refine ah.take 4 fun J hJ=>?_
     simp +decide only[TF,q4,↓reduceIte]
     refine hJ _ _ ?_;clear hJ J
     refine ah.part 21 rfl (fun q5=>?_) (fun q5=>?_)
     ·refine ah.take 4 fun J hJ=>?_
      simp +decide only[TF,q5,↓reduceIte]
      refine hJ _ _ ?_;clear hJ J
      refine ah.part 25 rfl (fun q6=>?_) (fun q6=>?_)
      ·refine ah.take 4 fun J hJ=>?_
       simp +decide only[TF,q6,↓reduceIte]
       refine hJ _ _ ?_;clear hJ J
       refine ah.part 29 rfl (fun q7=>?_) (fun q7=>?_)
       ·simp +decide only[TF,q7,↓reduceIte]
        apply z;clear z
        apply WP.ret
        exact Ends.P rfl (Le.of_eq (by simp_all[St.get,W,bne,fJ]))
       simp +decide only[TF,q7,↓reduceIte]
       apply z;clear z
       apply WP.ret
       exact Ends.P rfl (Le.of_eq (by simp_all[St.get,W,bne,fJ]))
      simp +decide only[TF,q6,↓reduceIte]
      apply z;clear z
      apply WP.ret
      exact Ends.P rfl (Le.of_eq (by simp_all[St.get,W,bne,fJ]))
     simp +decide only[TF,q5,↓reduceIte]
     apply z;clear z
     apply WP.ret
     exact Ends.P rfl (Le.of_eq (by simp_all[St.get,W,bne,fJ]))
    simp +decide only[TF,q4,↓reduceIte]
    apply z;clear z
    apply WP.ret
    exact Ends.P rfl (Le.of_eq (by simp_all[St.get,W,bne,fJ]))
   simp +decide only[TF,q3,↓reduceIte]
   apply z;clear z
   apply WP.ret
   exact Ends.P rfl (Le.of_eq (by simp_all[St.get,W,bne,fJ]))
  simp +decide only[TF,q2,↓reduceIte]
  apply z;clear z
  apply WP.ret
  exact Md @fJ.eq_def q1 q2
 simp +decide only[TF,q1,↓reduceIte]
 apply z;clear z
 apply WP.ret
 exact Bv @fJ.eq_def q1
theorem MP (c:UInt8):ay Pr 152 [.int .u8 c.toNat] (.bool (fJ c.toNat)):=ahJ _ (by omega) (by have:=c.toNat_lt;omega)
abbrev vF:List Nat:=[0,2,3,4,5,7,8,9,15]
theorem rV (s:List UInt8)(hs:s.length≤1099511627776):ay Pr 94 [.str s] (.str (aC s)):=by
 refine ay.W Tryz.func94 Tryz.ntmps94 ?_
 simp only[aT]
 refine aG 3 vF ?_
 refine aG 2 [0,3,7,8] ?_
 refine WP.lp [0,3,7] (X:={x:(Nat) × (Bool) // match x with|(k,a)=>k≤s.length}) (fun x=>match x with| ⟨(k,a),_⟩=>[(8,.int .i64 k)]) (fun x=>match x with| ⟨(k,a),_⟩=>[(0,.box 144 [pY a 0,.slice 1 (aC (s.take k)).isEmpty (fK (aC (s.take k))) (some 1)]),(1,.aI 5 1 (aC (s.take k)).length)]) (fun x=>match x with| ⟨(k,a),_⟩=>s.length - k) (by simp +decide only[W,↓reduceIte];rfl) ?_ ⟨(0,true),ada _⟩ ?_
 rotate_left
 ·refine Weak.trans (Weak.ghost 1 5 1 (σ':=[(0,.box 144 [.aV,.slice 1 true [] (some 1)])]) (by simp[lk]) (zO.refl _ _ _) (by simp[BK,OT,PV,wJ])) ?_;exact Weak.store (by simp[St.get,lk,W,Le.refl,W]) (by simp[lk,Vz,fK,aC]) (by simp[lk]) (by simp[aB,lk,fK]) (by simp)
 rintro ⟨⟨k,a⟩,hk⟩
 dsimp only
 simp only[abS,abT]
 dsimp only at hk
 refine aG 2 vF ?_
 refine WP.cond rfl (fun q1=>?_) (fun q1=>?_)
 ·have hlt:=aO q1
  have hg:=kU hlt
  have hEl:=Bz s k hk
  refine jd 5 vF q1 hg ?_
  refine WP.S vF fun _ z=>?_
  simp +decide only[TF,↓reduceIte]
  refine aj.P (MP _) rfl rfl ?_
  simp +decide only[TF,↓reduceIte]
  apply z;clear z
  refine WP.cond rfl (fun q2=>?_) (fun q2=>?_)
  ·have hes:=MN s k hlt q2
   refine jd 2 [] (FP 0 1 (by decide) a (aC (s.take k)).isEmpty (aC (s.take k)) s[k] (by omega)) q2 ?_
   show ∃y,_∧Weak _ _ _
   refine⟨⟨(k+1,false),?_⟩,?_,?_⟩
   ·show k+1≤s.length;omega
   ·dsimp only;omega
   exact Weak.store (by simp[St.get,lk,Le.refl,QG hlt hs]) (by simp[lk,qY,hes]) (by simp[lk]) (by simp[aB,lk]) (by simp)
  have hes:=VA s k hlt q2
  have hx1:=ajF s[k]
  have hx2:=ajG s[k]
  refine zG6 2 vF (FP 0 1 (by decide) a (aC (s.take k)).isEmpty (aC (s.take k)) 37 (by omega)) (FP 0 1 (by decide) false false (aC (s.take k)++[37]) (hexD (s[k].toNat / 16)) (by simp only[abf,abN,acS];omega)) q2 hx1 @apu @qY ?_
  refine CO 2 [] (FP 0 1 (by decide) false false (aC (s.take k)++[37]++[hexD (s[k].toNat / 16)]) (hexD (s[k].toNat % 16)) (by simp only[abf,abN,acS];omega)) hx2 @am7 @qY ?_
  show ∃y,_∧Weak _ _ _
  refine⟨⟨(k+1,false),?_⟩,?_,?_⟩
  ·show k+1≤s.length;omega
  ·dsimp only;omega
  exact Weak.store (by simp[St.get,lk,Le.refl,QG hlt hs]) (by simp[lk,qY,hes]) (by simp[lk]) (by simp[aB,lk]) (by simp)
 have hge:=aP q1
 obtain rfl:k=s.length:=by omega
 rw[ajy]
 refine jd 2 vF (Ti 0 1 (by decide) (pY a 0) (aC s)) q1 ?_
 apply WP.ret
 exact Ends.P rfl (Le.of_eq (by simp +decide only[St.get,W,↓reduceIte]))
theorem lu (s:List UInt8)(hs:s.length≤1099511627776):ay Pr 45 [.str s] (.str (aC s)):=by
 refine ay.W Tryz.func45 Tryz.ntmps45 ?_
 simp only[aT]
 refine aG 3 [0,2,3,4,8,14] ?_
 refine aG 2 [0,3,4] ?_
 refine WP.lp [0] (X:={k:Nat // k≤s.length}) (fun x=>match x with| ⟨(k),_⟩=>[(3,.slice 1 (aC (s.take k)).isEmpty (fK (aC (s.take k))) (some 0)),(4,.int .i64 k)]) (fun x=>match x with| ⟨(k),_⟩=>[(0,.aI 5 1 (aC (s.take k)).length)]) (fun x=>match x with| ⟨(k),_⟩=>s.length - k) (by simp +decide only[W,↓reduceIte];rfl) ?_ ⟨(0),ada _⟩ ?_
 rotate_left
 ·refine Weak.trans (Weak.ghost 0 5 1 (F':=[(4,.int .i64 0),(3,.slice 1 true [] (some 0)),(0,.str s)]) (σ':=[]) (by simp[lk]) (by simp[keep,ins,zO,wJ]) (by simp[BK])) ?_;exact Weak.store (by simp[St.get,lk,Le.refl,aC,fK]) (by simp[lk,aC]) (by simp[lk]) (by simp[aB]) (by simp)
 rintro ⟨k,hk⟩
 dsimp only
 simp only[abS,abT]
 refine aG 2 [0,2,3,4,8,14] ?_
 refine WP.cond rfl (fun q1=>?_) (fun q1=>?_)
 ·have hlt:=aO q1
  have hg:=kU hlt
  have hEl:=Bz s k hk
  refine aG 3 [] ?_
  refine WP.S [0,2,3,4,8,14] fun _ z=>?_
  simp +decide only[TF,q1,hg,↓reduceIte]
  refine aj.P (abx _) rfl rfl ?_
  simp +decide only[TF,↓reduceIte]
  apply z;clear z
  refine WP.cond rfl (fun q2=>?_) (fun q2=>?_)
  ·have hes:=MN s k hlt q2
   refine WP.R fun _ z=>?_
   simp +decide only[TF,hg,q2,fG,o_,vw,↓reduceIte]
   refine⟨⟨by simp only[abf,abN,acS];omega,by simp only[abf,abN,acS];omega⟩,?_⟩
   apply z;clear z
   show WP ..
   refine aG 1 [] ?_
   show ∃y,_∧Weak _ _ _
   refine⟨⟨k+1,?_⟩,?_,?_⟩
   ·show k+1≤s.length;omega
   ·dsimp only;omega
   exact Weak.store (by simp[St.get,lk,Le.refl,hes,QG hlt hs,ajH]) (by simp[lk,hes]) (by simp[lk]) (by simp[aB,lk]) (by simp)
  have hes:=VA s k hlt q2
  have hx1:=ajF s[k]
  have hx2:=ajG s[k]
  refine WP.E fun _ z=>?_
  simp +decide only[TF,hg,q2,hx1,hx2,am8,am9,fG,o_,ana,↓reduceIte]
  refine⟨⟨by simp only[abf,abN,acS];omega,by simp only[abf,abN,acS];omega⟩,?_⟩
  refine z _ _ (by kernel_rfl) ?_;clear z
  show WP ..
  refine aG 1 [] ?_
  show ∃y,_∧Weak _ _ _
  refine⟨⟨k+1,?_⟩,?_,?_⟩
  ·show k+1≤s.length;omega
  ·dsimp only;omega
  exact Weak.store (by simp[St.get,lk,Le.refl,hes,QG hlt hs,ajH]) (by simp[lk,hes]) (by simp[lk]) (by simp[aB,lk]) (by simp)
 have hge:=aP q1
 obtain rfl:k=s.length:=by omega
 rw[ajy]
 refine aJ 2 [0,2,3,4,8,14] q1 ?_
 apply WP.ret
 exact Ends.P rfl (Le.of_eq (by simp +decide only[St.get,W,↓reduceIte]))
theorem qN (c:UInt8):ay Pr 169 [.int .u8 c.toNat] (.int .i64 (gW c)):=by
 refine gK Tryz.func169 Tryz.ntmps169 ?_
 refine aG 4 [0,2,3,5,11] ?_
 refine WP.lp [0] (X:={k:Nat // k≤16∧gW c=DV c (hexL.drop k) k}) (fun x=>match x with| ⟨(k),_⟩=>[(3,.int .i64 k)]) (fun x=>match x with| ⟨(k),_⟩=>[]) (fun x=>match x with| ⟨(k),_⟩=>16 - k) (by simp +decide only[W,↓reduceIte];rfl) ?_ ⟨(0),⟨by omega,(Yi c).symm⟩⟩ ?_
 rotate_left
 ·exact OC
 rintro ⟨k,hk,hI⟩
 dsimp only
 simp only[abS,abT]
 rcases apG k 16 with hlt|hge
 ·have hg:=Yh k hlt
  have hq:decide ((k:Int)<16)=true:=decide_eq_true (by omega)
  have hd:hexL.drop k=hexD k::hexL.drop (k+1):=aee k hlt
  rw[hd,DV] at hI
  refine jd 7 [0,2,3,5,11] hg hq ?_
  refine WP.cond rfl (fun q1=>?_) (fun q1=>?_)
  ·refine aJ 1 [0,2,3,5,11] q1 ?_
   apply WP.ret
   exact Bv q1 hI
  refine aJ 2 [] q1 ?_
  show ∃y,_∧Weak _ _ _
  refine⟨⟨k+1,?_⟩,?_,Weak.nil ?_ ?_⟩
  ·exact⟨by omega,by first|(simpa [hg,hq,q1] using hI)|(simp_all;done)⟩
  ·dsimp only;omega
  ·simp[St.get,lk,Le.refl,aU hlt (show 16≤140737488355328 by omega)]
  simp[W]
 obtain rfl:k=16:=by omega
 rw[show hexL.drop 16=[] from rfl,DV] at hI
 have hq:decide (((16:Nat):Int)<16)=false:=by decide
 refine aG 5 [0,2,3,5,11] ?_
 apply WP.ret
 exact Bq hI
set_option maxRecDepth 10000
theorem DY (o:Option (List UInt8))(l:List UInt8)(c:UInt8):(o.map (c::·)).map (l++·)=o.map (l++[c]++·):=by
 cases o <;> simp
theorem anb {c:UInt8}(h:((c.toNat:Int) != 37)=false):c=37:=by
 have e:(c.toNat:Int)=37:=by simpa using h
 exact aoA.1 (by show c.toNat=37;omega)
theorem aef {c:UInt8}(h:((c.toNat:Int) != 37)=true):¬c=37:=by
 intro e;rw[e] at h;exact absurd h (by decide)
theorem ajK {s:List UInt8}{k:Nat}(h:decide (((k+2:Nat):Int)≥(s.length:Int))=true):s.length≤k+2:=by simp at h;omega
theorem aeg {s:List UInt8}{k:Nat}(h:decide (((k+2:Nat):Int)≥(s.length:Int))=false):k+2<s.length:=by simp at h;omega
abbrev f_:List Nat:=[0,2,3,4,5,6,7,11,17,32,56]
theorem wR (s:List UInt8)(hs:s.length≤1099511627776):ay Pr 102 [.str s] (GU (sO s)):=by
 refine gK Tryz.func102 Tryz.ntmps102 ?_
 refine aG 5 f_ ?_
 refine WP.lp [0,4] (X:={x:(Nat) × (List UInt8) × (Bool) // match x with|(k,l,a)=>k≤s.length∧l.length≤k∧sO s=(sO (s.drop k)).map (l++·)}) (fun x=>match x with| ⟨(k,l,a),_⟩=>[(5,.int .i64 k)]) (fun x=>match x with| ⟨(k,l,a),_⟩=>[(0,.box 144 [pY a 0,.slice 1 (l).isEmpty (fK (l)) (some 1)]),(1,.aI 5 1 (l).length)]) (fun x=>match x with| ⟨(k,l,a),_⟩=>s.length - k) (by simp +decide only[W,↓reduceIte];rfl) ?_ ⟨(0,[],true),⟨ada _,ag4 _,by simp⟩⟩ ?_
 rotate_left
 ·refine Weak.trans (Weak.ghost 1 5 1 (σ':=[(0,.box 144 [.aV,.slice 1 true [] (some 1)])]) (by simp[lk]) (zO.refl _ _ _) (by simp[BK,OT,PV,wJ])) ?_;exact CP @Vz @fK.eq_def
 rintro ⟨⟨k,l,a⟩,hk,hl,hI⟩
 dsimp only
 simp only[abS,abT]
 refine aG 2 f_ ?_
 refine WP.cond rfl (fun q1=>?_) (fun q1=>?_)
 ·have hlt:=aO q1
  have hg:=kU hlt
  have hw2:=ajI hlt hs
  have hw1:=QG hlt hs
  rw[bZ hlt,vC] at hI
  refine aG 4 [] ?_
  refine WP.S f_ fun _ z=>?_
  simp +decide only[TF,q1,hg,↓reduceIte]
  refine aj.P (MP _) rfl rfl ?_
  simp +decide only[TF,↓reduceIte]
  apply z;clear z
  refine WP.cond rfl (fun q2=>?_) (fun q2=>?_)
  ·rw[if_pos q2] at hI
   refine CO 3 f_ (FP 0 1 (by decide) a l.isEmpty l s[k] (by omega)) hg q2 hw1 ?_
   show ∃y,_∧Weak _ _ _
   refine⟨⟨(k+1,l++[s[k]],false),?_⟩,?_,?_⟩
   ·exact⟨by omega,by simp;omega,by rw[← DY];exact hI⟩
   ·dsimp only;omega
   exact CP @qY @ZV
  rw[if_neg (by simp[q2])] at hI
  refine aG 2 [] ?_
  refine WP.S f_ fun _ z=>?_
  refine ah.take 5 fun J hJ=>?_
  simp +decide only[TF,hg,q2,↓reduceIte]
  refine hJ _ _ ?_;clear hJ J
  refine ah.part 26 rfl (fun q3=>?_) (fun q3=>?_)
  ·have hc:¬s[k]=37:=aef q3
   rw[if_neg hc] at hI
   simp only[akn] at hI
   simp +decide only[TF,q3,↓reduceIte]
   apply z;clear z
   refine aG 2 f_ ?_
   apply WP.ret
   exact Ends.P (d:= .aQ [_,_]) rfl (Le.of_eq (by simp +decide only[St.get,lk,W,GU,hI,↓reduceIte]))
  have hc:s[k]=37:=anb q3
  rw[if_pos hc] at hI
  simp +decide only[TF,hw2,q3,↓reduceIte]
  apply z;clear z
  refine WP.cond rfl (fun q4=>?_) (fun q4=>?_)
  ·rw[VB s k (ajK q4)] at hI
   simp only[akn] at hI
   refine aJ 1 f_ q4 ?_
   apply WP.ret
   exact Ends.P (d:= .aQ [_,_]) rfl (Le.of_eq (by simp +decide only[St.get,lk,W,GU,hI,↓reduceIte]))
  have h2:=aeg q4
  have hg1:=kU (show k+1<s.length by omega)
  have hg2:=kU h2
  rw[drop2 h2,DW] at hI
  refine aG 1 [] ?_
  refine WP.D f_ fun _ z=>?_
  simp +decide only[TF,hw1,q4,hg1,↓reduceIte]
  refine aj.P (o9 _ _) rfl rfl ?_
  simp +decide only[TF,hw2,hg2,aed,ZU,↓reduceIte]
  refine aj.P (o9 _ _) rfl rfl ?_
  simp +decide only[TF,aed,ZU,↓reduceIte]
  refine z _ _ (by kernel_rfl) ?_;clear z
  apply WP.seq
  refine WP.S f_ fun _ z=>?_
  refine ah.take 3 fun J hJ=>?_
  simp +decide only[TF,↓reduceIte]
  refine hJ _ _ ?_;clear hJ J
  refine ah.part 45 rfl (fun q5=>?_) (fun q5=>?_)
  ·rw[if_pos (Or.inl (by simpa using q5))] at hI
   simp only[akn] at hI
   simp +decide only[TF,q5,↓reduceIte]
   apply z;clear z
   refine aG 2 f_ ?_
   apply WP.ret
   exact Ends.P (d:= .aQ [_,_]) rfl (Le.of_eq (by simp +decide only[St.get,lk,W,GU,hI,↓reduceIte]))
  have hh1:0≤gW s[k+1]:=by simpa using q5
  refine ah.take 4 fun J hJ=>?_
  simp +decide only[TF,q5,↓reduceIte]
  refine hJ _ _ ?_;clear hJ J
  refine ah.part 49 rfl (fun q6=>?_) (fun q6=>?_)
  ·rw[if_pos (Or.inr (Or.inl (by simpa using q6)))] at hI
   simp only[akn] at hI
   simp +decide only[TF,q6,↓reduceIte]
   apply z;clear z
   refine aG 2 f_ ?_
   apply WP.ret
   exact Ends.P (d:= .aQ [_,_]) rfl (Le.of_eq (by simp +decide only[St.get,lk,W,GU,hI,↓reduceIte]))
  have hh2:0≤gW s[k+2]:=by simpa using q6
  have hob:=ahH s[k+1] s[k+2] hh1 hh2
  simp +decide only[TF,q6,hob,↓reduceIte]
  refine aj.P (MP (qM s[k+1] s[k+2])) rfl rfl ?_
  simp +decide only[TF,↓reduceIte]
  apply z;clear z
  refine WP.cond rfl (fun q7=>?_) (fun q7=>?_)
  ·rw[if_pos (Or.inr (Or.inr q7))] at hI
   simp only[akn] at hI
   refine aJ 1 f_ q7 ?_
   apply WP.ret
   exact Ends.P (d:= .aQ [_,_]) rfl (Le.of_eq (by simp +decide only[St.get,lk,W,GU,hI,↓reduceIte]))
  rw[if_neg (by rintro (e|e|e) <;> simp_all;done)] at hI
  refine CO 4 f_ (FP 0 1 (by decide) a l.isEmpty l (qM s[k+1] s[k+2]) (by omega)) hob q7 hw2 ?_
  show ∃y,_∧Weak _ _ _
  refine⟨⟨(k+3,l++[qM s[k+1] s[k+2]],false),?_⟩,?_,?_⟩
  ·exact⟨by omega,by simp;omega,by rw[← DY];exact hI⟩
  ·dsimp only;omega
  exact zY3 (ajJ hlt hs) @qY @ZV
 have hge:=aP q1
 rw[dR hge,sO] at hI
 simp only[aiD,akz] at hI
 refine jd 2 f_ (Ti 0 1 (by decide) (pY a 0) l) q1 ?_
 apply WP.ret
 exact Ends.P (d:= .aQ [_,_]) rfl (Le.of_eq (by simp +decide only[St.get,lk,W,GU,hI,↓reduceIte]))
abbrev dU:List Nat:=[0,2,3,4,5,9,15,42,65]
theorem O4 (s:List UInt8)(hs:s.length≤1099511627776):ay Pr 107 [.str s] (O1 s):=by
 refine ay.W Tryz.func107 Tryz.ntmps107 ?_
 simp only[aT]
 refine aG 3 dU ?_
 refine aG 2 [0,4,5] ?_
 refine WP.lp [0] (X:={x:(Nat) × (List UInt8) // match x with|(k,l)=>k≤s.length∧l.length≤k∧Yj s=(Yj (s.drop k)).map (l++·)}) (fun x=>match x with| ⟨(k,l),_⟩=>[(4,.slice 1 l.isEmpty (fK l) (some 0)),(5,.int .i64 k)]) (fun x=>match x with| ⟨(k,l),_⟩=>[(0,.aI 5 1 l.length)]) (fun x=>match x with| ⟨(k,l),_⟩=>s.length - k) (by simp +decide only[W,↓reduceIte];rfl) ?_ ⟨(0,[]),⟨ada _,ag4 _,by simp⟩⟩ ?_
 rotate_left
 ·refine Weak.trans (Weak.ghost 0 5 1 (F':=[(5,.int .i64 0),(4,.slice 1 true [] (some 0)),(0,.str s)]) (σ':=[]) (by simp[lk]) (by simp[keep,ins,zO,wJ]) (by simp[BK])) ?_;exact Weak.store (by simp[St.get,lk,Le.refl,fK]) (by simp[lk]) (by simp[lk]) (by simp[aB]) (by simp)
 rintro ⟨⟨k,l⟩,hk,hl,hI⟩
 dsimp only
 simp only[abS,abT]
 refine aG 2 dU ?_
 refine WP.cond rfl (fun q1=>?_) (fun q1=>?_)
 ·have hlt:=aO q1
  have hg:=kU hlt
  have hw2:=ajI hlt hs
  have hw1:=QG hlt hs
  rw[bZ hlt,DX] at hI
  refine jd 5 dU q1 hg ?_
  refine WP.cond rfl (fun q2=>?_) (fun q2=>?_)
  ·have hc:¬s[k]=37:=aef q2
   rw[if_neg hc] at hI
   refine WP.S dU fun _ z=>?_
   simp +decide only[TF,hg,q2,fG,o_,vw,↓reduceIte]
   refine⟨⟨by simp only[abf,abN,acS];omega,by simp only[abf,abN,acS];omega⟩,?_⟩
   apply z;clear z
   refine aJ 2 [] hw1 ?_
   show ∃y,_∧Weak _ _ _
   refine⟨⟨(k+1,l++[s[k]]),?_⟩,?_,?_⟩
   ·exact⟨by omega,by simp;omega,by rw[← DY];exact hI⟩
   ·dsimp only;omega
   exact Weak.store (by simp[St.get,lk,Le.refl,ZV]) (by simp[lk]) (by simp[lk]) (by simp[aB,lk]) (by simp)
  have hc:s[k]=37:=anb q2
  rw[if_pos hc] at hI
  refine aG 2 [] ?_
  refine WP.S dU fun _ z=>?_
  refine ah.take 6 fun J hJ=>?_
  simp +decide only[TF,hw2,q2,↓reduceIte]
  refine hJ _ _ ?_;clear hJ J
  refine ah.part 27 rfl (fun q3=>?_) (fun q3=>?_)
  ·rw[Tj s k (ajK q3)] at hI
   simp only[akn] at hI
   simp +decide only[TF,q3,↓reduceIte]
   apply z;clear z
   refine aG 2 dU ?_
   apply WP.ret
   exact Ends.P (d:= .aQ [_,_]) rfl (Le.of_eq (by simp +decide only[St.get,lk,W,O1,hI,↓reduceIte]))
  have h2:=aeg q3
  have hg1:=kU (show k+1<s.length by omega)
  have hg2:=kU h2
  rw[drop2 h2,yK] at hI
  simp +decide only[TF,hw1,q3,hg1,↓reduceIte]
  refine aj.P (qN _) rfl rfl ?_
  refine ah.take 3 fun J hJ=>?_
  simp +decide only[TF,↓reduceIte]
  refine hJ _ _ ?_;clear hJ J
  refine ah.part 35 rfl (fun q4=>?_) (fun q4=>?_)
  ·rw[if_pos (Or.inl (by simpa using q4))] at hI
   simp only[akn] at hI
   simp +decide only[TF,q4,↓reduceIte]
   apply z;clear z
   refine aG 2 dU ?_
   apply WP.ret
   exact Ends.P (d:= .aQ [_,_]) rfl (Le.of_eq (by simp +decide only[St.get,lk,W,O1,hI,↓reduceIte]))
  have hh1:0≤gW s[k+1]:=by simpa using q4
  simp +decide only[TF,hw2,hg2,q4,↓reduceIte]
  refine aj.P (qN _) rfl rfl ?_
  simp +decide only[TF,↓reduceIte]
  apply z;clear z
  refine WP.cond rfl (fun q5=>?_) (fun q5=>?_)
  ·rw[if_pos (Or.inr (by simpa using q5))] at hI
   simp only[akn] at hI
   refine aJ 1 dU q5 ?_
   apply WP.ret
   exact Ends.P (d:= .aQ [_,_]) rfl (Le.of_eq (by simp +decide only[St.get,lk,W,O1,hI,↓reduceIte]))
  have hh2:0≤gW s[k+2]:=by simpa using q5
  have hob:=aec s[k+1] s[k+2] hh1 hh2
  rw[if_neg (by omega)] at hI
  refine aG 1 [] ?_
  refine WP.D dU fun _ z=>?_
  simp +decide only[TF,hw1,hg1,q5,↓reduceIte]
  refine aj.P (qN _) rfl rfl ?_
  simp +decide only[TF,hw2,hg2,↓reduceIte]
  refine aj.P (qN _) rfl rfl ?_
  simp +decide only[TF,hob,fG,o_,vw,↓reduceIte]
  refine⟨⟨by simp only[abf,abN,acS];omega,by simp only[abf,abN,acS];omega⟩,?_⟩
  refine z _ _ (by kernel_rfl) ?_;clear z
  refine aJ 2 [] hw2 ?_
  show ∃y,_∧Weak _ _ _
  refine⟨⟨(k+3,l++[qM s[k+1] s[k+2]]),?_⟩,?_,?_⟩
  ·exact⟨by omega,by simp;omega,by rw[← DY];exact hI⟩
  ·dsimp only;omega
  exact Weak.store (by simp[St.get,lk,Le.refl,ZV,ajJ hlt hs]) (by simp[lk]) (by simp[lk]) (by simp[aB,lk]) (by simp)
 have hge:=aP q1
 rw[dR hge,Yj] at hI
 simp only[aiD,akz] at hI
 refine aG 2 [] ?_
 refine WP.S dU fun _ z=>?_
 simp +decide only[TF,q1,↓reduceIte]
 refine aj.P (lu _ (by omega)) rfl rfl ?_
 simp +decide only[TF,↓reduceIte]
 apply z;clear z
 refine WP.cond rfl (fun q6=>?_) (fun q6=>?_)
 ·refine aJ 1 dU q6 ?_
  apply WP.ret
  exact Ends.P (d:= .aQ [_,_]) rfl (Le.of_eq (by simp_all[St.get,lk,W,O1]))
 refine aJ 2 dU q6 ?_
 apply WP.ret
 exact Ends.P (d:= .aQ [_,_]) rfl (Le.of_eq (by simp_all[St.get,lk,W,O1]))
theorem wS (s:List UInt8)(hs:s.length≤1099511627776):ay Pr 107 [.str s] (GU (sO s)):=ahI s ▸ O4 s hs
theorem MQ (p:Int→Bool)(hp:∀n,127<n→p n=false)(s:List UInt8)(k:Nat)(hk:k≤s.length):s.length≤k∨(k<s.length∧127<(jw s k).1∧(s.drop k).all (fun c=>p c.toNat)=false)∨
  (∃h:k<s.length,(jw s k).1=s[k].toNat∧(jw s k).2=1∧(s.drop k).all (fun c=>p c.toNat)=(p s[k].toNat && (s.drop (k+1)).all (fun c=>p c.toNat))):=by
 by_cases h:k<s.length
 ·right
  have e:jw s k=Lib.decodeN ((⟨s.toArray⟩:ByteArray).size - k) ((⟨s.toArray⟩:ByteArray).get! k).toNat ((⟨s.toArray⟩:ByteArray).get! (k+1)).toNat ((⟨s.toArray⟩:ByteArray).get! (k+2)).toNat ((⟨s.toArray⟩:ByteArray).get! (k+3)).toNat:=Lib.decode_at _ _
  have hb:(⟨s.toArray⟩:ByteArray).get! k=s[k]:=amY ⟨s.toArray⟩ h
  rw[hb] at e
  have hd:(s.drop k).all (fun c=>p c.toNat)=(p s[k].toNat && (s.drop (k+1)).all (fun c=>p c.toNat)):=by rw[bZ h,alf]
  by_cases h8:s[k].toNat<128
  ·right
   refine⟨h,?_,?_,hd⟩ <;> (rw[e];unfold Lib.decodeN;rw[if_pos h8])
  ·left
   refine⟨h,?_,?_⟩
   ·rw[e];unfold Lib.decodeN;rw[if_neg h8]
    repeat' split
    all_goals (first|omega|(simp only[];omega))
   ·rw[hd,hp _ (by omega)];rfl
 ·left;omega
def eH (l:List UInt8):Nat:=l.foldl (fun a c=>a * 10+(c.toNat - 48)) 0
theorem QH (l:List UInt8)(c:UInt8):eH (l++[c])=eH l * 10+(c.toNat - 48):=by simp[eH]
theorem QI (l:List UInt8):∀a,l.foldl (fun a c=>a * 10+(c.toNat - 48)) a=a * 10 ^ l.length+eH l:=by
 induction l with
 |nil=>intro a;simp[eH]
 |cons c l ih=>
  intro a
  have e:eH (c::l)=(c.toNat - 48) * 10 ^ l.length+eH l:=by
   rw[eH,akk,ih];simp
  rw[akk,ih,e,abN,Nat.pow_succ,akU,Nat.mul_assoc,Nat.mul_comm 10,aoT]
theorem aby (c:UInt8)(l:List UInt8):eH (c::l)=(c.toNat - 48) * 10 ^ l.length+eH l:=by
 rw[eH,akk,QI];simp
theorem aeh (l m:List UInt8):eH (l++m)=eH l * 10 ^ m.length+eH m:=by
 have:=QI m (eH l)
 rw[← this];simp[eH]
theorem QJ (l:List UInt8)(k:Nat)(h:k<l.length):eH (l.take (k+1))=eH (l.take k) * 10+(l[k].toNat - 48):=by
 rw[G8 h,QH]
theorem ZW (l:List UInt8)(k:Nat):eH (l.take k)≤eH l:=by
 have:=aeh (l.take k) (l.drop k)
 rw[aki] at this
 rw[this]
 have h1:1≤10 ^ (l.drop k).length:=Nat.one_le_pow _ _ (by decide)
 have:=Nat.le_mul_of_pos_right (eH (l.take k)) h1
 omega
def qZ (n:Int):Bool:=decide (48≤n) && decide (n≤57)
def h_ (t:List UInt8)(z:Bool):Bool:=!(t == []) && !(FM t 0 == 48 && (decide ((t.length:Int)>1) || !z)) && t.all (fun c=>qZ c.toNat)
def xB (s:List UInt8):Int × Int:=
 match s with
 | []=>(0,4)
 |c::t=>
  if c=45 then (if h_ t false then (if eH t≤9223372036854775808 then (-(eH t:Int),0) else (0,27)) else (0,4))
  else if h_ (c::t) true then (if eH (c::t)<9223372036854775808 then ((eH (c::t):Int),0) else (0,27)) else (0,4)
def OE (s:List UInt8):D:= .aQ [.int .i64 (xB s).1,.int .i64 (xB s).2]
@[simp] theorem aoI {S:Nat→Prop}(s:List UInt8):bY S (OE s):=by simp[OE]
theorem aei (l:List UInt8):∀acc:Nat,acc<18446744073709551616→l.all (fun c=>qZ c.toNat)=true→
  Lib.parseUint10 acc l=if acc * 10 ^ l.length+eH l<18446744073709551616 then .ok (acc * 10 ^ l.length+eH l) else .range:=by
 induction l with
 |nil=>intro acc h _;simp[Lib.parseUint10,eH,h]
 |cons c l ih=>
  intro acc h hd
  simp only[alf,ait,qZ,decide_eq_true_eq] at hd
  obtain⟨hc,hl⟩:=hd
  have hcd:48≤c.toNat∧c.toNat≤57:=by omega
  have e:acc * 10 ^ (c::l).length+eH (c::l)=(acc * 10+(c.toNat - 48)) * 10 ^ l.length+eH l:=by
   rw[aby,abN,Nat.pow_succ,akU,Nat.mul_assoc,Nat.mul_comm 10,aoT]
  have h1:1≤10 ^ l.length:=Nat.one_le_pow _ _ (by decide)
  have hm:=Nat.le_mul_of_pos_right (acc * 10+(c.toNat - 48)) h1
  rw[Lib.parseUint10,if_pos hcd,e]
  by_cases ho:18446744073709551616≤acc * 10+(c.toNat - 48)
  ·rw[if_neg (by omega:¬(acc * 10+(c.toNat - 48)) * 10 ^ l.length+eH l<18446744073709551616)]
   by_cases h2:1844674407370955162≤acc
   ·rw[if_pos h2]
   ·rw[if_neg h2,if_pos ho]
  ·rw[if_neg (by omega),if_neg ho]
   exact ih _ (by omega) (by simpa [qZ] using hl)
theorem aej (t:List UInt8)(h:t≠[])(hd:t.all (fun c=>qZ c.toNat)=true):Lib.atoiAll (45::t)=if eH t≤9223372036854775808 then .ok (-(eH t:Int)) else .range:=by
 have h45:(45:UInt8).toNat=45:=rfl
 simp only[Lib.atoiAll,h45,or_true,if_true,Lib.parseMag,if_neg h,aei t 0 (by omega) hd,aoE,ade]
 by_cases h1:eH t<18446744073709551616
 ·rw[if_pos h1]
  by_cases h2:eH t≤9223372036854775808
  ·simp[h2];try omega
  ·simp[h2];try omega
 ·rw[if_neg h1,if_neg (by omega)]
theorem aek (c:UInt8)(t:List UInt8)(hd:(c::t).all (fun c=>qZ c.toNat)=true):Lib.atoiAll (c::t)=if eH (c::t)<9223372036854775808 then .ok (eH (c::t):Int) else .range:=by
 have hc:48≤c.toNat∧c.toNat≤57:=by
  simp only[alf,ait,qZ,decide_eq_true_eq] at hd;omega
 have h1:¬(c.toNat=43∨c.toNat=45):=by omega
 have h2:¬c.toNat=45:=by omega
 simp only[Lib.atoiAll,if_neg h1,Lib.parseMag,if_neg (List.cons_ne_nil c t),aei (c::t) 0 (by omega) hd,aoE,ade]
 by_cases h3:eH (c::t)<18446744073709551616
 ·rw[if_pos h3]
  by_cases h4:eH (c::t)<9223372036854775808
  ·simp[h4,h2];try omega
  ·simp[h4,h2];try omega
 ·rw[if_neg h3,if_neg (by omega)]
theorem abz (t:List UInt8):Lib.trimPrefix (45::t) [45]=t:=by simp[Lib.trimPrefix,Lib.hasPrefix,List.isPrefixOf]
theorem abA (c:UInt8)(t:List UInt8)(h:¬c=45):Lib.trimPrefix (c::t) [45]=c::t:=by
 have:Lib.hasPrefix (c::t) [45]=false:=by
  simp[Lib.hasPrefix,List.isPrefixOf];exact fun e=>h e.symm
 simp[Lib.trimPrefix,this]
theorem nU (u:Nat)(h:10≤u):Lib.decDigits u=Lib.decDigits (u / 10)++[UInt8.ofNat (48+u % 10)]:=by
 conv=>lhs;rw[Lib.decDigits]
 rw[dif_neg (by omega)]
theorem jv (u:Nat)(h:u<10):Lib.decDigits u=[UInt8.ofNat (48+u)]:=by
 rw[Lib.decDigits,dif_pos h]
def nK (s:List UInt8):List UInt8:=Lib.trimPrefix s [45]
def uI (s:List UInt8):Bool:=((s == [48]) || (!(nK s == []) && !(FM (nK s) 0 == 48))) && (nK s).all (fun c=>qZ c.toNat)
def rdV (s:List UInt8):Int × Int:=
 match Lib.atoiAll s with
 | .ok v=>(v,0)
 | _=>(0,27)
def UM (s:List UInt8):Int × Int:=if uI s then rdV s else (0,4)
theorem VD (s:List UInt8):(∃v,Lib.atoiAll s= .ok v)∨Lib.atoiAll s=Lib.atoiAll []∨Lib.atoiAll s= .range:=by
 cases Lib.atoiAll s with
 |ok v=>exact .inl ⟨v,rfl⟩
 |range=>exact .inr (.inr rfl)
 | _=>exact .inr (.inl rfl)
theorem akY (s:List UInt8):UM s=xB s:=by
 unfold UM uI
 match s with
 | []=>decide
 |c::t=>
  simp only[xB]
  by_cases hc:c=45
  ·subst hc
   have hd:nK (45::t)=t:=abz t
   have h48:((45::t:List UInt8) == [48])=false:=by simp
   rw[hd,h48,if_pos rfl]
   have hf:h_ t false=((false || (!(t == []) && !(FM t 0 == 48))) && t.all (fun c=>qZ c.toNat)):=by simp[h_]
   rw[← hf]
   by_cases ho:h_ t false=true
   ·rw[if_pos ho,if_pos ho]
    have h1:t≠[]:=by intro e;subst e;simp[h_] at ho
    have h2:t.all (fun c=>qZ c.toNat)=true:=by
     rw[h_,ait] at ho;exact ho.2
    unfold rdV
    rw[aej t h1 h2]
    split <;> rename_i h
    ·split at h
     ·cases h;rename_i q;rw[if_pos q]
     ·cases h
    ·split at h
     ·exact absurd rfl (h _)
     ·rename_i q;rw[if_neg q]
   ·rw[if_neg ho,if_neg ho]
  ·have hd:nK (c::t)=c::t:=abA c t hc
   rw[hd,if_neg hc]
   have hch:FM (c::t) 0=c.toNat:=by simp[FM]
   have hf:h_ (c::t) true=((((c::t) == [48]) || (!((c::t) == []) && !(FM (c::t) 0 == 48))) && (c::t).all (fun c=>qZ c.toNat)):=by
    unfold h_
    congr 1
    rw[hch]
    by_cases h4:c=48
    ·subst h4
     cases t with
     |nil=>decide
     |cons a u=>simp;omega
    ·have h5:((c.toNat:Int) == 48)=false:=by
      rw[beq_eq_false_iff_ne]
      intro e
      exact h4 (aoA.1 (by show c.toNat=48;omega))
     rw[h5]
     have h6:((c::t) == [48])=false:=by
      rw[beq_eq_false_iff_ne];intro e;exact h4 (by simpa using (List.cons.inj e).1)
     rw[h6];simp
   rw[← hf]
   by_cases ho:h_ (c::t) true=true
   ·rw[if_pos ho,if_pos ho]
    have h2:(c::t).all (fun c=>qZ c.toNat)=true:=by
     rw[h_,ait] at ho;exact ho.2
    unfold rdV
    rw[aek c t h2]
    split <;> rename_i h
    ·split at h
     ·cases h;rename_i q;rw[if_pos q]
     ·cases h
    ·split at h
     ·exact absurd rfl (h _)
     ·rename_i q;rw[if_neg q]
   ·rw[if_neg ho,if_neg ho]
theorem aem (s:List UInt8):(nK s).length≤s.length:=by
 unfold nK Lib.trimPrefix;split <;> simp
theorem abB (s:List UInt8):Lib.trimPrefix s [45]=nK s:=rfl
theorem ajL (n:Int)(h:127<n):qZ n=false:=by simp[qZ];omega
theorem apv {c:UInt8}(h:¬c=45):((c.toNat:Int) == 45)=false:=by
 rw[beq_eq_false_iff_ne];intro e;exact h (aoA.1 (by show c.toNat=45;omega))
theorem VE (c:UInt8)(h:qZ c.toNat=true):IntKind.wrap .i64 (IntKind.wrap .u8 ((c.toNat:Int) - 48))=((c.toNat - 48:Nat):Int):=by
 simp only[qZ,ait,decide_eq_true_eq] at h
 rw[wrap_u8 (by omega) (by omega),wrap_i64 (by omega) (by omega)];omega
theorem aen (n d:Nat)(hn:n≤9223372036854775808)(hd:d≤9):decide (-(n:Int)<IntKind.wrap .i64 ((IntKind.wrap .i64 (-9223372036854775808+(d:Int))).tdiv 10))=decide (9223372036854775808<n * 10+d):=by
 rw[wrap_i64 (n:=-9223372036854775808+(d:Int)) (by omega) (by omega)]
 have e:(-9223372036854775808+(d:Int)).tdiv 10=-((9223372036854775808 - (d:Int)) / 10):=by
  have:(-9223372036854775808+(d:Int))=-(9223372036854775808 - (d:Int)):=by omega
  rw[this,Int.neg_tdiv,Int.tdiv_eq_ediv_of_nonneg (by omega)]
 rw[e,wrap_i64 (by omega) (by omega)]
 rw[agZ]
 simp only[decide_eq_true_eq]
 omega
theorem ZX (n d:Nat)(hd:d≤9)(h:n * 10+d≤9223372036854775808):IntKind.wrap .i64 (IntKind.wrap .i64 (10 * -(n:Int)) - (d:Int))=-((n * 10+d:Nat):Int):=by
 rw[wrap_i64 (n:=10 * -(n:Int)) (by omega) (by omega),wrap_i64 (by omega) (by omega)];omega
theorem akZ (n:Nat)(h:n<9223372036854775808):IntKind.wrap .i64 (0 - -(n:Int))=(n:Int):=by
 rw[wrap_i64 (by omega) (by omega)];omega
theorem aeo (c:UInt8)(h:qZ c.toNat=true):c.toNat - 48≤9:=by
 simp only[qZ,ait,decide_eq_true_eq] at h;omega
theorem aep {t:List UInt8}{p:UInt8→Bool}(h:t.all p=true){k:Nat}(hk:k<t.length):p t[k]=true:=ami.1 h _ (adb hk)
theorem QK {t:List UInt8}{z:Bool}(h:h_ t z=true):t.all (fun c=>qZ c.toNat)=true:=by
 rw[h_,ait] at h;exact h.2
theorem tmod_neg (m:Int)(h:m.tmod 10<0):IntKind.wrap .i64 (0 - m.tmod 10)=((m.natAbs % 10:Nat):Int):=by
 have:m.tmod 10=-((m.natAbs % 10:Nat):Int):=by
  rcases Int.natAbs_eq m with e|e
  ·rw[e,amg (by omega)] at h;omega
  ·rw[e,Int.neg_tmod,amg (by omega)];omega
 rw[this,wrap_i64 (by omega) (by omega)];omega
theorem aer (m:Int)(h:¬m.tmod 10<0):m.tmod 10=((m.natAbs % 10:Nat):Int):=by
 rcases Int.natAbs_eq m with e|e
 ·rw[e,amg (by omega)];omega
 ·rw[e,Int.neg_tmod,amg (by omega)] at h ⊢;omega
theorem DZ (m:Int):(m.tdiv 10).natAbs=m.natAbs / 10:=by
 rw[Int.natAbs_tdiv];rfl
theorem QL (m:Int)(h0:-9223372036854775808≤m)(h1:m≤9223372036854775807):IntKind.wrap .i64 (m.tdiv 10)=m.tdiv 10:=by
 have:=DZ m
 exact wrap_i64 (by omega) (by omega)
theorem aes (d:Nat)(h:d<10):IntKind.wrap .u8 (IntKind.wrap .i64 (48+(d:Int)))=((48+d:Nat):Int):=by
 rw[wrap_i64 (by omega) (by omega),wrap_u8 (by omega) (by omega)];rfl
def MR (n m:Int)(out:List UInt8):Prop:=
 -9223372036854775808≤m∧m≤9223372036854775807∧out.length≤64∧m.natAbs * 2 ^ out.length≤9223372036854775808∧
  Lib.decDigits n.natAbs=(if m=0 then out else Lib.decDigits m.natAbs++out)
theorem Tm (n:Int)(h0:-9223372036854775808≤n)(h1:n≤9223372036854775807)(hn:n≠0):MR n n []:=by
 refine⟨h0,h1,by simp,by simp;omega,by rw[if_neg hn];simp⟩
theorem VF {n m:Int}{out:List UInt8}(h:MR n m out)(hm:m≠0):out.length≤63∧MR n (m.tdiv 10) (UInt8.ofNat (48+m.natAbs % 10)::out):=by
 obtain⟨h0,h1,h2,h3,h4⟩:=h
 have ha:1≤m.natAbs:=by omega
 have hl:out.length≤63:=by
  have:2 ^ out.length≤2 ^ 63:=ag9 (Nat.le_mul_of_pos_left _ ha) h3
  exact (Nat.pow_le_pow_iff_right (by decide)).1 this
 have hd:=DZ m
 refine⟨hl,by omega,by omega,by simp;omega,?_,?_⟩
 ·rw[hd,abN,Nat.pow_succ]
  have:m.natAbs / 10 * 2≤m.natAbs:=by omega
  calc m.natAbs / 10 * (2 ^ out.length * 2)=(m.natAbs / 10 * 2) * 2 ^ out.length:=by rw[Nat.mul_comm (2 ^ out.length) 2,Nat.mul_assoc]
   _≤m.natAbs * 2 ^ out.length:=aj2 _ this
   _≤_:=h3
 ·rw[h4,if_neg hm]
  by_cases hs:m.natAbs<10
  ·have:m.tdiv 10=0:=by omega
   rw[if_pos this,jv _ hs]
   have:m.natAbs % 10=m.natAbs:=by omega
   rw[this];rfl
  ·have:m.tdiv 10≠0:=by omega
   rw[if_neg this,hd,nU _ (by omega)]
   simp
theorem Yk {n:Int}{out:List UInt8}(h:MR n 0 out):Lib.decDigits n.natAbs=out:=by
 have:=h.2.2.2.2
 rwa [if_pos rfl] at this
theorem itoa_neg (n:Int)(h:n<0):Lib.itoa n=45::Lib.decDigits n.natAbs:=by rw[Lib.itoa,if_pos h]
theorem D5 (n:Int)(h:¬n<0):Lib.itoa n=Lib.decDigits n.natAbs:=by
 rw[Lib.itoa,if_neg h]
 have:n.toNat=n.natAbs:=by omega
 rw[this]
theorem ak0:Lib.itoa 0=[48]:=by
 rw[D5 0 (by omega)];exact jv 0 (by omega)
end Go.Proofs
