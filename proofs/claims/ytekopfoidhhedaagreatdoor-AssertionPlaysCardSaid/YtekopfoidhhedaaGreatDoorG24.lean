import Derived.Test.YtekopfoidhhedaaGreatDoorG23
import Derived.Test.YtekopfoidhhedaaGreatDoorG13
import Derived.Test.YtekopfoidhhedaaGreatDoorG11
set_option linter.unusedVariables false
set_option linter.unusedSimpArgs false
set_option linter.unnecessarySimpa false
set_option maxRecDepth 10000
namespace Go.Proofs
open Go Go.Id
def um (n:Int):Bool:=dB n || je n || n == 45
def alq (s:List UInt8):Bool:=match s with| []=>false|c::_=>dB c.toNat
def r_ (s:List UInt8):Bool:=s.all (fun c=>um c.toNat) && !(s == []) && decide ((s.length:Int)≤64)
def nameB (s:List UInt8):Bool:=r_ s && alq s
def Ee (n:Int):Bool:=n == 45 || n == 95 || n == 46 || n == 58
def BX (c:UInt8):UInt8:=if upperB c.toNat then c+32 else c
def bG (s:List UInt8):List UInt8:=s.map BX
theorem vO (s:List UInt8):(bG s).length=s.length:=by simp[bG]
theorem aib:∀n:Nat,n<128→(decide (0≤Lib.indexByte [45,95,46,58] n.toUInt8))=Ee n:=by decide +kernel
theorem abW (n:Int)(h0:0≤n)(h1:n<128):ay Pr 110 [.str [45,95,46,58],.int .i32 n] (.bool (Ee n)):=
 .X4 (dH Tryz.func110 (by kernel_rfl) (by kernel_rfl)) fun M w b hb hI hn hM=>by
  obtain⟨⟨l⟩⟩:=b
  simp only at hb
  subst hb
  refine (Tryz.strings_ContainsRune_ascii _ n w h0 h1).mono ?_
  rintro e w' ⟨rfl,rfl⟩
  have:=aib n.toNat (by omega)
  rw[show ((n.toNat:Nat):Int)=n by omega] at this
  exact⟨_,rfl,.refl _ _,by rw[← this];exact .bool _⟩
theorem aeW (n:Int)(h0:128≤n)(h1:n≤255):∃a b:UInt8,(Utf8.encode n).data.toList=[a,b]∧128≤b.toNat∧Lib.validRune n=true:=by
 obtain⟨m,rfl⟩:∃m:Nat,n=m:=⟨n.toNat,by omega⟩
 have hb:∀m:Nat,m<256→128≤m→(Utf8.encode (m:Int)).data.toList=[UInt8.ofNat (0xC0+m / 64),UInt8.ofNat (0x80+m % 64)]∧128≤(UInt8.ofNat (0x80+m % 64)).toNat∧Lib.validRune (m:Int)=true:=by decide +kernel
 obtain⟨h2,h3,h4⟩:=hb m (by omega) (by omega)
 exact⟨_,_,h2,h3,h4⟩
set_option maxRecDepth 10000
set_option maxHeartbeats 1000000
theorem Wj:kS Tryz.prog 21=some .i32:=by kernel_rfl
theorem Pj (n:Int):ay Pr 222 [.int .i32 n] (.bool (Lib.validRune n)):=
  .amB (dH Tryz.func222 (by kernel_rfl) (by kernel_rfl)) fun M w hI hn hM=>by
    refine (Tryz.utf8_ValidRune n w).mono ?_
    rintro e w' ⟨rfl,rfl⟩
    exact⟨_,rfl,.refl _ _,.bool _⟩
theorem aic (n:Int)(h0:128≤n)(h1:n≤255):ay Pr 172 [.str [45,95,46,58],.int .i32 n] (.int .i64 (-1)):=by
 obtain⟨a,b,hab,hb,hv⟩:=aeW n h0 h1
 have d1:decide (0≤n)=true:=by simp;omega
 have d2:decide (n<128)=false:=by simp;omega
 have d3:(n == 65533)=false:=by simp;omega
 have e1:((95:UInt8).toNat:Int)≠b.toNat:=by have:(95:UInt8).toNat=95:=rfl;omega
 have e2:(((95:UInt8).toNat:Int) == b.toNat)=false:=by simpa using e1
 have hw:IntKind.i64.wrap (((1+1:Nat):Int) - 1)=1:=by decide
 have e4:((((95:UInt8).toNat:Int)) != (b.toNat:Int))=true:=by simp only[bne,e2,apa]
 have hw2:IntKind.i64.wrap ((1:Int)+1)=2:=by decide
 have e3:((95:Int) == (b.toNat:Int))=false:=by simp;omega
 have hix:Lib.indexByte [46,58] b.toNat.toUInt8=-1:=by
  have g1:¬(46:UInt8)=b:=fun e=>by subst e;revert hb;decide
  have g2:¬(58:UInt8)=b:=fun e=>by subst e;revert hb;decide
  simp[Lib.indexByte,g1,g2]
 refine ay.of_wp Tryz.func172 rfl (by kernel_rfl) Tryz.ntmps172 (by simp) ?_
 simp only[aT,ade]
 iterate 5 first|(refine WP.S [0,1,4,160,171,183] fun _ z=>?_;simp +decide only[TF,d1,d2,d3,↓reduceIte];apply z;clear z)|refine WP.cT ?_|refine WP.cF ?_|apply WP.block|apply WP.seq
 refine WP.cF ?_
 apply WP.seq
 refine WP.R fun _ z=>?_
 simp +decide only[TF,↓reduceIte]
 refine aj.P (Pj n) rfl rfl ?_
 simp +decide only[TF,hv,↓reduceIte]
 apply z;clear z
 show WP ..
 refine WP.cF ?_
 refine WP.scope ?_
 apply WP.seq
 refine WP.ahx 1 (by kernel_rfl) rfl rfl rfl fun K hK=>?_
 simp +decide only[TF,↓reduceIte]
 refine hK _ _ ?_
 clear hK K
 refine⟨.i32,.i32,n,Wj,qW,rfl,fun K hK=>?_⟩
 simp +decide only[TF,hab,↓reduceIte]
 refine hK _ _ ?_
 clear hK K
 show WP ..
 iterate 4 first|(refine WP.S [0,4,7,8,9,10] fun _ z=>?_;simp +decide only[TF,hw,↓reduceIte];apply z;clear z)|apply WP.seq
 refine WP.block ?_
 refine WP.loop (X:=Unit) (fun _=>⟨[(10,.int .i64 0),(9,.int .i64 1),(8,.int .i64 1),(7,.str [a,b]),(4,.int .i64 0),(0,.str [45,95,46,58])],[]⟩) (fun _=>0) (fun _=>?_) () ?_
 rotate_left
 · exact Weak.nil (by simp[St.get,lk,W,Le.refl,keep,ins]) (by simp[W])
 iterate 8 first|(refine WP.S [0,4,7,8,9,10,11,26,33,43] fun _ z=>?_;simp +decide only[TF,↓reduceIte];apply z;clear z)|(refine WP.D [0,4,7,8,9,10,11,33] fun _ z=>?_;simp +decide only[TF,e4,↓reduceIte];refine z _ _ (by kernel_rfl) ?_;clear z)|refine WP.cT ?_|(apply WP.skip;show WP ..)|apply WP.seq|apply WP.block|refine WP.scope ?_
 refine WP.cT ?_
 apply WP.seq
 refine WP.E fun _ z=>?_
 simp +decide only[TF,hw2,↓reduceIte]
 refine aj.P (o9 [46,58] b.toNat) rfl rfl ?_
 simp +decide only[TF,hix,↓reduceIte]
 refine z _ _ (by kernel_rfl) ?_
 clear z
 show WP ..
 iterate 4 first|(refine WP.S [4,43] fun _ z=>?_;simp +decide only[TF,↓reduceIte];apply z;clear z)|refine WP.cT ?_|apply WP.seq
 apply WP.ret
 exact Ends.P rfl (Le.of_eq (by simp[St.get,W]))
theorem aeX (n:Int)(h0:128≤n)(h1:n≤255):ay Pr 110 [.str [45,95,46,58],.int .i32 n] (.bool false):=by
 refine ay.of_wp Tryz.func110 rfl (by kernel_rfl) Tryz.ntmps110 (by simp) ?_
 simp only[aT,ade]
 refine WP.S [0,1,4] fun _ z=>?_;simp +decide only[TF,↓reduceIte];apply z;clear z
 apply WP.seq
 refine WP.R fun _ z=>?_
 simp +decide only[TF,↓reduceIte]
 refine aj.P (aic n h0 h1) rfl rfl ?_
 simp +decide only[TF,↓reduceIte]
 apply z;clear z
 apply WP.ret
 exact Ends.P rfl (Le.of_eq (by simp[St.get,lk]))
theorem aie (c:UInt8):ay Pr 110 [.str [45,95,46,58],.int .i32 c.toNat] (.bool (Ee c.toNat)):=by
 have hc:=c.toNat_lt
 by_cases h:c.toNat<128
 · exact abW _ (by omega) (by omega)
 · have:Ee c.toNat=false:=by simp[Ee];omega
   rw[this]
   exact aeX _ (by omega) (by omega)
theorem qh (c:UInt8):ay Pr 110 [.str [45,95,46,58],.int .i32 (IntKind.i32.wrap c.toNat)] (.bool (Ee c.toNat)):=by
 have:∀m:Nat,m<256→IntKind.i32.wrap (m:Int)=m:=by decide +kernel
 rw[this _ c.toNat_lt]
 exact aie c
set_option maxHeartbeats 4000000
theorem kG (s:List UInt8)(hs:s.length≤140737488355328):ay Pr 56 [.str s] (.bool (bg s)):=by
 refine gK Tryz.func56 Tryz.ntmps56 ?_
 refine aG 4 [0,2,3,4,6,7,8] ?_
 refine WP.lp [0,6] (X:={k:Nat // k≤s.length∧bg s=((s.drop k).all (fun c=>dW c.toNat) && !(s == []) && decide ((s.length:Int)≤64))}) (fun x=>match x with| ⟨(k),_⟩=>[(7,.int .i64 k)]) (fun x=>match x with| ⟨(k),_⟩=>[]) (fun x=>match x with| ⟨(k),_⟩=>s.length - k) (by simp +decide only[W,↓reduceIte];rfl) ?_ ⟨(0),⟨ada _,by simp[bg]⟩⟩ ?_
 rotate_left
 ·exact OC
 rintro ⟨k,hk,hI⟩
 dsimp only
 simp only[abS,abT]
 refine aG 2 [0,2,3,4,6,7,8] ?_
 refine WP.cond rfl (fun q1=>?_) (fun q1=>?_)
 ·have hlt:=aO q1
  have hg:=kU hlt
  rw[bZ hlt] at hI
  simp only[alf] at hI
  refine jd 5 [0,2,3,4,6,7,8] q1 hg ?_
  refine WP.sm [0,6,7] 40 (.bool (!(dW s[k].toNat))) (by kernel_rfl) (fun K hK=>?_) ?_
  ·refine ah.take 3 fun J hJ=>?_
   simp +decide only[TF,↓reduceIte]
   refine hJ _ _ ?_;clear hJ J
   refine ah.part 15 rfl (fun q2=>?_) (fun q2=>?_)
   ·refine ah.take 7 fun J hJ=>?_
    simp +decide only[TF,q2,↓reduceIte]
    refine hJ _ _ ?_;clear hJ J
    refine ah.part 22 rfl (fun q3=>?_) (fun q3=>?_)
    ·refine ah.take 8 fun J hJ=>?_
     simp +decide only[TF,q3,↓reduceIte]
     refine hJ _ _ ?_;clear hJ J
     refine ah.part 30 rfl (fun q4=>?_) (fun q4=>?_)
     ·simp +decide only[TF,q4,↓reduceIte]
      refine aj.P (qh _) rfl rfl ?_
      simp +decide only[TF,↓reduceIte]
      exact hK _ _ (by simp[St.get,lk,W]) rfl (Le.of_eq (by simp_all[St.get,lk,W,dW,dB,upperB,je,Ee];rw[agZ];simp;try omega))
     refine ah.take 5 fun J hJ=>?_
     simp +decide only[TF,q4,↓reduceIte]
     refine hJ _ _ ?_;clear hJ J
     refine ah.part 35 rfl (fun q5=>?_) (fun q5=>?_)
     ·simp +decide only[TF,q5,↓reduceIte]
      refine aj.P (qh _) rfl rfl ?_
      simp +decide only[TF,↓reduceIte]
      exact hK _ _ (by simp[St.get,lk,W]) rfl (Le.of_eq (by simp_all[St.get,lk,W,dW,dB,upperB,je,Ee];rw[agZ];simp;try omega))
     simp +decide only[TF,q5,↓reduceIte]
     exact hK _ _ (by simp[St.get,lk,W]) rfl (Le.of_eq (by simp_all[St.get,lk,W,dW,dB,upperB,je]))
    refine ah.take 5 fun J hJ=>?_
    simp +decide only[TF,q3,↓reduceIte]
    refine hJ _ _ ?_;clear hJ J
    refine ah.part 27 rfl (fun q6=>?_) (fun q6=>?_)
    ·refine ah.take 3 fun J hJ=>?_
     simp +decide only[TF,q6,↓reduceIte]
     refine hJ _ _ ?_;clear hJ J
     refine ah.part 30 rfl (fun q7=>?_) (fun q7=>?_)
     ·simp +decide only[TF,q7,↓reduceIte]
      refine aj.P (qh _) rfl rfl ?_
      simp +decide only[TF,↓reduceIte]
      exact hK _ _ (by simp[St.get,lk,W]) rfl (Le.of_eq (by simp_all[St.get,lk,W,dW,dB,upperB,je,Ee];rw[agZ];simp;try omega))
     refine ah.take 5 fun J hJ=>?_
     simp +decide only[TF,q7,↓reduceIte]
     refine hJ _ _ ?_;clear hJ J
     refine ah.part 35 rfl (fun q8=>?_) (fun q8=>?_)
     ·simp +decide only[TF,q8,↓reduceIte]
      refine aj.P (qh _) rfl rfl ?_
      simp +decide only[TF,↓reduceIte]
      exact hK _ _ (by simp[St.get,lk,W]) rfl (Le.of_eq (by simp_all[St.get,lk,W,dW,dB,upperB,je,Ee];rw[agZ];simp;try omega))
     simp +decide only[TF,q8,↓reduceIte]
     exact hK _ _ (by simp[St.get,lk,W]) rfl (Le.of_eq (by simp_all[St.get,lk,W,dW,dB,upperB,je]))
    simp +decide only[TF,q6,↓reduceIte]
    exact hK _ _ (by simp[St.get,lk,W]) rfl (Le.of_eq (by simp_all[St.get,lk,W,dW,dB,upperB,je]))
   refine ah.take 4 fun J hJ=>?_
   simp +decide only[TF,q2,↓reduceIte]
   refine hJ _ _ ?_;clear hJ J
   refine ah.part 19 rfl (fun q9=>?_) (fun q9=>?_)
   ·refine ah.take 3 fun J hJ=>?_
    simp +decide only[TF,q9,↓reduceIte]
    refine hJ _ _ ?_;clear hJ J
    refine ah.part 22 rfl (fun q10=>?_) (fun q10=>?_)
    ·refine ah.take 8 fun J hJ=>?_
     simp +decide only[TF,q10,↓reduceIte]
     refine hJ _ _ ?_;clear hJ J
     refine ah.part 30 rfl (fun q11=>?_) (fun q11=>?_)
     ·simp +decide only[TF,q11,↓reduceIte]
      refine aj.P (qh _) rfl rfl ?_
      simp +decide only[TF,↓reduceIte]
      exact hK _ _ (by simp[St.get,lk,W]) rfl (Le.of_eq (by simp_all[St.get,lk,W,dW,dB,upperB,je,Ee];rw[agZ];simp;try omega))
     refine ah.take 5 fun J hJ=>?_
     simp +decide only[TF,q11,↓reduceIte]
     refine hJ _ _ ?_;clear hJ J
     refine ah.part 35 rfl (fun q12=>?_) (fun q12=>?_)
     ·simp +decide only[TF,q12,↓reduceIte]
      refine aj.P (qh _) rfl rfl ?_
      simp +decide only[TF,↓reduceIte]
      exact hK _ _ (by simp[St.get,lk,W]) rfl (Le.of_eq (by simp_all[St.get,lk,W,dW,dB,upperB,je,Ee];rw[agZ];simp;try omega))
     simp +decide only[TF,q12,↓reduceIte]
     exact hK _ _ (by simp[St.get,lk,W]) rfl (Le.of_eq (by simp_all[St.get,lk,W,dW,dB,upperB,je]))
    refine ah.take 5 fun J hJ=>?_
    simp +decide only[TF,q10,↓reduceIte]
    refine hJ _ _ ?_;clear hJ J
    refine ah.part 27 rfl (fun q13=>?_) (fun q13=>?_)
    ·refine ah.take 3 fun J hJ=>?_
     simp +decide only[TF,q13,↓reduceIte]
     refine hJ _ _ ?_;clear hJ J
     refine ah.part 30 rfl (fun q14=>?_) (fun q14=>?_)
     ·simp +decide only[TF,q14,↓reduceIte]
      refine aj.P (qh _) rfl rfl ?_
      simp +decide only[TF,↓reduceIte]
      exact hK _ _ (by simp[St.get,lk,W]) rfl (Le.of_eq (by simp_all[St.get,lk,W,dW,dB,upperB,je,Ee];rw[agZ];simp;try omega))
     refine ah.take 5 fun J hJ=>?_
     simp +decide only[TF,q14,↓reduceIte]
     refine hJ _ _ ?_;clear hJ J
     refine ah.part 35 rfl (fun q15=>?_) (fun q15=>?_)
     ·simp +decide only[TF,q15,↓reduceIte]
      refine aj.P (qh _) rfl rfl ?_
      simp +decide only[TF,↓reduceIte]
      exact hK _ _ (by simp[St.get,lk,W]) rfl (Le.of_eq (by simp_all[St.get,lk,W,dW,dB,upperB,je,Ee];rw[agZ];simp;try omega))
     simp +decide only[TF,q15,↓reduceIte]
     exact hK _ _ (by simp[St.get,lk,W]) rfl (Le.of_eq (by simp_all[St.get,lk,W,dW,dB,upperB,je]))
    simp +decide only[TF,q13,↓reduceIte]
    exact hK _ _ (by simp[St.get,lk,W]) rfl (Le.of_eq (by simp_all[St.get,lk,W,dW,dB,upperB,je]))
   simp +decide only[TF,q9,↓reduceIte]
   exact hK _ _ (by simp[St.get,lk,W]) rfl (Le.of_eq (by simp_all[St.get,lk,W,dW,dB,upperB,je]))
  refine WP.cond rfl (fun q16=>?_) (fun q16=>?_)
  ·refine aJ 1 [0,2,3,4,6,7,8] q16 ?_
   apply WP.ret
   exact Ends.P rfl (Le.of_eq (by simp_all[St.get,W,bg]))
  refine aJ 2 [] q16 ?_
  show ∃y,_∧Weak _ _ _
  refine⟨⟨k+1,?_⟩,?_,Weak.nil ?_ ?_⟩
  ·exact⟨by omega,by first|(simpa [q1,hg,q16] using hI)|(simp_all;done)⟩
  ·dsimp only;omega
  ·simp[St.get,lk,Le.refl,aU hlt hs]
  simp[W]
 have hge:=aP q1
 rw[dR hge] at hI
 simp only[amn,al5] at hI
 refine aG 1 [] ?_
 refine WP.S [0,2,3,4,6,7,8] fun _ z=>?_
 refine ah.take 4 fun J hJ=>?_
 simp +decide only[TF,q1,↓reduceIte]
 refine hJ _ _ ?_;clear hJ J
 refine ah.part 45 rfl (fun q17=>?_) (fun q17=>?_)
 ·simp +decide only[TF,q17,↓reduceIte]
  apply z;clear z
  apply WP.ret
  exact Ends.P rfl (Le.of_eq (by simp_all[St.get,W,LN,bg]))
 simp +decide only[TF,q17,↓reduceIte]
 apply z;clear z
 apply WP.ret
 exact Ends.P rfl (Le.of_eq (by simp_all[St.get,W,LN,bg]))
abbrev lD:List Nat:=[0,2,3,5,6,7,18]
theorem Wn (s:List UInt8)(hs:s.length≤140737488355328):ay Pr 57 [.str s] (.bool (b_ s)):=by
 refine gK Tryz.func57 Tryz.ntmps57 ?_
 refine aG 4 lD ?_
 refine WP.lp [0,5] (X:={k:Nat // k≤s.length∧b_ s=((s.drop k).all (fun c=>tX c.toNat) && !(s == []) && decide ((s.length:Int)≤256) && endsB s)}) (fun x=>match x with| ⟨(k),_⟩=>[(6,.int .i64 k)]) (fun x=>match x with| ⟨(k),_⟩=>[]) (fun x=>match x with| ⟨(k),_⟩=>s.length - k) (by simp +decide only[W,↓reduceIte];rfl) ?_ ⟨(0),⟨ada _,by simp[b_]⟩⟩ ?_
 rotate_left
 ·exact OC
 rintro ⟨k,hk,hI⟩
 dsimp only
 simp only[abS,abT]
 refine aG 2 lD ?_
 refine WP.cond rfl (fun q1=>?_) (fun q1=>?_)
 ·have hlt:=aO q1
  have hg:=kU hlt
  rw[bZ hlt] at hI
  simp only[alf] at hI
  refine aJ 4 lD q1 ?_
  refine WP.S lD fun _ z=>?_
  refine ah.take 5 fun J hJ=>?_
  simp +decide only[TF,hg,↓reduceIte]
  refine hJ _ _ ?_;clear hJ J
  refine ah.part 13 rfl (fun q2=>?_) (fun q2=>?_)
  ·simp +decide only[TF,q2,↓reduceIte]
   apply z;clear z
   refine aG 2 lD ?_
   apply WP.ret
   exact zV3 @endsB.eq_def @tX.eq_def hI
  simp +decide only[TF,hg,q2,↓reduceIte]
  apply z;clear z
  refine WP.cond rfl (fun q3=>?_) (fun q3=>?_)
  ·refine aJ 1 lD q3 ?_
   apply WP.ret
   exact zV3 @endsB.eq_def @tX.eq_def hI
  refine aJ 2 [] q3 ?_
  show ∃y,_∧Weak _ _ _
  have hc:tX ↑s[k].toNat=true:=by have:=of_decide_eq_false q2;have:=of_decide_eq_false q3;simp[tX];omega
  rw[hc,al5] at hI
  refine⟨⟨k+1,⟨by omega,hI⟩⟩,?_,Weak.nil ?_ ?_⟩
  ·dsimp only;omega
  ·simp[St.get,lk,Le.refl,aU hlt hs]
  simp[W]
 have hge:=aP q1
 rw[dR hge] at hI
 simp only[amn,al5] at hI
 refine aG 1 [] ?_
 refine WP.S lD fun _ z=>?_
 refine ah.take 4 fun J hJ=>?_
 simp +decide only[TF,q1,↓reduceIte]
 refine hJ _ _ ?_;clear hJ J
 refine ah.part 23 rfl (fun q4=>?_) (fun q4=>?_)
 ·have hne:0<s.length:=by have:=of_decide_eq_true q4;omega
  have h0:=kU hne
  have h0c:=zV hne
  have hnn:(s == [])=false:=by cases s <;> simp at hne ⊢
  refine ah.take 5 fun J hJ=>?_
  simp +decide only[TF,q4,↓reduceIte]
  refine hJ _ _ ?_;clear hJ J
  refine ah.part 28 rfl (fun q5=>?_) (fun q5=>?_)
  ·have hw:=ad3 hne hs
   have hl:=kU (show s.length - 1<s.length by omega)
   have hlc:=zV (show s.length - 1<s.length by omega)
   refine ah.take 5 fun J hJ=>?_
   simp +decide only[TF,h0,q5,↓reduceIte]
   refine hJ _ _ ?_;clear hJ J
   refine ah.part 33 rfl (fun q6=>?_) (fun q6=>?_)
   ·simp +decide only[TF,hw,hl,q6,↓reduceIte]
    apply z;clear z
    apply WP.ret
    exact Ends.P rfl (Le.of_eq (by simp_all[St.get,W,LN,bne,endsB]))
   simp +decide only[TF,q6,↓reduceIte]
   apply z;clear z
   apply WP.ret
   exact Ends.P rfl (Le.of_eq (by simp_all[St.get,W,LN,bne,endsB]))
  simp +decide only[TF,q5,↓reduceIte]
  apply z;clear z
  apply WP.ret
  exact zP5 @endsB.eq_def h0c hnn q5 hI
 have hz:s=[]:=by cases s with|nil=>rfl|cons=>(simp at q4;try omega)
 simp +decide only[TF,hz,↓reduceIte]
 apply z;clear z
 apply WP.ret
 exact Ends.P rfl (Le.of_eq (by simp_all[St.get,W,endsB]))
theorem alr (n:Int):ay Pr 174 [.int .u8 n] (.bool (um n)):=by
 refine gK Tryz.func174 Tryz.ntmps174 ?_
 refine aG 1 [0,2] ?_
 refine WP.S [0,2] fun _ z=>?_
 simp +decide only[TF,↓reduceIte]
 refine aj.P (MC _) rfl rfl ?_
 refine ah.take 1 fun J hJ=>?_
 simp +decide only[TF,↓reduceIte]
 refine hJ _ _ ?_;clear hJ J
 refine ah.part 5 rfl (fun q1=>?_) (fun q1=>?_)
 ·simp +decide only[TF,q1,↓reduceIte]
  apply z;clear z
  apply WP.ret
  exact Bv @um.eq_def q1
 simp +decide only[TF,q1,↓reduceIte]
 refine aj.P (ZQ _) rfl rfl ?_
 refine ah.take 2 fun J hJ=>?_
 simp +decide only[TF,↓reduceIte]
 refine hJ _ _ ?_;clear hJ J
 refine ah.part 9 rfl (fun q2=>?_) (fun q2=>?_)
 ·simp +decide only[TF,q2,↓reduceIte]
  apply z;clear z
  apply WP.ret
  exact Md @um.eq_def q1 q2
 simp +decide only[TF,q2,↓reduceIte]
 apply z;clear z
 apply WP.ret
 exact Md @um.eq_def q1 q2
abbrev nC:List Nat:=[0,1,4,5,7,8,9,16]
theorem Wp (s:List UInt8)(hs:s.length≤140737488355328):ay Pr 173 [.str s,.fn (.func 174) [] []] (.bool (r_ s)):=by
 refine ay.W Tryz.func173 Tryz.ntmps173 ?_
 simp only[aT,ade]
 refine aG 4 nC ?_
 refine WP.lp [0,1,7] (X:={k:Nat // k≤s.length∧r_ s=((s.drop k).all (fun c=>um c.toNat) && !(s == []) && decide ((s.length:Int)≤64))}) (fun x=>match x with| ⟨(k),_⟩=>[(8,.int .i64 k)]) (fun x=>match x with| ⟨(k),_⟩=>[]) (fun x=>match x with| ⟨(k),_⟩=>s.length - k) (by simp +decide only[W,↓reduceIte];rfl) ?_ ⟨(0),⟨ada _,by simp[r_]⟩⟩ ?_
 rotate_left
 ·exact Weak.nil (by simp[St.get,lk,W,Le.refl,W]) (by simp[W])
 rintro ⟨k,hk,hI⟩
 dsimp only
 simp only[abS,abT]
 refine aG 2 nC ?_
 refine WP.cond rfl (fun q1=>?_) (fun q1=>?_)
 ·have hlt:=aO q1
  have hg:=kU hlt
  rw[bZ hlt] at hI
  simp only[alf] at hI
  refine aJ 4 nC q1 ?_
  refine WP.S nC fun _ z=>?_
  simp +decide only[TF,hg,↓reduceIte]
  refine aj.P (alr _) rfl rfl ?_
  simp +decide only[TF,↓reduceIte]
  apply z;clear z
  refine WP.cond rfl (fun q2=>?_) (fun q2=>?_)
  ·simp only[adh] at q2
   refine aJ 1 nC q2 ?_
   apply WP.ret
   exact Ends.P rfl (Le.of_eq (by simp_all[St.get,W,r_]))
  simp only[afE] at q2
  refine aJ 2 [] q2 ?_
  show ∃y,_∧Weak _ _ _
  refine⟨⟨k+1,?_⟩,?_,Weak.nil ?_ ?_⟩
  ·exact⟨by omega,by first|(simpa [q1,hg,q2] using hI)|(simp_all;done)⟩
  ·dsimp only;omega
  ·simp[St.get,lk,Le.refl,aU hlt hs]
  simp[W]
 have hge:=aP q1
 rw[dR hge] at hI
 simp only[amn,al5] at hI
 refine aG 1 [] ?_
 refine WP.S nC fun _ z=>?_
 refine ah.take 3 fun J hJ=>?_
 simp +decide only[TF,q1,↓reduceIte]
 refine hJ _ _ ?_;clear hJ J
 refine ah.part 20 rfl (fun q3=>?_) (fun q3=>?_)
 ·simp +decide only[TF,q3,↓reduceIte]
  apply z;clear z
  apply WP.ret
  exact Ends.P rfl (Le.of_eq (by simp_all[St.get,W,r_]))
 simp +decide only[TF,q3,↓reduceIte]
 apply z;clear z
 apply WP.ret
 exact Ends.P rfl (Le.of_eq (by simp +decide only[St.get,W,r_,q3,↓reduceIte]))
def sS (s:List UInt8)(k:Nat):List D:=(bG (s.take k)++s.drop k).map fun c=> .int .u8 c.toNat
theorem Np {S:Nat→Prop}(s:List UInt8)(k:Nat):(∀d∈sS s k,bY S d)↔True:=by
 simp only[iff_true,sS,List.mem_map]
 rintro d ⟨c,_,rfl⟩
 exact .int _ _
theorem aeY (s:List UInt8)(k:Nat):(sS s k).length=s.length:=by simp[sS,bG];omega
theorem als (s:List UInt8):sS s 0=s.map fun c=> .int .u8 c.toNat:=by simp[sS,bG]
theorem aeZ (s:List UInt8):sS s s.length=(bG s).map fun c=> .int .u8 c.toNat:=by simp[sS]
theorem F7 (s:List UInt8){k:Nat}(h:k<s.length):(sS s k).drop k= .int .u8 s[k].toNat::(s.drop (k+1)).map fun c=> .int .u8 c.toNat:=by
 have e:(bG (s.take k)).length=k:=by rw[vO,adg];omega
 rw[sS,List.map_append,aoX (by simp[e]),akV (by simp[e]),abT,bZ h,ag1]
theorem Nq (s:List UInt8){k:Nat}(h:k<s.length):bG (s.take (k+1))=bG (s.take k)++[BX s[k]]:=by
 simp only[bG,aow,List.map_append,abt h,Option.toList_some,ag1,aj9]
theorem Rf (s:List UInt8){k:Nat}(h:k<s.length):sS s (k+1)=(sS s k).take k++[.int .u8 (BX s[k]).toNat]++(sS s k).drop (k+1):=by
 have e:(bG (s.take k)).length=k:=by rw[vO,adg];omega
 have e1:(sS s k).take k=(bG (s.take k)).map fun c=> .int .u8 c.toNat:=by
  rw[sS,List.map_append,List.take_append_of_le_length (by simp[e]),ajr (by simp[e])]
 have e2:(sS s k).drop (k+1)=(s.drop (k+1)).map fun c=> .int .u8 c.toNat:=by
  rw[← alv,F7 s h,anx,aoY]
 rw[e1,e2,sS,Nq s h]
 simp
theorem aao {c:UInt8}(h:upperB c.toNat=true):IntKind.u8.wrap ((c.toNat:Int)+32)=(BX c).toNat∧IntKind.u8.wrap (IntKind.u8.wrap ((c.toNat:Int)+97) - 65)=(BX c).toNat:=by
 have key:∀m:Nat,m<256→upperB (m:Int)=true→IntKind.u8.wrap ((m:Int)+32)=(BX (UInt8.ofNat m)).toNat∧IntKind.u8.wrap (IntKind.u8.wrap ((m:Int)+97) - 65)=(BX (UInt8.ofNat m)).toNat:=by decide +kernel
 have:=key c.toNat c.toNat_lt h
 simpa using this
theorem TU {c:UInt8}(h:upperB c.toNat=false):BX c=c:=by simp[BX,h]
theorem abX (s:List UInt8){k:Nat}(h:k<s.length)(hu:upperB s[k].toNat=false):sS s (k+1)=sS s k:=by
 have e:=F7 s h
 rw[Rf s h,TU hu]
 have e2:(sS s k).drop (k+1)=(s.drop (k+1)).map fun c=> .int .u8 c.toNat:=by rw[← alv,e,anx,aoY]
 rw[List.append_assoc,aoj,e2,← e,aki]
structure At where
 name:List UInt8
 nl:Bool
 vals:List (List UInt8)
def At.cs (a:At):List D:=[.str a.name,.slice 1 a.nl (a.vals.map fun x=>[.str x]) none]
def At.ok (a:At):Prop:=a.name.length≤1099511627776∧a.vals.length≤1099511627776∧(a.nl=true→a.vals=[])∧∀v∈a.vals,v.length≤1099511627776
def wW (pre:List (List UInt8)):List (List UInt8)→Int
 | []=>0
 |v::l=>if b_ v=false then 4 else if pre.contains v=true then 7 else wW (pre++[v]) l
def atE (pre:List At)(a:At):Int:=
 if nameB a.name=false then 5 else if (pre.any fun b=>bG a.name == bG b.name)=true then 7 else if a.vals.isEmpty=true then 6 else if decide ((a.vals.length:Int)>16)=true then 3 else wW [] a.vals
def AP (pre:List At):List At→Int
 | []=>0
 |a::l=>if atE pre a≠0 then atE pre a else AP (pre++[a]) l
def eP (l:List At):Int:=if decide ((l.length:Int)>32)=true then 3 else AP [] l
theorem alu (s:List UInt8)(hs:s.length≤140737488355328):ay Pr 111 [.str s] (.bool (nameB s)):=by
 refine gK Tryz.func111 Tryz.ntmps111 ?_
 refine aG 1 [0,2] ?_
 refine WP.S [0,2] fun _ z=>?_
 simp +decide only[TF,↓reduceIte]
 refine aj.P (Wp _ (by assumption)) rfl rfl ?_
 refine ah.take 1 fun J hJ=>?_
 simp +decide only[TF,↓reduceIte]
 refine hJ _ _ ?_;clear hJ J
 refine ah.part 5 rfl (fun q1=>?_) (fun q1=>?_)
 ·have hne:0<s.length:=by cases s with|nil=>simp[r_] at q1|cons=>simp
  have h0:=kU hne
  have hf:alq s=dB s[0].toNat:=by cases s with|nil=>simp at hne|cons=>rfl
  simp +decide only[TF,q1,h0,↓reduceIte]
  refine aj.P (MC _) rfl rfl ?_
  simp +decide only[TF,↓reduceIte]
  apply z;clear z
  apply WP.ret
  exact Md @nameB.eq_def q1 hf
 simp +decide only[TF,q1,↓reduceIte]
 apply z;clear z
 apply WP.ret
 exact Bv @nameB.eq_def q1
abbrev qj:List Nat:=[0,2,3,17,21]
theorem ae0 (s:List UInt8)(hs:s.length≤140737488355328):ay Pr 116 [.str s] (.bool (nameB s)):=by
 refine gK Tryz.func116 Tryz.ntmps116 ?_
 refine aG 2 qj ?_
 refine WP.S qj fun _ z=>?_
 refine ah.take 4 fun J hJ=>?_
 simp +decide only[TF,↓reduceIte]
 refine hJ _ _ ?_;clear hJ J
 refine ah.part 7 rfl (fun q1=>?_) (fun q1=>?_)
 ·have hz:s=[]:=by cases s with|nil=>rfl|cons=>(simp at q1;try omega)
  simp +decide only[TF,hz,↓reduceIte]
  apply z;clear z
  refine aG 2 qj ?_
  apply WP.ret
  exact Ends.P rfl (Le.of_eq (by simp[St.get,W,nameB,r_,hz]))
 have hne:0<s.length:=by have:=of_decide_eq_false q1;omega
 have h0:=kU hne
 have hnn:(s == [])=false:=by cases s <;> simp at hne ⊢
 have hf:alq s=dB s[0].toNat:=by cases s with|nil=>simp at hne|cons=>rfl
 refine ah.take 5 fun J hJ=>?_
 simp +decide only[TF,q1,↓reduceIte]
 refine hJ _ _ ?_;clear hJ J
 refine ah.part 12 rfl (fun q2=>?_) (fun q2=>?_)
 ·simp +decide only[TF,q2,↓reduceIte]
  apply z;clear z
  refine aG 2 qj ?_
  apply WP.ret
  exact zV4 @nameB.eq_def @r_.eq_def hf hnn
 simp +decide only[TF,h0,q2,↓reduceIte]
 refine aj.P (BO _) rfl rfl ?_
 simp +decide only[TF,↓reduceIte]
 apply z;clear z
 refine WP.cond rfl (fun q3=>?_) (fun q3=>?_)
 ·refine aJ 1 qj q3 ?_
  apply WP.ret
  exact Ends.P rfl (Le.of_eq (by simp_all[St.get,W,LN,nameB,r_]))
 refine aJ 4 [0,3] q3 ?_
 refine WP.lp [0] (X:={k:Nat // k≤s.length∧s.all (fun c=>um c.toNat)=(s.drop k).all (fun c=>um c.toNat)}) (fun x=>match x with| ⟨(k),_⟩=>[(3,.int .i64 k)]) (fun x=>match x with| ⟨(k),_⟩=>[]) (fun x=>match x with| ⟨(k),_⟩=>s.length - k) (by simp +decide only[W,↓reduceIte];rfl) ?_ ⟨(0),⟨ada _,by simp⟩⟩ ?_
 rotate_left
 ·exact OC
 rintro ⟨k,hk,hI⟩
 dsimp only
 simp only[abS,abT]
 refine aG 2 qj ?_
 refine WP.cond rfl (fun q4=>?_) (fun q4=>?_)
 ·have hlt:=aO q4
  have hg:=kU hlt
  rw[bZ hlt] at hI
  simp only[alf] at hI
  refine aG 3 [] ?_
  refine WP.sm [0,3] 41 (.bool (!(um s[k].toNat))) (by kernel_rfl) (fun K hK=>?_) ?_
  ·simp +decide only[TF,q4,hg,↓reduceIte]
   refine aj.P (BO _) rfl rfl ?_
   refine ah.take 2 fun J hJ=>?_
   simp +decide only[TF,↓reduceIte]
   refine hJ _ _ ?_;clear hJ J
   refine ah.part 29 rfl (fun q5=>?_) (fun q5=>?_)
   ·simp only[adh] at q5
    simp +decide only[TF,hg,q5,↓reduceIte]
    refine aj.P (QC _) rfl rfl ?_
    refine ah.take 3 fun J hJ=>?_
    simp +decide only[TF,↓reduceIte]
    refine hJ _ _ ?_;clear hJ J
    refine ah.part 36 rfl (fun q6=>?_) (fun q6=>?_)
    ·simp +decide only[TF,hg,q6,↓reduceIte]
     exact hK _ _ (by simp[St.get,lk,W]) rfl (Le.of_eq (by simp[St.get,lk,bne,um,q5,q6]))
    simp +decide only[TF,q6,↓reduceIte]
    exact hK _ _ (by simp[St.get,lk,W]) rfl (Le.of_eq (by simp[St.get,lk,um,q5,q6]))
   simp only[afE] at q5
   simp +decide only[TF,q5,↓reduceIte]
   exact hK _ _ (by simp[St.get,lk,W]) rfl (Le.of_eq (by simp[St.get,lk,um,q5]))
  refine WP.cond rfl (fun q7=>?_) (fun q7=>?_)
  ·refine jd 1 qj q4 q7 ?_
   apply WP.ret
   exact Ends.P rfl (Le.of_eq (by simp_all[St.get,W,LN,nameB,r_]))
  refine jd 2 [] q4 q7 ?_
  show ∃y,_∧Weak _ _ _
  refine⟨⟨k+1,?_⟩,?_,Weak.nil ?_ ?_⟩
  ·exact⟨by omega,by first|(simpa [q1,h0,hf,hnn,q2,q3,q4,hg,q7] using hI)|(simp_all;done)⟩
  ·dsimp only;omega
  ·simp[St.get,lk,Le.refl,aU hlt hs]
  simp[W]
 have hge:=aP q4
 rw[dR hge] at hI
 simp only[amn] at hI
 refine aJ 2 qj q4 ?_
 apply WP.ret
 exact Ends.P rfl (Le.of_eq (by simp_all[St.get,W,LN,nameB,r_]))
theorem TV (s:List UInt8)(hs:s.length≤140737488355328):ay Pr 112 [.str s] (.str (bG s)):=by
 refine ay.of_wp Tryz.func112 rfl (by kernel_rfl) Tryz.ntmps112 (by simp) ?_
 simp only[aT]
 refine aG 2 [0] ?_
 refine WP.adR 1 (by kernel_rfl) rfl rfl rfl fun K hK=>?_
 simp +decide only[TF,↓reduceIte]
 refine hK _ _ ?_;clear hK K
 refine⟨5,_,s,0,qW,pW,uZ,rfl,by omega,rfl,fun K hK=>?_⟩
 ·
  simp +decide only[TF,↓reduceIte]
  refine hK _ _ ?_;clear hK K
  show WP _ _ _ _ _ _
  refine aG 3 [3,8,9] ?_
  refine WP.lp [3,8] (X:={k:Nat // k≤s.length}) (fun x=>match x with| ⟨(k),_⟩=>[(9,.int .i64 k)]) (fun x=>match x with| ⟨(k),_⟩=>[(0,.arr 1000005 (sS s k))]) (fun x=>match x with| ⟨(k),_⟩=>s.length - k) (by simp +decide only[W,↓reduceIte];rfl) ?_ ⟨(0),ada _⟩ ?_
  rotate_left
  · exact Weak.store (by simp[St.get,lk,W,Le.refl,W]) (by simp[lk,als,FZ]) (by simp[lk]) (by simp[aB,Np]) (by simp)
  rintro ⟨k,hk⟩
  dsimp only
  simp only[abS,abT]
  refine aG 2 [3,8,9,10] ?_
  refine WP.cond (b:=_) rfl (fun q1=>?_) (fun q1=>?_)
  ·
   have hlt:=aO q1
   have hd:=F7 s hlt
   have hl1:(k+1≤(sS s k).length)=True:=by rw[aeY];simp;omega
   have hm1:k * 1=k:=aos k
   have hkl:(k<s.length)=True:=by simp[hlt]
   refine aJ 4 [3,4,8,9] q1 ?_
   refine WP.sr [3,4,8,9,16] (by kernel_rfl) fun K hK=>?_
   simp +decide only[TF,hm1,hd,hkl,↓reduceIte]
   refine aj.pure (ZP _) rfl rfl (by simp[-List.map_take]) ?_
   simp +decide only[TF,↓reduceIte]
   refine hK _ _ ?_;clear hK K
   refine WP.cond (b:=_) rfl (fun q2=>?_) (fun q2=>?_)
   ·
    have hup:=(aao q2).1
    refine zG6 2 [] hl1 hm1 hd hkl q2 hup ?_
    show ∃y,_∧Weak _ _ _
    refine⟨⟨k+1,?_⟩,?_,?_⟩
    · show k+1≤s.length;omega
    · dsimp only;omega
    · exact Weak.store (by simp[St.get,lk,Le.refl,aU hlt hs]) (by simp[lk,Rf s hlt]) (by simp[lk]) (by simp[aB,Np]) (by simp[lk])
   ·
    have hno:=q2
    refine aJ 2 [] q2 ?_
    show ∃y,_∧Weak _ _ _
    refine⟨⟨k+1,?_⟩,?_,?_⟩
    · show k+1≤s.length;omega
    · dsimp only;omega
    · exact Weak.store (by simp[St.get,lk,Le.refl,aU hlt hs]) (by simp[lk,abX s hlt hno]) (by simp[lk]) (by simp[aB,Np]) (by simp[lk])
  ·
   have hge:=aP q1
   refine aG 2 [] ?_
   refine WP.akQ 1 (by kernel_rfl) rfl rfl rfl fun K hK=>?_
   simp +decide only[TF,↓reduceIte]
   refine hK _ _ ?_;clear hK K
   obtain rfl:k=s.length:=by omega
   refine⟨5,1000005,_,bG s,0,[],qW,pW,uZ,by simp[bT,St.get,lk,vO],by simp[lk,aeZ],fun K hK=>?_⟩
   ·
    simp +decide only[TF,q1,↓reduceIte]
    refine hK _ _ ?_;clear hK K
    show WP _ _ _ _ _ _
    refine WP.ret ?_
    exact Ends.pure (.inr rfl) rfl (Le.of_eq (by simp +decide only[St.get,lk,W,↓reduceIte])) (by simp)
def dw (s:List UInt8)(q:List (List UInt8) × Bool)(x:List UInt8):List (List UInt8) × Bool:=
 (if (x == s)=true then (if (!q.2 && !(Op.bytesLess x s))=true then q.1++[s] else q.1) else (if (!q.2 && !(Op.bytesLess x s))=true then q.1++[s] else q.1)++[x],if (!q.2 && !(Op.bytesLess x s))=true then true else q.2)
def lY (l:List (List UInt8))(s:List UInt8):List (List UInt8):=
 if (l.foldl (dw s) ([],false)).2=true then (l.foldl (dw s) ([],false)).1 else (l.foldl (dw s) ([],false)).1++[s]
theorem qO (s:List UInt8):∀(l o:List (List UInt8)),(l.foldl (dw s) (o,true))=(o++l.filter (fun x=>!(x == s)),true)
 | [],o=>by simp
 |x::l,o=>by
  rw[akk]
  by_cases h:x=s
  ·have:dw s (o,true) x=(o,true):=by simp[dw,h]
   rw[this,qO s l o];simp[h]
  ·have:dw s (o,true) x=(o++[x],true):=by simp[dw,h]
   rw[this,qO s l _];simp[h]
theorem aap (s:List UInt8):∀(l o:List (List UInt8)),Asc l→(if (l.foldl (dw s) (o,false)).2=true then (l.foldl (dw s) (o,false)).1 else (l.foldl (dw s) (o,false)).1++[s])=o++(l.filter (fun x=>Op.bytesLess x s)++[s]++l.filter (fun x=>Op.bytesLess s x))
 | [],o,_=>by simp
 |x::l,o,ha=>by
  rw[akk]
  cases h:Op.bytesLess x s
  ·have hs:∀y∈l,Op.bytesLess s y=true:=fun y hy=>by
    rcases rY x s with q|rfl|q
    ·rw[h] at q;cases q
    ·exact ha.head y hy
    ·exact nY _ _ _ q (ha.head y hy)
   have h1:l.filter (fun y=>Op.bytesLess y s)=[]:=List.filter_eq_nil_iff.2 fun y hy=>by rw[rZ _ _ (hs y hy)];simp
   have h2:l.filter (fun y=>Op.bytesLess s y)=l:=List.filter_eq_self.2 hs
   have h3:l.filter (fun y=>!(y == s))=l:=List.filter_eq_self.2 fun y hy=>by simpa using (aeT (hs y hy)).symm
   by_cases hx:x=s
   ·have:dw s (o,false) x=(o++[s],true):=by simp[dw,hx,oP]
    rw[this,qO,h3]
    subst hx
    simp[h,h1,h2]
   ·have:dw s (o,false) x=(o++[s]++[x],true):=by simp[dw,hx,h]
    rw[this,qO,h3]
    have hsx:Op.bytesLess s x=true:=by
     rcases rY x s with q|q|q
     ·rw[h] at q;cases q
     ·exact absurd q hx
     ·exact q
    simp[h,h1,h2,hsx]
  ·have hx:¬x=s:=aeT h
   have:dw s (o,false) x=(o++[x],false):=by simp[dw,hx,h]
   rw[this,aap s l _ ha.tail]
   simp[h,rZ _ _ h]
theorem aaq {l:List (List UInt8)}(s:List UInt8)(ha:Asc l):lY l s=l.filter (fun x=>Op.bytesLess x s)++[s]++l.filter (fun x=>Op.bytesLess s x):=by
 have:=aap s l [] ha
 simpa [lY] using this
theorem ae1 {l:List (List UInt8)}{s:List UInt8}(ha:Asc l)(x:List UInt8):x∈lY l s↔x=s∨x∈l:=by
 rw[aaq s ha]
 simp only[List.append_assoc,List.mem_append,ak1,ad1]
 constructor
 ·rintro (h|h|h)
  ·exact .inr h.1
  ·exact .inl h
  ·exact .inr h.1
 ·rintro (h|h)
  ·exact .inr (.inl h)
  ·rcases rY x s with q|q|q
   ·exact .inl ⟨h,q⟩
   ·exact .inr (.inl q)
   ·exact .inr (.inr ⟨h,q⟩)
theorem Wq {l:List (List UInt8)}(s:List UInt8)(ha:Asc l):Asc (lY l s):=by
 rw[aaq s ha]
 have f:∀p,Asc (l.filter p):=fun p=>List.Pairwise.filter p ha
 refine List.pairwise_append.2 ⟨List.pairwise_append.2 ⟨f _,by simp,fun a h b hb=>?_⟩,f _,fun a h b hb=>?_⟩
 ·simp only[ak1,ad1] at h hb;subst hb;exact h.2
 ·simp only[List.mem_append,ak1,ad1] at h hb
  rcases h with h|rfl
  ·exact nY _ _ _ h.2 hb.2
  ·exact hb.2
theorem Jm (s:List UInt8):∀(l:List (List UInt8)) (q:List (List UInt8) × Bool),(l.foldl (dw s) q).1.length+(if (l.foldl (dw s) q).2=true then 0 else 1)≤q.1.length+l.length+(if q.2=true then 0 else 1)
 | [],q=>by simp only[apF,acS,amQ];exact ag4 _
 |x::l,q=>by
  have ih:=Jm s l (dw s q x)
  rw[akk]
  refine ag9 ih ?_
  unfold dw
  cases q.2 <;> cases (Op.bytesLess x s) <;> cases (x == s) <;> simp <;> omega
theorem Nr (l:List (List UInt8))(s:List UInt8):(lY l s).length≤l.length+1:=by
 have:=Jm s l ([],false)
 unfold lY
 split <;> rename_i h <;> simp[h] at this ⊢ <;> omega
theorem JM {α:Type}(a:List α)(x:α):(a++[x]).isEmpty=false:=by cases a <;> rfl
theorem yX {S:Nat→Prop}(a b:List (List D)):(∀e∈a++b,∀d∈e,bY S d)↔((∀e∈a,∀d∈e,bY S d)∧∀e∈b,∀d∈e,bY S d):=List.forall_mem_append
theorem fH {S:Nat→Prop}(l:List (List UInt8)):(∀e∈l.map (fun x=>[D.str x]),∀d∈e,bY S d)↔True:=by
 simp only[iff_true,List.mem_map]
 rintro e ⟨x,_,rfl⟩ d hd
 simp only[ad1] at hd;subst hd;exact .str _
theorem Ws (pre:List (List UInt8)):wW pre []=0:=rfl
theorem Ns (s:List UInt8){k:Nat}(h:k<s.length):fK (bG (s.take k))++[[D.int .u8 (BX s[k]).toNat]]=fK (bG (s.take (k+1))):=by
 rw[vw,Nq s h]
theorem qP (s:List UInt8){k:Nat}(h:k≤s.length):(bG (s.take k)).length=k:=by rw[vO,adg];omega
theorem TW (s:List UInt8){k:Nat}(h:k<s.length):(bG (s.take (k+1))).isEmpty=false:=by rw[Nq s h,JM]
abbrev Ef:List Nat:=[0,1,4,5,7,8,9,16]
theorem aif (ls:List (List UInt8))(nl:Bool)(s:List UInt8)(hn:ls.length≤140737488355328)(hnl:nl=true→ls=[]):ay Pr 140 [.slice 1 nl (ls.map fun x=>[.str x]) none,.str s] (.int .i64 (ixL s ls 0)):=by
 refine gK Tryz.func140 Tryz.ntmps140 ?_
 refine aG 4 Ef ?_
 refine WP.lp [0,1,7] (X:={k:Nat // k≤ls.length∧ixL s ls 0=ixL s (ls.drop k) k}) (fun x=>match x with| ⟨(k),_⟩=>[(8,.int .i64 k)]) (fun x=>match x with| ⟨(k),_⟩=>[]) (fun x=>match x with| ⟨(k),_⟩=>ls.length - k) (by simp +decide only[W,↓reduceIte];rfl) ?_ ⟨(0),⟨ada _,by simp⟩⟩ ?_
 rotate_left
 ·exact OC
 rintro ⟨k,hk,hI⟩
 dsimp only
 simp only[abS,abT]
 refine aG 2 Ef ?_
 refine WP.cond rfl (fun q1=>?_) (fun q1=>?_)
 ·have hlt:=aO q1
  have hg:(ls.map fun x=>[D.str x])[k]?=some [.str ls[k]]:=getM hlt
  have hnf:=aX hnl hlt
  rw[bZ hlt] at hI
  simp only[ixL] at hI
  refine oC 5 Ef q1 hg hnf ?_
  refine WP.cond rfl (fun q2=>?_) (fun q2=>?_)
  ·refine aJ 1 Ef q2 ?_
   apply WP.ret
   exact Bv q2 hI
  refine aJ 2 [] q2 ?_
  show ∃y,_∧Weak _ _ _
  refine⟨⟨k+1,?_⟩,?_,Weak.nil ?_ ?_⟩
  ·exact⟨by omega,by first|(simpa [hk,q1,hg,hnf,q2] using hI)|(simp_all;done)⟩
  ·dsimp only;omega
  ·simp[St.get,lk,Le.refl,hnf,aU hlt hn]
  simp[W]
 have hge:=aP q1
 rw[dR hge] at hI
 simp only[ixL] at hI
 refine aJ 2 Ef q1 ?_
 apply WP.ret
 exact Bq hI
theorem BZ (ls:List (List UInt8))(nl:Bool)(s:List UInt8)(hn:ls.length≤140737488355328)(hnl:nl=true→ls=[]):ay Pr 82 [.slice 1 nl (ls.map fun x=>[.str x]) none,.str s] (.bool (ls.contains s)):=by
 refine gK Tryz.func82 Tryz.ntmps82 ?_
 refine aG 1 [0,1,4] ?_
 refine WP.S [0,1,4] fun _ z=>?_
 simp +decide only[TF,↓reduceIte]
 refine aj.P (aif _ _ _ (by assumption) (by assumption)) rfl rfl ?_
 simp +decide only[TF,↓reduceIte]
 apply z;clear z
 apply WP.ret
 exact Bq @ad9
abbrev J7:List Nat:=[0,1,4,5,9,17]
theorem aar (ls:List (List UInt8))(nl:Bool)(s:List UInt8)(hn:ls.length≤140737488355328)(hnl:nl=true→ls=[]):ay Pr 179 [.slice 1 nl (ls.map fun x=>[.str x]) none,.str s] (.bool (ls.contains s)):=by
 refine gK Tryz.func179 Tryz.ntmps179 ?_
 refine aG 4 [0,1,5] ?_
 refine WP.lp [0,1] (X:={k:Nat // k≤ls.length∧ls.contains s=(ls.drop k).any (fun x=>x == s)}) (fun x=>match x with| ⟨(k),_⟩=>[(5,.int .i64 k)]) (fun x=>match x with| ⟨(k),_⟩=>[]) (fun x=>match x with| ⟨(k),_⟩=>ls.length - k) (by simp +decide only[W,↓reduceIte];rfl) ?_ ⟨(0),⟨ada _,by rw[aoY,any_eq]⟩⟩ ?_
 rotate_left
 ·exact OC
 rintro ⟨k,hk,hI⟩
 dsimp only
 simp only[abS,abT]
 refine aG 2 J7 ?_
 refine WP.cond rfl (fun q1=>?_) (fun q1=>?_)
 ·have hlt:=aO q1
  have hg:(ls.map fun x=>[D.str x])[k]?=some [.str ls[k]]:=getM hlt
  have hnf:=aX hnl hlt
  rw[bZ hlt] at hI
  simp only[apn] at hI
  refine oC 4 J7 q1 hg hnf ?_
  refine WP.cond rfl (fun q2=>?_) (fun q2=>?_)
  ·refine aJ 1 J7 q2 ?_
   apply WP.ret
   exact Bv q2 hI
  refine aJ 2 [] q2 ?_
  show ∃y,_∧Weak _ _ _
  refine⟨⟨k+1,?_⟩,?_,Weak.nil ?_ ?_⟩
  ·exact⟨by omega,by first|(simpa [hk,q1,hg,hnf,q2] using hI)|(simp_all;done)⟩
  ·dsimp only;omega
  ·simp[St.get,lk,Le.refl,hnf,aU hlt hn]
  simp[W]
 have hge:=aP q1
 rw[dR hge] at hI
 simp only[List.any_nil] at hI
 refine aJ 2 J7 q1 ?_
 apply WP.ret
 exact Bq hI
abbrev sD:List Nat:=[0,2,3,4,5,6,7,8,14,19]
theorem ae2 (ls:List (List UInt8))(nl:Bool)(hn:ls.length≤140737488355328)(hnl:nl=true→ls=[])(hls:∀x∈ls,x.length≤140737488355328):ay Pr 113 [.slice 1 nl (ls.map fun x=>[.str x]) none] (.int .i64 (wW [] ls)):=by
 refine gK Tryz.func113 Tryz.ntmps113 ?_
 refine aG 4 [0,5,6,7] ?_
 refine WP.lp [0,5,6] (X:={k:Nat // k≤ls.length∧wW [] ls=wW (ls.take k) (ls.drop k)}) (fun x=>match x with| ⟨(k),_⟩=>[(7,.int .i64 k)]) (fun x=>match x with| ⟨(k),_⟩=>[]) (fun x=>match x with| ⟨(k),_⟩=>ls.length - k) (by simp +decide only[W,↓reduceIte];rfl) ?_ ⟨(0),⟨ada _,by simp⟩⟩ ?_
 rotate_left
 ·exact OC
 rintro ⟨k,hk,hI⟩
 dsimp only
 simp only[abS,abT]
 refine aG 2 sD ?_
 refine WP.cond rfl (fun q1=>?_) (fun q1=>?_)
 ·have hlt:=aO q1
  have hg:(ls.map fun x=>[D.str x])[k]?=some [.str ls[k]]:=getM hlt
  have hnf:=aX hnl hlt
  rw[bZ hlt] at hI
  simp only[wW] at hI
  refine oC 5 sD q1 hg hnf ?_
  refine WP.S sD fun _ z=>?_
  simp +decide only[TF,↓reduceIte]
  have hck:=hls _ (adb hlt)
  refine aj.P (Tc _ (by assumption)) rfl rfl ?_
  simp +decide only[TF,↓reduceIte]
  apply z;clear z
  refine WP.cond rfl (fun q2=>?_) (fun q2=>?_)
  ·simp only[adh] at q2
   refine aJ 1 sD q2 ?_
   apply WP.ret
   exact Bv q2 hI
  simp only[afE] at q2
  refine aG 1 [] ?_
  refine WP.S sD fun _ z=>?_
  simp +decide only[TF,hk,q2,← List.map_take,↓reduceIte]
  refine aj.P (BZ (ls.take k) false ls[k] (by simp;omega) nofun) rfl rfl ?_
  simp +decide only[TF,↓reduceIte]
  apply z;clear z
  refine WP.cond rfl (fun q3=>?_) (fun q3=>?_)
  ·refine aJ 1 sD q3 ?_
   apply WP.ret
   exact Md q2 q3 hI
  refine aJ 2 [] q3 ?_
  show ∃y,_∧Weak _ _ _
  refine⟨⟨k+1,?_⟩,?_,Weak.nil ?_ ?_⟩
  ·exact⟨by omega,by first|(simpa [hk,q1,hg,hnf,q2,q3] using hI)|(simp_all;done)⟩
  ·dsimp only;omega
  ·simp[St.get,lk,Le.refl,hnf,aU hlt hn]
  simp[W]
 have hge:=aP q1
 rw[dR hge] at hI
 simp only[Ws] at hI
 refine aJ 2 sD q1 ?_
 apply WP.ret
 exact Bq hI
abbrev mP:List Nat:=[0,1,4,5,9,17,33]
theorem YG (ls:List (List UInt8))(nl:Bool)(hn:ls.length≤140737488355328)(hnl:nl=true→ls=[])(hls:∀x∈ls,x.length≤140737488355328):ay Pr 118 [.slice 1 nl (ls.map fun x=>[.str x]) none,.slice 0 true [] none] (.int .i64 (wW [] ls)):=by
 refine gK Tryz.func118 Tryz.ntmps118 ?_
 refine aG 4 [0,1,5] ?_
 refine WP.lp [0,1] (X:={k:Nat // k≤ls.length∧wW [] ls=wW (ls.take k) (ls.drop k)}) (fun x=>match x with| ⟨(k),_⟩=>[(5,.int .i64 k)]) (fun x=>match x with| ⟨(k),_⟩=>[]) (fun x=>match x with| ⟨(k),_⟩=>ls.length - k) (by simp +decide only[W,↓reduceIte];rfl) ?_ ⟨(0),⟨ada _,by simp⟩⟩ ?_
 rotate_left
 ·exact OC
 rintro ⟨k,hk,hI⟩
 dsimp only
 simp only[abS,abT]
 refine aG 2 mP ?_
 refine WP.cond rfl (fun q1=>?_) (fun q1=>?_)
 ·have hlt:=aO q1
  have hg:(ls.map fun x=>[D.str x])[k]?=some [.str ls[k]]:=getM hlt
  have hnf:=aX hnl hlt
  rw[bZ hlt] at hI
  simp only[wW] at hI
  refine aG 4 [] ?_
  refine WP.S mP fun _ z=>?_
  simp +decide only[TF,q1,hg,hnf,↓reduceIte]
  refine aj.P (zW ls[k] (hls _ (adb hlt))) rfl rfl ?_
  simp +decide only[TF,↓reduceIte]
  apply z;clear z
  refine WP.cond rfl (fun q2=>?_) (fun q2=>?_)
  ·simp only[adh] at q2
   refine aJ 1 mP q2 ?_
   apply WP.ret
   exact Bv q2 hI
  simp only[afE] at q2
  refine aG 1 [] ?_
  refine WP.D mP fun _ z=>?_
  simp +decide only[TF,hg,q2,↓reduceIte]
  refine aj.adH (aar [] true ls[k] (by simp) (by simp)) rfl ⟨Le.nil 0 1 none,Le.refl _,trivial⟩ (by simp[fg]) ?_
  refine ah.take 1 fun J hJ=>?_
  simp +decide only[TF,↓reduceIte]
  refine hJ _ _ ?_;clear hJ J
  refine ah.part 24 rfl (fun q3=>?_) (fun q3=>?_)
  ·simp +decide only[TF,q3,↓reduceIte]
   refine z _ _ (by kernel_rfl) ?_;clear z
   refine aG 2 mP ?_
   apply WP.ret
   exact Ends.P rfl (Le.of_eq (by simp_all[St.get]))
  simp +decide only[TF,hk,hg,q3,← List.map_take,↓reduceIte]
  refine aj.P (aar _ _ _ (by simp;omega) (by simp)) rfl rfl ?_
  simp +decide only[TF,↓reduceIte]
  refine z _ _ (by kernel_rfl) ?_;clear z
  refine WP.cond rfl (fun q4=>?_) (fun q4=>?_)
  ·refine aJ 1 mP q4 ?_
   apply WP.ret
   exact Md q2 q4 hI
  refine aJ 2 [] q4 ?_
  show ∃y,_∧Weak _ _ _
  refine⟨⟨k+1,?_⟩,?_,Weak.nil ?_ ?_⟩
  ·exact⟨by omega,by first|(simpa [hk,q1,hg,hnf,q2,q3,q4] using hI)|(simp_all;done)⟩
  ·dsimp only;omega
  ·simp[St.get,lk,Le.refl,hnf,aU hlt hn]
  simp[W]
 have hge:=aP q1
 rw[dR hge] at hI
 simp only[Ws] at hI
 refine aJ 2 mP q1 ?_
 apply WP.ret
 exact Bq hI
abbrev z_:List Nat:=[0,2,3,4,5,9,20]
theorem Aa (s:List UInt8)(hs:s.length≤1099511627776):ay Pr 79 [.str s] (.str (bG s)):=by
 refine ay.W Tryz.func79 Tryz.ntmps79 ?_
 simp only[aT]
 refine aG 5 [0,3,4] ?_
 refine WP.lp [0] (X:={k:Nat // k≤s.length}) (fun x=>match x with| ⟨(k),_⟩=>[(3,.slice 1 (bG (s.take k)).isEmpty (fK (bG (s.take k))) (some 0)),(4,.int .i64 k)]) (fun x=>match x with| ⟨(k),_⟩=>[(0,.aI 5 1 (bG (s.take k)).length)]) (fun x=>match x with| ⟨(k),_⟩=>s.length - k) (by simp +decide only[W,↓reduceIte];rfl) ?_ ⟨(0),ada _⟩ ?_
 rotate_left
 ·refine Weak.trans (Weak.ghost 0 5 1 (F':=[(4,.int .i64 0),(3,.slice 1 true [] (some 0)),(0,.str s)]) (σ':=[]) (by simp[lk]) (by simp[keep,ins,zO,wJ]) (by simp[BK])) ?_;exact Weak.store (by simp[St.get,lk,Le.refl,bG,fK]) (by simp[lk,bG]) (by simp[lk]) (by simp[aB]) (by simp)
 rintro ⟨k,hk⟩
 dsimp only
 simp only[abS,abT]
 refine aG 2 z_ ?_
 refine WP.cond rfl (fun q1=>?_) (fun q1=>?_)
 ·have hlt:=aO q1
  have hg:=kU hlt
  have hEl:=qP s hk
  refine jd 5 z_ q1 hg ?_
  refine WP.S z_ fun _ z=>?_
  refine ah.take 3 fun J hJ=>?_
  simp +decide only[TF,↓reduceIte]
  refine hJ _ _ ?_;clear hJ J
  refine ah.part 17 rfl (fun q2=>?_) (fun q2=>?_)
  ·simp +decide only[TF,q2,↓reduceIte]
   apply z;clear z
   refine WP.cond rfl (fun q3=>?_) (fun q3=>?_)
   ·have hup:=(aao (c:=s[k]) (by simp only[upperB];first|assumption|simp_all)).2
    refine jd 1 [] q3 hup ?_
    refine WP.R fun _ z=>?_
    simp +decide only[TF,fG,o_,↓reduceIte]
    refine⟨⟨by simp only[fG,hEl,abf,abN,acS];omega,by simp only[fG,hEl,abf,abN,acS];omega⟩,?_⟩
    apply z;clear z
    show WP ..
    refine aG 1 [] ?_
    show ∃y,_∧Weak _ _ _
    have hes:=Ns s hlt
    have hem:=TW s hlt
    have hel:=qP s (show k+1≤s.length from hlt)
    refine⟨⟨k+1,?_⟩,?_,?_⟩
    ·show k+1≤s.length;omega
    ·dsimp only;omega
    exact Weak.store (by simp[St.get,lk,Le.refl,-List.map_append,hes,hem,aU hlt (show s.length≤140737488355328 by omega)]) (by simp[lk,hes,hel,fG]) (by simp[lk]) (by simp[aB,lk]) (by simp[lk])
   have hno:=q3
   refine aG 1 [] ?_
   refine WP.R fun _ z=>?_
   simp +decide only[TF,q3,fG,o_,↓reduceIte]
   refine⟨⟨by simp only[fG,hEl,abf,abN,acS];omega,by simp only[fG,hEl,abf,abN,acS];omega⟩,?_⟩
   apply z;clear z
   show WP ..
   refine aG 1 [] ?_
   show ∃y,_∧Weak _ _ _
   have hes:=Ns s hlt
   have hem:=TW s hlt
   have hel:=qP s (show k+1≤s.length from hlt)
   have hlc:=TU (c:=s[k]) (by simp only[upperB,Bool.and_eq_false_iff,decide_eq_false_iff_not];have:=of_decide_eq_false hno;omega)
   rw[hlc] at hes
   refine⟨⟨k+1,?_⟩,?_,?_⟩
   ·show k+1≤s.length;omega
   ·dsimp only;omega
   exact Weak.store (by simp[St.get,lk,Le.refl,-List.map_append,hes,hem,aU hlt (show s.length≤140737488355328 by omega)]) (by simp[lk,hes,hel,fG]) (by simp[lk]) (by simp[aB,lk]) (by simp[lk])
  simp +decide only[TF,q2,↓reduceIte]
  apply z;clear z
  refine aG 2 [] ?_
  refine WP.R fun _ z=>?_
  simp +decide only[TF,fG,o_,↓reduceIte]
  refine⟨⟨by simp only[fG,hEl,abf,abN,acS];omega,by simp only[fG,hEl,abf,abN,acS];omega⟩,?_⟩
  apply z;clear z
  show WP ..
  refine aG 1 [] ?_
  show ∃y,_∧Weak _ _ _
  have hes:=Ns s hlt
  have hem:=TW s hlt
  have hel:=qP s (show k+1≤s.length from hlt)
  have hlc:=TU (c:=s[k]) (by simp only[upperB,Bool.and_eq_false_iff,decide_eq_false_iff_not];have:=of_decide_eq_false q2;omega)
  rw[hlc] at hes
  refine⟨⟨k+1,?_⟩,?_,?_⟩
  ·show k+1≤s.length;omega
  ·dsimp only;omega
  exact Weak.store (by simp[St.get,lk,Le.refl,-List.map_append,hes,hem,aU hlt (show s.length≤140737488355328 by omega)]) (by simp[lk,hes,hel,fG]) (by simp[lk]) (by simp[aB,lk]) (by simp[lk])
 have hge:=aP q1
 obtain rfl:k=s.length:=by omega
 rw[ajy]
 refine aJ 2 z_ q1 ?_
 apply WP.ret
 exact Ends.P rfl (Le.of_eq (by simp +decide only[St.get,W,↓reduceIte]))
theorem Eh {S:Nat→Prop}(a:At):∀d∈a.cs,bY S d:=by
 intro d hd
 simp only[At.cs,ael,akg,or_false] at hd
 rcases hd with rfl|rfl
 ·exact .str _
 ·refine .slice (fun e he d hd=>?_) (by simp)
  simp only[List.mem_map] at he
  obtain⟨x,_,rfl⟩:=he
  simp only[ad1] at hd;subst hd;exact .str _
@[simp] theorem apN {S:Nat→Prop}(l:List At):(∀(a:At),a∈l→∀(d:D),d∈a.cs→bY S d)↔True:=by
 simp only[iff_true]
 exact fun a _ d hd=>Eh a d hd
@[simp] theorem aoS {S:Nat→Prop}(l:List At)(k:Nat):(∀(e:List D),e∈List.take k (l.map At.cs)→∀(d:D),d∈e→bY S d)↔True:=by
 simp only[iff_true,← List.map_take,List.mem_map]
 rintro e ⟨a,_,rfl⟩ d hd
 exact Eh a d hd
def twB (pre:List At)(a:At):Bool:=pre.any fun b=>bG a.name == bG b.name
theorem Wu (pre:List At):AP pre []=0:=rfl
theorem Rh (pre:List At)(a:At)(l:List At):AP pre (a::l)=if nameB a.name=false then 5 else if twB pre a=true then 7 else if a.vals.isEmpty=true then 6 else if decide ((a.vals.length:Int)>16)=true then 3 else if (wW [] a.vals != 0)=true then wW [] a.vals else AP (pre++[a]) l:=by
 simp only[AP,atE,twB]
 repeat' split
 all_goals first|rfl|(simp_all;done)
theorem Jo {a:At}(h:a.ok):a.name.length≤140737488355328∧a.vals.length≤140737488355328∧(a.nl=true→a.vals=[])∧∀v∈a.vals,v.length≤140737488355328:=
 ⟨by have:=h.1;omega,by have:=h.2.1;omega,h.2.2.1,fun v hv=>by have:=h.2.2.2 v hv;omega⟩
theorem TY (l:List (List UInt8)):(((l.length:Nat):Int) == 0)=l.isEmpty:=by cases l <;> simp;omega
end Go.Proofs
