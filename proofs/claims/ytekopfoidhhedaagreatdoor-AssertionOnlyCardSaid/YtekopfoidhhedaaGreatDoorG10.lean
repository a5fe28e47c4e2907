import Derived.Test.YtekopfoidhhedaaGreatDoorG09
import Derived.Test.YtekopfoidhhedaaGreatDoorG04
import Derived.Test.YtekopfoidhhedaaGreatDoorG03
import Derived.Test.YtekopfoidhhedaaGreatDoorG05
import Derived.Test.YtekopfoidhhedaaGreatDoorG02
set_option linter.unusedVariables false
set_option linter.unusedSimpArgs false
set_option linter.unnecessarySimpa false
set_option maxRecDepth 10000
namespace Go.Proofs
open Go Go.Id
def rF (n:Int):Bool:=b_ n || iH n || n == 45
def ahp (s:List UInt8):Bool:=match s with| []=>false|c::_=>b_ c.toNat
def mM (s:List UInt8):Bool:=s.all (fun c=>rF c.toNat) && !(s == []) && decide ((s.length:Int)≤64)
def nameB (s:List UInt8):Bool:=mM s && ahp s
def BN (n:Int):Bool:=n == 45 || n == 95 || n == 46 || n == 58
def zQ (c:UInt8):UInt8:=if upperB c.toNat then c+32 else c
def bg (s:List UInt8):List UInt8:=s.map zQ
theorem tC (s:List UInt8):(bg s).length=s.length:=by simp[bg]
theorem aew:∀n:Nat,n<128→(decide (0≤Lib.indexByte [45,95,46,58] n.toUInt8))=BN n:=by decide +kernel
theorem YS (n:Int)(h0:0≤n)(h1:n<128):ak Pr 110 [.str [45,95,46,58],.int .i32 n] (.bool (BN n)):=
 .U3 (dF Tryz.func110 (by kernel_rfl) (by kernel_rfl)) fun M w b hb hI hn hM=>by
  obtain⟨⟨l⟩⟩:=b
  simp only at hb
  subst hb
  refine (Tryz.strings_ContainsRune_ascii _ n w h0 h1).mono ?_
  rintro e w' ⟨rfl,rfl⟩
  have:=aew n.toNat (by omega)
  rw[show ((n.toNat:Nat):Int)=n by omega] at this
  exact⟨_,rfl,.refl _ _,by rw[← this];exact .bool _⟩
theorem abo (n:Int)(h0:128≤n)(h1:n≤255):∃a b:UInt8,(Utf8.encode n).data.toList=[a,b]∧128≤b.toNat∧Lib.validRune n=true:=by
 obtain⟨m,rfl⟩:∃m:Nat,n=m:=⟨n.toNat,by omega⟩
 have hb:∀m:Nat,m<256→128≤m→(Utf8.encode (m:Int)).data.toList=[UInt8.ofNat (0xC0+m / 64),UInt8.ofNat (0x80+m % 64)]∧128≤(UInt8.ofNat (0x80+m % 64)).toNat∧Lib.validRune (m:Int)=true:=by decide +kernel
 obtain⟨h2,h3,h4⟩:=hb m (by omega) (by omega)
 exact⟨_,_,h2,h3,h4⟩
set_option maxRecDepth 10000
set_option maxHeartbeats 1000000
theorem TA:jJ Tryz.prog 21=some .i32:=by kernel_rfl
theorem LQ (n:Int):ak Pr 222 [.int .i32 n] (.bool (Lib.validRune n)):=
  .aiA (dF Tryz.func222 (by kernel_rfl) (by kernel_rfl)) fun M w hI hn hM=>by
    refine (Tryz.utf8_ValidRune n w).mono ?_
    rintro e w' ⟨rfl,rfl⟩
    exact⟨_,rfl,.refl _ _,.bool _⟩
theorem aex (n:Int)(h0:128≤n)(h1:n≤255):ak Pr 172 [.str [45,95,46,58],.int .i32 n] (.int .i64 (-1)):=by
 obtain⟨a,b,hab,hb,hv⟩:=abo n h0 h1
 have d1:decide (0≤n)=true:=by simp;omega
 have d2:decide (n<128)=false:=by simp;omega
 have d3:(n == 65533)=false:=by simp;omega
 have e1:((95:UInt8).toNat:Int)≠b.toNat:=by have:(95:UInt8).toNat=95:=rfl;omega
 have e2:(((95:UInt8).toNat:Int) == b.toNat)=false:=by simpa using e1
 have hw:IntKind.i64.wrap (((1+1:Nat):Int) - 1)=1:=by decide
 have e4:((((95:UInt8).toNat:Int)) != (b.toNat:Int))=true:=by simp only[bne,e2,Bool.not_false]
 have hw2:IntKind.i64.wrap ((1:Int)+1)=2:=by decide
 have e3:((95:Int) == (b.toNat:Int))=false:=by simp;omega
 have hix:Lib.indexByte [46,58] b.toNat.toUInt8=-1:=by
  have g1:¬(46:UInt8)=b:=fun e=>by subst e;revert hb;decide
  have g2:¬(58:UInt8)=b:=fun e=>by subst e;revert hb;decide
  simp[Lib.indexByte,g1,g2]
 refine ak.of_wp Tryz.func172 rfl (by kernel_rfl) Tryz.ntmps172 (by simp) ?_
 simp only[ay,Nat.zero_add]
 iterate 5 first|(refine WP.S [0,1,4,160,171,183] fun _ z=>?_;simp +decide only[TF,d1,d2,d3,↓reduceIte];apply z;clear z)|refine WP.cT ?_|refine WP.cF ?_|apply WP.block|apply WP.seq
 refine WP.cF ?_
 apply WP.seq
 refine WP.R fun _ z=>?_
 simp +decide only[TF,↓reduceIte]
 refine aj.P (LQ n) rfl rfl ?_
 simp +decide only[TF,hv,↓reduceIte]
 apply z;clear z
 show WP ..
 refine WP.cF ?_
 refine WP.scope ?_
 apply WP.seq
 refine WP.adO 1 (by kernel_rfl) rfl rfl rfl fun K hK=>?_
 simp +decide only[TF,↓reduceIte]
 refine hK _ _ ?_
 clear hK K
 refine⟨.i32,.i32,n,TA,pG,rfl,fun K hK=>?_⟩
 simp +decide only[TF,hab,↓reduceIte]
 refine hK _ _ ?_
 clear hK K
 show WP ..
 iterate 4 first|(refine WP.S [0,4,7,8,9,10] fun _ z=>?_;simp +decide only[TF,hw,↓reduceIte];apply z;clear z)|apply WP.seq
 refine WP.block ?_
 refine WP.loop (X:=Unit) (fun _=>⟨[(10,.int .i64 0),(9,.int .i64 1),(8,.int .i64 1),(7,.str [a,b]),(4,.int .i64 0),(0,.str [45,95,46,58])],[]⟩) (fun _=>0) (fun _=>?_) () ?_
 rotate_left
 · exact Weak.nil (by simp[St.get,lk,W,Le.refl,keep,ins]) (by simp[W])
 iterate 8 first|(refine WP.S [0,4,7,8,9,10,11,26,33,43] fun _ z=>?_;simp +decide only[TF,↓reduceIte];apply z;clear z)|(refine WP.D [0,4,7,8,9,10,11,33] fun _ z=>?_;simp +decide only[TF,e4,↓reduceIte];refine z _ _ (by kernel_rfl) ?_;clear z)|refine WP.cT ?_|(apply WP.skip;show WP ..)|apply WP.seq|apply WP.block|refine WP.scope ?_
 refine WP.cT ?_
 apply WP.seq
 refine WP.E fun _ z=>?_
 simp +decide only[TF,hw2,↓reduceIte]
 refine aj.P (nH [46,58] b.toNat) rfl rfl ?_
 simp +decide only[TF,hix,↓reduceIte]
 refine z _ _ (by kernel_rfl) ?_
 clear z
 show WP ..
 iterate 4 first|(refine WP.S [4,43] fun _ z=>?_;simp +decide only[TF,↓reduceIte];apply z;clear z)|refine WP.cT ?_|apply WP.seq
 apply WP.ret
 exact Ends.P rfl (Le.of_eq (by simp[St.get,W]))
theorem abp (n:Int)(h0:128≤n)(h1:n≤255):ak Pr 110 [.str [45,95,46,58],.int .i32 n] (.bool false):=by
 refine ak.of_wp Tryz.func110 rfl (by kernel_rfl) Tryz.ntmps110 (by simp) ?_
 simp only[ay,Nat.zero_add]
 refine WP.S [0,1,4] fun _ z=>?_;simp +decide only[TF,↓reduceIte];apply z;clear z
 apply WP.seq
 refine WP.R fun _ z=>?_
 simp +decide only[TF,↓reduceIte]
 refine aj.P (aex n h0 h1) rfl rfl ?_
 simp +decide only[TF,↓reduceIte]
 apply z;clear z
 apply WP.ret
 exact Ends.P rfl (Le.of_eq (by simp[St.get,lk]))
theorem aey (c:UInt8):ak Pr 110 [.str [45,95,46,58],.int .i32 c.toNat] (.bool (BN c.toNat)):=by
 have hc:=c.toNat_lt
 by_cases h:c.toNat<128
 · exact YS _ (by omega) (by omega)
 · have:BN c.toNat=false:=by simp[BN];omega
   rw[this]
   exact abp _ (by omega) (by omega)
theorem og (c:UInt8):ak Pr 110 [.str [45,95,46,58],.int .i32 (IntKind.i32.wrap c.toNat)] (.bool (BN c.toNat)):=by
 have:∀m:Nat,m<256→IntKind.i32.wrap (m:Int)=m:=by decide +kernel
 rw[this _ c.toNat_lt]
 exact aey c
set_option maxHeartbeats 4000000
theorem jC (s:List UInt8)(hs:s.length≤140737488355328):ak Pr 56 [.str s] (.bool (aX s)):=by
 refine ak.W Tryz.func56 Tryz.ntmps56 ?_
 simp only[ay]
 iterate 2 first|(refine WP.S [0,2,3,4,6,7,8] fun _ z=>?_;simp +decide only[TF,↓reduceIte];apply z;clear z)|apply WP.seq
 refine WP.S [0,6,7] fun _ z=>?_;simp +decide only[TF,↓reduceIte];apply z;clear z
 apply WP.block
 refine WP.lp [0,6] (X:={k:Nat // k≤s.length∧aX s=((s.drop k).all (fun c=>dO c.toNat) && !(s == []) && decide ((s.length:Int)≤64))}) (fun x=>match x with| ⟨(k),_⟩=>[(7,.int .i64 k)]) (fun x=>match x with| ⟨(k),_⟩=>[]) (fun x=>match x with| ⟨(k),_⟩=>s.length - k) (by simp +decide only[W,↓reduceIte];rfl) ?_ ⟨(0),⟨Nat.zero_le _,by simp[aX]⟩⟩ ?_
 rotate_left
 ·exact Weak.nil (by simp[St.get,lk,W,Le.refl,W]) (by simp[W])
 rintro ⟨k,hk,hI⟩
 dsimp only
 simp only[List.cons_append,List.nil_append]
 iterate 2 first|(refine WP.S [0,2,3,4,6,7,8] fun _ z=>?_;simp +decide only[TF,↓reduceIte];apply z;clear z)|apply WP.seq
 refine WP.cond rfl (fun q1=>?_) (fun q1=>?_)
 ·have hlt:=aK q1
  have hg:=j_ hlt
  rw[dI hlt] at hI
  simp only[List.all_cons] at hI
  iterate 4 first|(refine WP.S [0,2,3,4,6,7,8] fun _ z=>?_;simp +decide only[TF,q1,↓reduceIte];apply z;clear z)|(apply WP.skip;show WP ..)|apply WP.block|apply WP.seq
  refine WP.S [0,4,6,7] fun _ z=>?_;simp +decide only[TF,hg,↓reduceIte];apply z;clear z
  refine WP.sm [0,6,7] 40 (.bool (!(dO s[k].toNat))) (by kernel_rfl) (fun K hK=>?_) ?_
  ·refine ah.take 3 fun J hJ=>?_
   simp +decide only[TF,↓reduceIte]
   refine hJ _ _ ?_;clear hJ J
   refine ah.part 15 rfl (fun q2=>?_) (fun q2=>?_)
   ·refine ah.take 7 fun J hJ=>?_
    simp +decide only[TF,q2,↓reduceIte]
    refine hJ _ _ ?_;clear hJ J
    refine ah.part 22 rfl (fun q3=>?_) (fun q3=>?_)
    ·refine ah.take 8 fun J hJ=>?_
     simp +decide only[TF,q3,↓reduceIte]
     refine hJ _ _ ?_;clear hJ J
     refine ah.part 30 rfl (fun q4=>?_) (fun q4=>?_)
     ·simp +decide only[TF,q4,↓reduceIte]
      refine aj.P (og _) rfl rfl ?_
      simp +decide only[TF,↓reduceIte]
      exact hK _ _ (by simp[St.get,lk,W]) rfl (Le.of_eq (by simp_all[St.get,lk,W,dO,b_,upperB,iH,BN];rw[Bool.eq_iff_iff];simp;try omega))
     refine ah.take 5 fun J hJ=>?_
     simp +decide only[TF,q4,↓reduceIte]
     refine hJ _ _ ?_;clear hJ J
     refine ah.part 35 rfl (fun q5=>?_) (fun q5=>?_)
     ·simp +decide only[TF,q5,↓reduceIte]
      refine aj.P (og _) rfl rfl ?_
      simp +decide only[TF,↓reduceIte]
      exact hK _ _ (by simp[St.get,lk,W]) rfl (Le.of_eq (by simp_all[St.get,lk,W,dO,b_,upperB,iH,BN];rw[Bool.eq_iff_iff];simp;try omega))
     simp +decide only[TF,q5,↓reduceIte]
     exact hK _ _ (by simp[St.get,lk,W]) rfl (Le.of_eq (by simp_all[St.get,lk,W,dO,b_,upperB,iH]))
    refine ah.take 5 fun J hJ=>?_
    simp +decide only[TF,q3,↓reduceIte]
    refine hJ _ _ ?_;clear hJ J
    refine ah.part 27 rfl (fun q6=>?_) (fun q6=>?_)
    ·refine ah.take 3 fun J hJ=>?_
     simp +decide only[TF,q6,↓reduceIte]
     refine hJ _ _ ?_;clear hJ J
     refine ah.part 30 rfl (fun q7=>?_) (fun q7=>?_)
     ·simp +decide only[TF,q7,↓reduceIte]
      refine aj.P (og _) rfl rfl ?_
      simp +decide only[TF,↓reduceIte]
      exact hK _ _ (by simp[St.get,lk,W]) rfl (Le.of_eq (by simp_all[St.get,lk,W,dO,b_,upperB,iH,BN];rw[Bool.eq_iff_iff];simp;try omega))
     refine ah.take 5 fun J hJ=>?_
     simp +decide only[TF,q7,↓reduceIte]
     refine hJ _ _ ?_;clear hJ J
     refine ah.part 35 rfl (fun q8=>?_) (fun q8=>?_)
     ·simp +decide only[TF,q8,↓reduceIte]
      refine aj.P (og _) rfl rfl ?_
      simp +decide only[TF,↓reduceIte]
      exact hK _ _ (by simp[St.get,lk,W]) rfl (Le.of_eq (by simp_all[St.get,lk,W,dO,b_,upperB,iH,BN];rw[Bool.eq_iff_iff];simp;try omega))
     simp +decide only[TF,q8,↓reduceIte]
     exact hK _ _ (by simp[St.get,lk,W]) rfl (Le.of_eq (by simp_all[St.get,lk,W,dO,b_,upperB,iH]))
    simp +decide only[TF,q6,↓reduceIte]
    exact hK _ _ (by simp[St.get,lk,W]) rfl (Le.of_eq (by simp_all[St.get,lk,W,dO,b_,upperB,iH]))
   refine ah.take 4 fun J hJ=>?_
   simp +decide only[TF,q2,↓reduceIte]
   refine hJ _ _ ?_;clear hJ J
   refine ah.part 19 rfl (fun q9=>?_) (fun q9=>?_)
   ·refine ah.take 3 fun J hJ=>?_
    simp +decide only[TF,q9,↓reduceIte]
    refine hJ _ _ ?_;clear hJ J
    refine ah.part 22 rfl (fun q10=>?_) (fun q10=>?_)
    ·refine ah.take 8 fun J hJ=>?_
     simp +decide only[TF,q10,↓reduceIte]
     refine hJ _ _ ?_;clear hJ J
     refine ah.part 30 rfl (fun q11=>?_) (fun q11=>?_)
     ·simp +decide only[TF,q11,↓reduceIte]
      refine aj.P (og _) rfl rfl ?_
      simp +decide only[TF,↓reduceIte]
      exact hK _ _ (by simp[St.get,lk,W]) rfl (Le.of_eq (by simp_all[St.get,lk,W,dO,b_,upperB,iH,BN];rw[Bool.eq_iff_iff];simp;try omega))
     refine ah.take 5 fun J hJ=>?_
     simp +decide only[TF,q11,↓reduceIte]
     refine hJ _ _ ?_;clear hJ J
     refine ah.part 35 rfl (fun q12=>?_) (fun q12=>?_)
     ·simp +decide only[TF,q12,↓reduceIte]
      refine aj.P (og _) rfl rfl ?_
      simp +decide only[TF,↓reduceIte]
      exact hK _ _ (by simp[St.get,lk,W]) rfl (Le.of_eq (by simp_all[St.get,lk,W,dO,b_,upperB,iH,BN];rw[Bool.eq_iff_iff];simp;try omega))
     simp +decide only[TF,q12,↓reduceIte]
     exact hK _ _ (by simp[St.get,lk,W]) rfl (Le.of_eq (by simp_all[St.get,lk,W,dO,b_,upperB,iH]))
    refine ah.take 5 fun J hJ=>?_
    simp +decide only[TF,q10,↓reduceIte]
    refine hJ _ _ ?_;clear hJ J
    refine ah.part 27 rfl (fun q13=>?_) (fun q13=>?_)
    ·refine ah.take 3 fun J hJ=>?_
     simp +decide only[TF,q13,↓reduceIte]
     refine hJ _ _ ?_;clear hJ J
     refine ah.part 30 rfl (fun q14=>?_) (fun q14=>?_)
     ·simp +decide only[TF,q14,↓reduceIte]
      refine aj.P (og _) rfl rfl ?_
      simp +decide only[TF,↓reduceIte]
      exact hK _ _ (by simp[St.get,lk,W]) rfl (Le.of_eq (by simp_all[St.get,lk,W,dO,b_,upperB,iH,BN];rw[Bool.eq_iff_iff];simp;try omega))
     refine ah.take 5 fun J hJ=>?_
     simp +decide only[TF,q14,↓reduceIte]
     refine hJ _ _ ?_;clear hJ J
     refine ah.part 35 rfl (fun q15=>?_) (fun q15=>?_)
     ·simp +decide only[TF,q15,↓reduceIte]
      refine aj.P (og _) rfl rfl ?_
      simp +decide only[TF,↓reduceIte]
      exact hK _ _ (by simp[St.get,lk,W]) rfl (Le.of_eq (by simp_all[St.get,lk,W,dO,b_,upperB,iH,BN];rw[Bool.eq_iff_iff];simp;try omega))
     simp +decide only[TF,q15,↓reduceIte]
     exact hK _ _ (by simp[St.get,lk,W]) rfl (Le.of_eq (by simp_all[St.get,lk,W,dO,b_,upperB,iH]))
    simp +decide only[TF,q13,↓reduceIte]
    exact hK _ _ (by simp[St.get,lk,W]) rfl (Le.of_eq (by simp_all[St.get,lk,W,dO,b_,upperB,iH]))
   simp +decide only[TF,q9,↓reduceIte]
   exact hK _ _ (by simp[St.get,lk,W]) rfl (Le.of_eq (by simp_all[St.get,lk,W,dO,b_,upperB,iH]))
  refine WP.cond rfl (fun q16=>?_) (fun q16=>?_)
  ·refine WP.S [0,2,3,4,6,7,8] fun _ z=>?_;simp +decide only[TF,q16,↓reduceIte];apply z;clear z
   apply WP.ret
   exact Ends.P rfl (Le.of_eq (by simp_all[St.get,W,aX]))
  iterate 2 first|(refine WP.R fun _ z=>?_;simp +decide only[TF,q16,↓reduceIte];apply z;clear z)|(apply WP.skip;show WP ..)
  show ∃y,_∧Weak _ _ _
  refine⟨⟨k+1,?_⟩,?_,Weak.nil ?_ ?_⟩
  ·exact⟨by omega,by first|(simpa [q1,hg,q16] using hI)|(simp_all;done)⟩
  ·dsimp only;omega
  ·simp[St.get,lk,Le.refl,aT hlt hs]
  simp[W]
 have hge:=aN q1
 rw[eP hge] at hI
 simp only[List.all_nil,Bool.true_and] at hI
 apply WP.exit;show WP ..
 refine WP.S [0,2,3,4,6,7,8] fun _ z=>?_
 refine ah.take 4 fun J hJ=>?_
 simp +decide only[TF,q1,↓reduceIte]
 refine hJ _ _ ?_;clear hJ J
 refine ah.part 45 rfl (fun q17=>?_) (fun q17=>?_)
 ·simp +decide only[TF,q17,↓reduceIte]
  apply z;clear z
  apply WP.ret
  exact Ends.P rfl (Le.of_eq (by simp_all[St.get,W,LN,aX]))
 simp +decide only[TF,q17,↓reduceIte]
 apply z;clear z
 apply WP.ret
 exact Ends.P rfl (Le.of_eq (by simp_all[St.get,W,LN,aX]))
abbrev jV:List Nat:=[0,2,3,5,6,7,18]
theorem TB (s:List UInt8)(hs:s.length≤140737488355328):ak Pr 57 [.str s] (.bool (bK s)):=by
 refine ak.W Tryz.func57 Tryz.ntmps57 ?_
 simp only[ay]
 iterate 2 first|(refine WP.S jV fun _ z=>?_;simp +decide only[TF,↓reduceIte];apply z;clear z)|apply WP.seq
 refine WP.S [0,5,6] fun _ z=>?_;simp +decide only[TF,↓reduceIte];apply z;clear z
 apply WP.block
 refine WP.lp [0,5] (X:={k:Nat // k≤s.length∧bK s=((s.drop k).all (fun c=>nX c.toNat) && !(s == []) && decide ((s.length:Int)≤256) && endsB s)}) (fun x=>match x with| ⟨(k),_⟩=>[(6,.int .i64 k)]) (fun x=>match x with| ⟨(k),_⟩=>[]) (fun x=>match x with| ⟨(k),_⟩=>s.length - k) (by simp +decide only[W,↓reduceIte];rfl) ?_ ⟨(0),⟨Nat.zero_le _,by simp[bK]⟩⟩ ?_
 rotate_left
 ·exact Weak.nil (by simp[St.get,lk,W,Le.refl,W]) (by simp[W])
 rintro ⟨k,hk,hI⟩
 dsimp only
 simp only[List.cons_append,List.nil_append]
 iterate 2 first|(refine WP.S jV fun _ z=>?_;simp +decide only[TF,↓reduceIte];apply z;clear z)|apply WP.seq
 refine WP.cond rfl (fun q1=>?_) (fun q1=>?_)
 ·have hlt:=aK q1
  have hg:=j_ hlt
  rw[dI hlt] at hI
  simp only[List.all_cons] at hI
  iterate 4 first|(refine WP.S jV fun _ z=>?_;simp +decide only[TF,q1,↓reduceIte];apply z;clear z)|(apply WP.skip;show WP ..)|apply WP.block|apply WP.seq
  refine WP.S jV fun _ z=>?_
  refine ah.take 5 fun J hJ=>?_
  simp +decide only[TF,hg,↓reduceIte]
  refine hJ _ _ ?_;clear hJ J
  refine ah.part 13 rfl (fun q2=>?_) (fun q2=>?_)
  ·simp +decide only[TF,q2,↓reduceIte]
   apply z;clear z
   iterate 2 first|(refine WP.S jV fun _ z=>?_;simp +decide only[TF,↓reduceIte];apply z;clear z)|refine WP.cT ?_
   apply WP.ret
   exact Ends.P rfl (Le.of_eq (by first|(simp +decide only[St.get,W,endsB,nX,hI,↓reduceIte];done)|(simp[St.get,W,endsB,nX,hI];done)|(simp_all[St.get,W,endsB,nX];done)|(simp_all[St.get,W,endsB,nX];intros;first|omega|(rw[Bool.eq_iff_iff];simp;try omega);done)))
  simp +decide only[TF,hg,q2,↓reduceIte]
  apply z;clear z
  refine WP.cond rfl (fun q3=>?_) (fun q3=>?_)
  ·refine WP.S jV fun _ z=>?_;simp +decide only[TF,q3,↓reduceIte];apply z;clear z
   apply WP.ret
   exact Ends.P rfl (Le.of_eq (by first|(simp +decide only[St.get,W,endsB,nX,hI,↓reduceIte];done)|(simp[St.get,W,endsB,nX,hI];done)|(simp_all[St.get,W,endsB,nX];done)|(simp_all[St.get,W,endsB,nX];intros;first|omega|(rw[Bool.eq_iff_iff];simp;try omega);done)))
  iterate 2 first|(refine WP.R fun _ z=>?_;simp +decide only[TF,q3,↓reduceIte];apply z;clear z)|(apply WP.skip;show WP ..)
  show ∃y,_∧Weak _ _ _
  have hc:nX ↑s[k].toNat=true:=by have:=of_decide_eq_false q2;have:=of_decide_eq_false q3;simp[nX];omega
  rw[hc,Bool.true_and] at hI
  refine⟨⟨k+1,⟨by omega,hI⟩⟩,?_,Weak.nil ?_ ?_⟩
  ·dsimp only;omega
  ·simp[St.get,lk,Le.refl,aT hlt hs]
  simp[W]
 have hge:=aN q1
 rw[eP hge] at hI
 simp only[List.all_nil,Bool.true_and] at hI
 apply WP.exit;show WP ..
 refine WP.S jV fun _ z=>?_
 refine ah.take 4 fun J hJ=>?_
 simp +decide only[TF,q1,↓reduceIte]
 refine hJ _ _ ?_;clear hJ J
 refine ah.part 23 rfl (fun q4=>?_) (fun q4=>?_)
 ·have hne:0<s.length:=by have:=of_decide_eq_true q4;omega
  have h0:=j_ hne
  have h0c:=yc hne
  have hnn:(s == [])=false:=by cases s <;> simp at hne ⊢
  refine ah.take 5 fun J hJ=>?_
  simp +decide only[TF,q4,↓reduceIte]
  refine hJ _ _ ?_;clear hJ J
  refine ah.part 28 rfl (fun q5=>?_) (fun q5=>?_)
  ·have hw:=aax hne hs
   have hl:=j_ (show s.length - 1<s.length by omega)
   have hlc:=yc (show s.length - 1<s.length by omega)
   refine ah.take 5 fun J hJ=>?_
   simp +decide only[TF,h0,q5,↓reduceIte]
   refine hJ _ _ ?_;clear hJ J
   refine ah.part 33 rfl (fun q6=>?_) (fun q6=>?_)
   ·simp +decide only[TF,hw,hl,q6,↓reduceIte]
    apply z;clear z
    apply WP.ret
    exact Ends.P rfl (Le.of_eq (by simp_all[St.get,W,LN,bne,endsB]))
   simp +decide only[TF,q6,↓reduceIte]
   apply z;clear z
   apply WP.ret
   exact Ends.P rfl (Le.of_eq (by simp_all[St.get,W,LN,bne,endsB]))
  simp +decide only[TF,q5,↓reduceIte]
  apply z;clear z
  apply WP.ret
  exact Ends.P rfl (Le.of_eq (by simp +decide only[St.get,W,endsB,h0c,hnn,q5,hI,↓reduceIte]))
 have hz:s=[]:=by cases s with|nil=>rfl|cons=>(simp at q4;try omega)
 simp +decide only[TF,hz,↓reduceIte]
 apply z;clear z
 apply WP.ret
 exact Ends.P rfl (Le.of_eq (by simp_all[St.get,W,endsB]))
theorem ahq (n:Int):ak Pr 174 [.int .u8 n] (.bool (rF n)):=by
 refine ak.W Tryz.func174 Tryz.ntmps174 ?_
 simp only[ay]
 refine WP.S [0,2] fun _ z=>?_;simp +decide only[TF,↓reduceIte];apply z;clear z
 refine WP.S [0,2] fun _ z=>?_
 simp +decide only[TF,↓reduceIte]
 refine aj.P (Jy _) rfl rfl ?_
 refine ah.take 1 fun J hJ=>?_
 simp +decide only[TF,↓reduceIte]
 refine hJ _ _ ?_;clear hJ J
 refine ah.part 5 rfl (fun q1=>?_) (fun q1=>?_)
 ·simp +decide only[TF,q1,↓reduceIte]
  apply z;clear z
  apply WP.ret
  exact Ends.P rfl (Le.of_eq (by simp +decide only[St.get,W,rF,q1,↓reduceIte]))
 simp +decide only[TF,q1,↓reduceIte]
 refine aj.P (WU _) rfl rfl ?_
 refine ah.take 2 fun J hJ=>?_
 simp +decide only[TF,↓reduceIte]
 refine hJ _ _ ?_;clear hJ J
 refine ah.part 9 rfl (fun q2=>?_) (fun q2=>?_)
 ·simp +decide only[TF,q2,↓reduceIte]
  apply z;clear z
  apply WP.ret
  exact Ends.P rfl (Le.of_eq (by simp +decide only[St.get,W,rF,q1,q2,↓reduceIte]))
 simp +decide only[TF,q2,↓reduceIte]
 apply z;clear z
 apply WP.ret
 exact Ends.P rfl (Le.of_eq (by simp +decide only[St.get,W,rF,q1,q2,↓reduceIte]))
abbrev lG:List Nat:=[0,1,4,5,7,8,9,16]
theorem TD (s:List UInt8)(hs:s.length≤140737488355328):ak Pr 173 [.str s,.fn (.func 174) [] []] (.bool (mM s)):=by
 refine ak.W Tryz.func173 Tryz.ntmps173 ?_
 simp only[ay,Nat.zero_add]
 iterate 2 first|(refine WP.S lG fun _ z=>?_;simp +decide only[TF,↓reduceIte];apply z;clear z)|apply WP.seq
 refine WP.S [0,1,7,8] fun _ z=>?_;simp +decide only[TF,↓reduceIte];apply z;clear z
 apply WP.block
 refine WP.lp [0,1,7] (X:={k:Nat // k≤s.length∧mM s=((s.drop k).all (fun c=>rF c.toNat) && !(s == []) && decide ((s.length:Int)≤64))}) (fun x=>match x with| ⟨(k),_⟩=>[(8,.int .i64 k)]) (fun x=>match x with| ⟨(k),_⟩=>[]) (fun x=>match x with| ⟨(k),_⟩=>s.length - k) (by simp +decide only[W,↓reduceIte];rfl) ?_ ⟨(0),⟨Nat.zero_le _,by simp[mM]⟩⟩ ?_
 rotate_left
 ·exact Weak.nil (by simp[St.get,lk,W,Le.refl,W]) (by simp[W])
 rintro ⟨k,hk,hI⟩
 dsimp only
 simp only[List.cons_append,List.nil_append]
 iterate 2 first|(refine WP.S lG fun _ z=>?_;simp +decide only[TF,↓reduceIte];apply z;clear z)|apply WP.seq
 refine WP.cond rfl (fun q1=>?_) (fun q1=>?_)
 ·have hlt:=aK q1
  have hg:=j_ hlt
  rw[dI hlt] at hI
  simp only[List.all_cons] at hI
  iterate 4 first|(refine WP.S lG fun _ z=>?_;simp +decide only[TF,q1,↓reduceIte];apply z;clear z)|(apply WP.skip;show WP ..)|apply WP.block|apply WP.seq
  refine WP.S lG fun _ z=>?_
  simp +decide only[TF,hg,↓reduceIte]
  refine aj.P (ahq _) rfl rfl ?_
  simp +decide only[TF,↓reduceIte]
  apply z;clear z
  refine WP.cond rfl (fun q2=>?_) (fun q2=>?_)
  ·simp only[Bool.not_eq_true'] at q2
   refine WP.S lG fun _ z=>?_;simp +decide only[TF,q2,↓reduceIte];apply z;clear z
   apply WP.ret
   exact Ends.P rfl (Le.of_eq (by simp_all[St.get,W,mM]))
  simp only[Bool.not_eq_false'] at q2
  iterate 2 first|(refine WP.R fun _ z=>?_;simp +decide only[TF,q2,↓reduceIte];apply z;clear z)|(apply WP.skip;show WP ..)
  show ∃y,_∧Weak _ _ _
  refine⟨⟨k+1,?_⟩,?_,Weak.nil ?_ ?_⟩
  ·exact⟨by omega,by first|(simpa [q1,hg,q2] using hI)|(simp_all;done)⟩
  ·dsimp only;omega
  ·simp[St.get,lk,Le.refl,aT hlt hs]
  simp[W]
 have hge:=aN q1
 rw[eP hge] at hI
 simp only[List.all_nil,Bool.true_and] at hI
 apply WP.exit;show WP ..
 refine WP.S lG fun _ z=>?_
 refine ah.take 3 fun J hJ=>?_
 simp +decide only[TF,q1,↓reduceIte]
 refine hJ _ _ ?_;clear hJ J
 refine ah.part 20 rfl (fun q3=>?_) (fun q3=>?_)
 ·simp +decide only[TF,q3,↓reduceIte]
  apply z;clear z
  apply WP.ret
  exact Ends.P rfl (Le.of_eq (by simp_all[St.get,W,mM]))
 simp +decide only[TF,q3,↓reduceIte]
 apply z;clear z
 apply WP.ret
 exact Ends.P rfl (Le.of_eq (by simp +decide only[St.get,W,mM,q3,↓reduceIte]))
def qH (s:List UInt8)(k:Nat):List D:=(bg (s.take k)++s.drop k).map fun c=> .int .u8 c.toNat
theorem JW {S:Nat→Prop}(s:List UInt8)(k:Nat):(∀d∈qH s k,cZ S d)↔True:=by
 simp only[iff_true,qH,List.mem_map]
 rintro d ⟨c,_,rfl⟩
 exact .int _ _
theorem abq (s:List UInt8)(k:Nat):(qH s k).length=s.length:=by simp[qH,bg];omega
theorem ahr (s:List UInt8):qH s 0=s.map fun c=> .int .u8 c.toNat:=by simp[qH,bg]
theorem abr (s:List UInt8):qH s s.length=(bg s).map fun c=> .int .u8 c.toNat:=by simp[qH]
theorem DV (s:List UInt8){k:Nat}(h:k<s.length):(qH s k).drop k= .int .u8 s[k].toNat::(s.drop (k+1)).map fun c=> .int .u8 c.toNat:=by
 have e:(bg (s.take k)).length=k:=by rw[tC,List.length_take];omega
 rw[qH,List.map_append,List.drop_append_of_le_length (by simp[e]),List.drop_of_length_le (by simp[e]),List.nil_append,dI h,List.map_cons]
theorem JX (s:List UInt8){k:Nat}(h:k<s.length):bg (s.take (k+1))=bg (s.take k)++[zQ s[k]]:=by
 simp only[bg,List.take_add_one,List.map_append,List.getElem?_eq_getElem h,Option.toList_some,List.map_cons,List.map_nil]
theorem Oj (s:List UInt8){k:Nat}(h:k<s.length):qH s (k+1)=(qH s k).take k++[.int .u8 (zQ s[k]).toNat]++(qH s k).drop (k+1):=by
 have e:(bg (s.take k)).length=k:=by rw[tC,List.length_take];omega
 have e1:(qH s k).take k=(bg (s.take k)).map fun c=> .int .u8 c.toNat:=by
  rw[qH,List.map_append,List.take_append_of_le_length (by simp[e]),List.take_of_length_le (by simp[e])]
 have e2:(qH s k).drop (k+1)=(s.drop (k+1)).map fun c=> .int .u8 c.toNat:=by
  rw[← List.drop_drop,DV s h,List.drop_succ_cons,List.drop_zero]
 rw[e1,e2,qH,JX s h]
 simp
theorem Xw {c:UInt8}(h:upperB c.toNat=true):IntKind.u8.wrap ((c.toNat:Int)+32)=(zQ c).toNat∧IntKind.u8.wrap (IntKind.u8.wrap ((c.toNat:Int)+97) - 65)=(zQ c).toNat:=by
 have key:∀m:Nat,m<256→upperB (m:Int)=true→IntKind.u8.wrap ((m:Int)+32)=(zQ (UInt8.ofNat m)).toNat∧IntKind.u8.wrap (IntKind.u8.wrap ((m:Int)+97) - 65)=(zQ (UInt8.ofNat m)).toNat:=by decide +kernel
 have:=key c.toNat c.toNat_lt h
 simpa using this
theorem P_ {c:UInt8}(h:upperB c.toNat=false):zQ c=c:=by simp[zQ,h]
theorem YT (s:List UInt8){k:Nat}(h:k<s.length)(hu:upperB s[k].toNat=false):qH s (k+1)=qH s k:=by
 have e:=DV s h
 rw[Oj s h,P_ hu]
 have e2:(qH s k).drop (k+1)=(s.drop (k+1)).map fun c=> .int .u8 c.toNat:=by rw[← List.drop_drop,e,List.drop_succ_cons,List.drop_zero]
 rw[List.append_assoc,List.singleton_append,e2,← e,List.take_append_drop]
structure At where
 name:List UInt8
 nl:Bool
 vals:List (List UInt8)
def At.cs (a:At):List D:=[.str a.name,.slice 1 a.nl (a.vals.map fun x=>[.str x]) none]
def At.ok (a:At):Prop:=a.name.length≤1099511627776∧a.vals.length≤1099511627776∧(a.nl=true→a.vals=[])∧∀v∈a.vals,v.length≤1099511627776
def uO (pre:List (List UInt8)):List (List UInt8)→Int
 | []=>0
 |v::l=>if bK v=false then 4 else if pre.contains v=true then 7 else uO (pre++[v]) l
def atE (pre:List At)(a:At):Int:=
 if nameB a.name=false then 5 else if (pre.any fun b=>bg a.name == bg b.name)=true then 7 else if a.vals.isEmpty=true then 6 else if decide ((a.vals.length:Int)>16)=true then 3 else uO [] a.vals
def yP (pre:List At):List At→Int
 | []=>0
 |a::l=>if atE pre a≠0 then atE pre a else yP (pre++[a]) l
def eF (l:List At):Int:=if decide ((l.length:Int)>32)=true then 3 else yP [] l
theorem ahs (s:List UInt8)(hs:s.length≤140737488355328):ak Pr 111 [.str s] (.bool (nameB s)):=by
 refine ak.W Tryz.func111 Tryz.ntmps111 ?_
 simp only[ay]
 refine WP.S [0,2] fun _ z=>?_;simp +decide only[TF,↓reduceIte];apply z;clear z
 refine WP.S [0,2] fun _ z=>?_
 simp +decide only[TF,↓reduceIte]
 refine aj.P (TD _ (by assumption)) rfl rfl ?_
 refine ah.take 1 fun J hJ=>?_
 simp +decide only[TF,↓reduceIte]
 refine hJ _ _ ?_;clear hJ J
 refine ah.part 5 rfl (fun q1=>?_) (fun q1=>?_)
 ·have hne:0<s.length:=by cases s with|nil=>simp[mM] at q1|cons=>simp
  have h0:=j_ hne
  have hf:ahp s=b_ s[0].toNat:=by cases s with|nil=>simp at hne|cons=>rfl
  simp +decide only[TF,q1,h0,↓reduceIte]
  refine aj.P (Jy _) rfl rfl ?_
  simp +decide only[TF,↓reduceIte]
  apply z;clear z
  apply WP.ret
  exact Ends.P rfl (Le.of_eq (by simp +decide only[St.get,W,nameB,q1,hf,↓reduceIte]))
 simp +decide only[TF,q1,↓reduceIte]
 apply z;clear z
 apply WP.ret
 exact Ends.P rfl (Le.of_eq (by simp +decide only[St.get,W,nameB,q1,↓reduceIte]))
abbrev oh:List Nat:=[0,2,3,17,21]
theorem abt (s:List UInt8)(hs:s.length≤140737488355328):ak Pr 116 [.str s] (.bool (nameB s)):=by
 refine ak.W Tryz.func116 Tryz.ntmps116 ?_
 simp only[ay]
 iterate 2 first|(refine WP.S oh fun _ z=>?_;simp +decide only[TF,↓reduceIte];apply z;clear z)|apply WP.seq
 refine WP.S oh fun _ z=>?_
 refine ah.take 4 fun J hJ=>?_
 simp +decide only[TF,↓reduceIte]
 refine hJ _ _ ?_;clear hJ J
 refine ah.part 7 rfl (fun q1=>?_) (fun q1=>?_)
 ·have hz:s=[]:=by cases s with|nil=>rfl|cons=>(simp at q1;try omega)
  simp +decide only[TF,hz,↓reduceIte]
  apply z;clear z
  iterate 2 first|(refine WP.S oh fun _ z=>?_;simp +decide only[TF,↓reduceIte];apply z;clear z)|refine WP.cT ?_
  apply WP.ret
  exact Ends.P rfl (Le.of_eq (by simp[St.get,W,nameB,mM,hz]))
 have hne:0<s.length:=by have:=of_decide_eq_false q1;omega
 have h0:=j_ hne
 have hnn:(s == [])=false:=by cases s <;> simp at hne ⊢
 have hf:ahp s=b_ s[0].toNat:=by cases s with|nil=>simp at hne|cons=>rfl
 refine ah.take 5 fun J hJ=>?_
 simp +decide only[TF,q1,↓reduceIte]
 refine hJ _ _ ?_;clear hJ J
 refine ah.part 12 rfl (fun q2=>?_) (fun q2=>?_)
 ·simp +decide only[TF,q2,↓reduceIte]
  apply z;clear z
  iterate 2 first|(refine WP.S oh fun _ z=>?_;simp +decide only[TF,↓reduceIte];apply z;clear z)|refine WP.cT ?_
  apply WP.ret
  exact Ends.P rfl (Le.of_eq (by first|(simp +decide only[St.get,W,nameB,mM,hf,hnn,↓reduceIte];done)|(simp[St.get,W,nameB,mM,hf,hnn];done)|(simp_all[St.get,W,LN,nameB,mM];done)|(simp_all[St.get,W,LN,nameB,mM];intros;first|omega|(rw[Bool.eq_iff_iff];simp;try omega);done)))
 simp +decide only[TF,h0,q2,↓reduceIte]
 refine aj.P (zH _) rfl rfl ?_
 simp +decide only[TF,↓reduceIte]
 apply z;clear z
 refine WP.cond rfl (fun q3=>?_) (fun q3=>?_)
 ·refine WP.S oh fun _ z=>?_;simp +decide only[TF,q3,↓reduceIte];apply z;clear z
  apply WP.ret
  exact Ends.P rfl (Le.of_eq (by simp_all[St.get,W,LN,nameB,mM]))
 iterate 2 first|(apply WP.skip;show WP ..)|apply WP.seq
 refine WP.S [0,3] fun _ z=>?_;simp +decide only[TF,q3,↓reduceIte];apply z;clear z
 apply WP.block
 refine WP.lp [0] (X:={k:Nat // k≤s.length∧s.all (fun c=>rF c.toNat)=(s.drop k).all (fun c=>rF c.toNat)}) (fun x=>match x with| ⟨(k),_⟩=>[(3,.int .i64 k)]) (fun x=>match x with| ⟨(k),_⟩=>[]) (fun x=>match x with| ⟨(k),_⟩=>s.length - k) (by simp +decide only[W,↓reduceIte];rfl) ?_ ⟨(0),⟨Nat.zero_le _,by simp⟩⟩ ?_
 rotate_left
 ·exact Weak.nil (by simp[St.get,lk,W,Le.refl]) (by simp[W])
 rintro ⟨k,hk,hI⟩
 dsimp only
 simp only[List.cons_append,List.nil_append]
 iterate 2 first|(refine WP.S oh fun _ z=>?_;simp +decide only[TF,↓reduceIte];apply z;clear z)|apply WP.seq
 refine WP.cond rfl (fun q4=>?_) (fun q4=>?_)
 ·have hlt:=aK q4
  have hg:=j_ hlt
  rw[dI hlt] at hI
  simp only[List.all_cons] at hI
  iterate 3 first|(apply WP.skip;show WP ..)|apply WP.block|apply WP.seq
  refine WP.sm [0,3] 41 (.bool (!(rF s[k].toNat))) (by kernel_rfl) (fun K hK=>?_) ?_
  ·simp +decide only[TF,q4,hg,↓reduceIte]
   refine aj.P (zH _) rfl rfl ?_
   refine ah.take 2 fun J hJ=>?_
   simp +decide only[TF,↓reduceIte]
   refine hJ _ _ ?_;clear hJ J
   refine ah.part 29 rfl (fun q5=>?_) (fun q5=>?_)
   ·simp only[Bool.not_eq_true'] at q5
    simp +decide only[TF,hg,q5,↓reduceIte]
    refine aj.P (NG _) rfl rfl ?_
    refine ah.take 3 fun J hJ=>?_
    simp +decide only[TF,↓reduceIte]
    refine hJ _ _ ?_;clear hJ J
    refine ah.part 36 rfl (fun q6=>?_) (fun q6=>?_)
    ·simp +decide only[TF,hg,q6,↓reduceIte]
     exact hK _ _ (by simp[St.get,lk,W]) rfl (Le.of_eq (by simp[St.get,lk,bne,rF,q5,q6]))
    simp +decide only[TF,q6,↓reduceIte]
    exact hK _ _ (by simp[St.get,lk,W]) rfl (Le.of_eq (by simp[St.get,lk,rF,q5,q6]))
   simp only[Bool.not_eq_false'] at q5
   simp +decide only[TF,q5,↓reduceIte]
   exact hK _ _ (by simp[St.get,lk,W]) rfl (Le.of_eq (by simp[St.get,lk,rF,q5]))
  refine WP.cond rfl (fun q7=>?_) (fun q7=>?_)
  ·refine WP.S oh fun _ z=>?_;simp +decide only[TF,q4,q7,↓reduceIte];apply z;clear z
   apply WP.ret
   exact Ends.P rfl (Le.of_eq (by simp_all[St.get,W,LN,nameB,mM]))
  iterate 2 first|(refine WP.R fun _ z=>?_;simp +decide only[TF,q4,q7,↓reduceIte];apply z;clear z)|(apply WP.skip;show WP ..)
  show ∃y,_∧Weak _ _ _
  refine⟨⟨k+1,?_⟩,?_,Weak.nil ?_ ?_⟩
  ·exact⟨by omega,by first|(simpa [q1,h0,hf,hnn,q2,q3,q4,hg,q7] using hI)|(simp_all;done)⟩
  ·dsimp only;omega
  ·simp[St.get,lk,Le.refl,aT hlt hs]
  simp[W]
 have hge:=aN q4
 rw[eP hge] at hI
 simp only[List.all_nil] at hI
 iterate 2 first|(refine WP.S oh fun _ z=>?_;simp +decide only[TF,q4,↓reduceIte];apply z;clear z)|(apply WP.exit;show WP ..)
 apply WP.ret
 exact Ends.P rfl (Le.of_eq (by simp_all[St.get,W,LN,nameB,mM]))
theorem Qa (s:List UInt8)(hs:s.length≤140737488355328):ak Pr 112 [.str s] (.str (bg s)):=by
 refine ak.of_wp Tryz.func112 rfl (by kernel_rfl) Tryz.ntmps112 (by simp) ?_
 simp only[ay]
 refine WP.sr [0] (by kernel_rfl) fun K hK=>?_
 simp +decide only[TF,↓reduceIte]
 refine hK _ _ ?_;clear hK K
 refine WP.seq ?_
 refine WP.aas 1 (by kernel_rfl) rfl rfl rfl fun K hK=>?_
 simp +decide only[TF,↓reduceIte]
 refine hK _ _ ?_;clear hK K
 refine⟨5,_,s,0,pG,nV,sJ,rfl,by omega,rfl,fun K hK=>?_⟩
 ·
  simp +decide only[TF,↓reduceIte]
  refine hK _ _ ?_;clear hK K
  show WP _ _ _ _ _ _
  refine WP.seq ?_
  refine WP.sr [3,8,9] (by kernel_rfl) fun K hK=>?_
  simp +decide only[TF,↓reduceIte]
  refine hK _ _ ?_;clear hK K
  refine WP.block ?_
  refine WP.lp [3,8] (X:={k:Nat // k≤s.length}) (fun x=>match x with| ⟨(k),_⟩=>[(9,.int .i64 k)]) (fun x=>match x with| ⟨(k),_⟩=>[(0,.arr 1000005 (qH s k))]) (fun x=>match x with| ⟨(k),_⟩=>s.length - k) (by simp +decide only[W,↓reduceIte];rfl) ?_ ⟨(0),Nat.zero_le _⟩ ?_
  rotate_left
  · exact Weak.store (by simp[St.get,lk,W,Le.refl,W]) (by simp[lk,ahr,FZ]) (by simp[lk]) (by simp[aA,JW]) (by simp)
  rintro ⟨k,hk⟩
  dsimp only
  simp only[List.cons_append,List.nil_append]
  refine WP.sr [3,8,9,10] (by kernel_rfl) fun K hK=>?_
  simp +decide only[TF,↓reduceIte]
  refine hK _ _ ?_;clear hK K
  refine WP.seq ?_
  refine WP.cond (b:=_) rfl (fun q1=>?_) (fun q1=>?_)
  ·
   have hlt:=aK q1
   have hd:=DV s hlt
   have hl1:(k+1≤(qH s k).length)=True:=by rw[abq];simp;omega
   have hm1:k * 1=k:=Nat.mul_one k
   have hkl:(k<s.length)=True:=by simp[hlt]
   refine WP.skip ?_
   show WP _ _ _ _ _ _
   refine WP.seq ?_
   refine WP.block ?_
   refine WP.sr [3,4,8,9] (by kernel_rfl) fun K hK=>?_
   simp +decide only[TF,q1,↓reduceIte]
   refine hK _ _ ?_;clear hK K
   refine WP.sr [3,4,8,9,16] (by kernel_rfl) fun K hK=>?_
   simp +decide only[TF,hm1,hd,hkl,↓reduceIte]
   refine aj.pure (WT _) rfl rfl (by simp[-List.map_take]) ?_
   simp +decide only[TF,↓reduceIte]
   refine hK _ _ ?_;clear hK K
   refine WP.cond (b:=_) rfl (fun q2=>?_) (fun q2=>?_)
   ·
    have hup:=(Xw q2).1
    refine WP.region (by kernel_rfl) fun K hK=>?_
    simp +decide only[TF,hl1,hm1,hd,hkl,q2,hup,↓reduceIte]
    refine hK _ _ ?_;clear hK K
    show WP _ _ _ _ _ _
    refine WP.region (by kernel_rfl) fun K hK=>?_
    simp +decide only[TF,↓reduceIte]
    refine hK _ _ ?_;clear hK K
    show ∃y,_∧Weak _ _ _
    refine⟨⟨k+1,?_⟩,?_,?_⟩
    · show k+1≤s.length;omega
    · dsimp only;omega
    · exact Weak.store (by simp[St.get,lk,Le.refl,aT hlt hs]) (by simp[lk,Oj s hlt]) (by simp[lk]) (by simp[aA,JW]) (by simp[lk])
   ·
    have hno:=q2
    refine WP.skip ?_
    show WP _ _ _ _ _ _
    refine WP.region (by kernel_rfl) fun K hK=>?_
    simp +decide only[TF,q2,↓reduceIte]
    refine hK _ _ ?_;clear hK K
    show ∃y,_∧Weak _ _ _
    refine⟨⟨k+1,?_⟩,?_,?_⟩
    · show k+1≤s.length;omega
    · dsimp only;omega
    · exact Weak.store (by simp[St.get,lk,Le.refl,aT hlt hs]) (by simp[lk,YT s hlt hno]) (by simp[lk]) (by simp[aA,JW]) (by simp[lk])
  ·
   have hge:=aN q1
   refine WP.exit ?_
   show WP _ _ _ _ _ _
   refine WP.seq ?_
   refine WP.agR 1 (by kernel_rfl) rfl rfl rfl fun K hK=>?_
   simp +decide only[TF,↓reduceIte]
   refine hK _ _ ?_;clear hK K
   obtain rfl:k=s.length:=by omega
   refine⟨5,1000005,_,bg s,0,[],pG,nV,sJ,by simp[bQ,St.get,lk,tC],by simp[lk,abr],fun K hK=>?_⟩
   ·
    simp +decide only[TF,q1,↓reduceIte]
    refine hK _ _ ?_;clear hK K
    show WP _ _ _ _ _ _
    refine WP.ret ?_
    exact Ends.pure (.inr rfl) rfl (Le.of_eq (by simp +decide only[St.get,lk,W,↓reduceIte])) (by simp)
def cu (s:List UInt8)(q:List (List UInt8) × Bool)(x:List UInt8):List (List UInt8) × Bool:=
 (if (x == s)=true then (if (!q.2 && !(Op.bytesLess x s))=true then q.1++[s] else q.1) else (if (!q.2 && !(Op.bytesLess x s))=true then q.1++[s] else q.1)++[x],if (!q.2 && !(Op.bytesLess x s))=true then true else q.2)
def m_ (l:List (List UInt8))(s:List UInt8):List (List UInt8):=
 if (l.foldl (cu s) ([],false)).2=true then (l.foldl (cu s) ([],false)).1 else (l.foldl (cu s) ([],false)).1++[s]
theorem oW (s:List UInt8):∀(l o:List (List UInt8)),(l.foldl (cu s) (o,true))=(o++l.filter (fun x=>!(x == s)),true)
 | [],o=>by simp
 |x::l,o=>by
  rw[List.foldl_cons]
  by_cases h:x=s
  ·have:cu s (o,true) x=(o,true):=by simp[cu,h]
   rw[this,oW s l o];simp[h]
  ·have:cu s (o,true) x=(o++[x],true):=by simp[cu,h]
   rw[this,oW s l _];simp[h]
theorem Xx (s:List UInt8):∀(l o:List (List UInt8)),Asc l→(if (l.foldl (cu s) (o,false)).2=true then (l.foldl (cu s) (o,false)).1 else (l.foldl (cu s) (o,false)).1++[s])=o++(l.filter (fun x=>Op.bytesLess x s)++[s]++l.filter (fun x=>Op.bytesLess s x))
 | [],o,_=>by simp
 |x::l,o,ha=>by
  rw[List.foldl_cons]
  cases h:Op.bytesLess x s
  ·have hs:∀y∈l,Op.bytesLess s y=true:=fun y hy=>by
    rcases qy x s with q|rfl|q
    ·rw[h] at q;cases q
    ·exact ha.head y hy
    ·exact lZ _ _ _ q (ha.head y hy)
   have h1:l.filter (fun y=>Op.bytesLess y s)=[]:=List.filter_eq_nil_iff.2 fun y hy=>by rw[qA _ _ (hs y hy)];simp
   have h2:l.filter (fun y=>Op.bytesLess s y)=l:=List.filter_eq_self.2 hs
   have h3:l.filter (fun y=>!(y == s))=l:=List.filter_eq_self.2 fun y hy=>by simpa using (abl (hs y hy)).symm
   by_cases hx:x=s
   ·have:cu s (o,false) x=(o++[s],true):=by simp[cu,hx,mZ]
    rw[this,oW,h3]
    subst hx
    simp[h,h1,h2]
   ·have:cu s (o,false) x=(o++[s]++[x],true):=by simp[cu,hx,h]
    rw[this,oW,h3]
    have hsx:Op.bytesLess s x=true:=by
     rcases qy x s with q|q|q
     ·rw[h] at q;cases q
     ·exact absurd q hx
     ·exact q
    simp[h,h1,h2,hsx]
  ·have hx:¬x=s:=abl h
   have:cu s (o,false) x=(o++[x],false):=by simp[cu,hx,h]
   rw[this,Xx s l _ ha.tail]
   simp[h,qA _ _ h]
theorem Xy {l:List (List UInt8)}(s:List UInt8)(ha:Asc l):m_ l s=l.filter (fun x=>Op.bytesLess x s)++[s]++l.filter (fun x=>Op.bytesLess s x):=by
 have:=Xx s l [] ha
 simpa [m_] using this
theorem abu {l:List (List UInt8)}{s:List UInt8}(ha:Asc l)(x:List UInt8):x∈m_ l s↔x=s∨x∈l:=by
 rw[Xy s ha]
 simp only[List.append_assoc,List.mem_append,List.mem_filter,List.mem_singleton]
 constructor
 ·rintro (h|h|h)
  ·exact .inr h.1
  ·exact .inl h
  ·exact .inr h.1
 ·rintro (h|h)
  ·exact .inr (.inl h)
  ·rcases qy x s with q|q|q
   ·exact .inl ⟨h,q⟩
   ·exact .inr (.inl q)
   ·exact .inr (.inr ⟨h,q⟩)
theorem TG {l:List (List UInt8)}(s:List UInt8)(ha:Asc l):Asc (m_ l s):=by
 rw[Xy s ha]
 have f:∀p,Asc (l.filter p):=fun p=>List.Pairwise.filter p ha
 refine List.pairwise_append.2 ⟨List.pairwise_append.2 ⟨f _,by simp,fun a h b hb=>?_⟩,f _,fun a h b hb=>?_⟩
 ·simp only[List.mem_filter,List.mem_singleton] at h hb;subst hb;exact h.2
 ·simp only[List.mem_append,List.mem_filter,List.mem_singleton] at h hb
  rcases h with h|rfl
  ·exact lZ _ _ _ h.2 hb.2
  ·exact hb.2
theorem Gv (s:List UInt8):∀(l:List (List UInt8)) (q:List (List UInt8) × Bool),(l.foldl (cu s) q).1.length+(if (l.foldl (cu s) q).2=true then 0 else 1)≤q.1.length+l.length+(if q.2=true then 0 else 1)
 | [],q=>by simp only[List.foldl_nil,List.length_nil,Nat.add_zero];exact Nat.le_refl _
 |x::l,q=>by
  have ih:=Gv s l (cu s q x)
  rw[List.foldl_cons]
  refine Nat.le_trans ih ?_
  unfold cu
  cases q.2 <;> cases (Op.bytesLess x s) <;> cases (x == s) <;> simp <;> omega
theorem TI (l:List (List UInt8))(s:List UInt8):(m_ l s).length≤l.length+1:=by
 have:=Gv s l ([],false)
 unfold m_
 split <;> rename_i h <;> simp[h] at this ⊢ <;> omega
theorem Hf {α:Type}(a:List α)(x:α):(a++[x]).isEmpty=false:=by cases a <;> rfl
theorem wY {S:Nat→Prop}(a b:List (List D)):(∀e∈a++b,∀d∈e,cZ S d)↔((∀e∈a,∀d∈e,cZ S d)∧∀e∈b,∀d∈e,cZ S d):=List.forall_mem_append
theorem fE {S:Nat→Prop}(l:List (List UInt8)):(∀e∈l.map (fun x=>[D.str x]),∀d∈e,cZ S d)↔True:=by
 simp only[iff_true,List.mem_map]
 rintro e ⟨x,_,rfl⟩ d hd
 simp only[List.mem_singleton] at hd;subst hd;exact .str _
theorem TJ (pre:List (List UInt8)):uO pre []=0:=rfl
theorem JY (s:List UInt8){k:Nat}(h:k<s.length):eY (bg (s.take k))++[[D.int .u8 (zQ s[k]).toNat]]=eY (bg (s.take (k+1))):=by
 rw[sO,JX s h]
theorem oZ (s:List UInt8){k:Nat}(h:k≤s.length):(bg (s.take k)).length=k:=by rw[tC,List.length_take];omega
theorem Qb (s:List UInt8){k:Nat}(h:k<s.length):(bg (s.take (k+1))).isEmpty=false:=by rw[JX s h,Hf]
abbrev BO:List Nat:=[0,1,4,5,7,8,9,16]
theorem aez (ls:List (List UInt8))(nl:Bool)(s:List UInt8)(hn:ls.length≤140737488355328)(hnl:nl=true→ls=[]):ak Pr 140 [.slice 1 nl (ls.map fun x=>[.str x]) none,.str s] (.int .i64 (ixL s ls 0)):=by
 refine ak.W Tryz.func140 Tryz.ntmps140 ?_
 simp only[ay,Nat.zero_add]
 iterate 2 first|(refine WP.S BO fun _ z=>?_;simp +decide only[TF,↓reduceIte];apply z;clear z)|apply WP.seq
 refine WP.S [0,1,7,8] fun _ z=>?_;simp +decide only[TF,↓reduceIte];apply z;clear z
 apply WP.block
 refine WP.lp [0,1,7] (X:={k:Nat // k≤ls.length∧ixL s ls 0=ixL s (ls.drop k) k}) (fun x=>match x with| ⟨(k),_⟩=>[(8,.int .i64 k)]) (fun x=>match x with| ⟨(k),_⟩=>[]) (fun x=>match x with| ⟨(k),_⟩=>ls.length - k) (by simp +decide only[W,↓reduceIte];rfl) ?_ ⟨(0),⟨Nat.zero_le _,by simp⟩⟩ ?_
 rotate_left
 ·exact Weak.nil (by simp[St.get,lk,W,Le.refl,W]) (by simp[W])
 rintro ⟨k,hk,hI⟩
 dsimp only
 simp only[List.cons_append,List.nil_append]
 iterate 2 first|(refine WP.S BO fun _ z=>?_;simp +decide only[TF,↓reduceIte];apply z;clear z)|apply WP.seq
 refine WP.cond rfl (fun q1=>?_) (fun q1=>?_)
 ·have hlt:=aK q1
  have hg:(ls.map fun x=>[D.str x])[k]?=some [.str ls[k]]:=getM hlt
  have hnf:=bH hnl hlt
  rw[dI hlt] at hI
  simp only[ixL] at hI
  iterate 5 first|(refine WP.S BO fun _ z=>?_;simp +decide only[TF,q1,hg,hnf,↓reduceIte];apply z;clear z)|(apply WP.skip;show WP ..)|apply WP.block|apply WP.seq
  refine WP.cond rfl (fun q2=>?_) (fun q2=>?_)
  ·refine WP.S BO fun _ z=>?_;simp +decide only[TF,q2,↓reduceIte];apply z;clear z
   apply WP.ret
   exact Ends.P rfl (Le.of_eq (by simp +decide only[St.get,W,q2,hI,↓reduceIte]))
  iterate 2 first|(refine WP.R fun _ z=>?_;simp +decide only[TF,q2,↓reduceIte];apply z;clear z)|(apply WP.skip;show WP ..)
  show ∃y,_∧Weak _ _ _
  refine⟨⟨k+1,?_⟩,?_,Weak.nil ?_ ?_⟩
  ·exact⟨by omega,by first|(simpa [hk,q1,hg,hnf,q2] using hI)|(simp_all;done)⟩
  ·dsimp only;omega
  ·simp[St.get,lk,Le.refl,hnf,aT hlt hn]
  simp[W]
 have hge:=aN q1
 rw[eP hge] at hI
 simp only[ixL] at hI
 iterate 2 first|(refine WP.S BO fun _ z=>?_;simp +decide only[TF,q1,↓reduceIte];apply z;clear z)|(apply WP.exit;show WP ..)
 apply WP.ret
 exact Ends.P rfl (Le.of_eq (by simp +decide only[St.get,W,hI,↓reduceIte]))
theorem zS (ls:List (List UInt8))(nl:Bool)(s:List UInt8)(hn:ls.length≤140737488355328)(hnl:nl=true→ls=[]):ak Pr 82 [.slice 1 nl (ls.map fun x=>[.str x]) none,.str s] (.bool (ls.contains s)):=by
 refine ak.W Tryz.func82 Tryz.ntmps82 ?_
 simp only[ay,Nat.zero_add]
 refine WP.S [0,1,4] fun _ z=>?_;simp +decide only[TF,↓reduceIte];apply z;clear z
 refine WP.S [0,1,4] fun _ z=>?_
 simp +decide only[TF,↓reduceIte]
 refine aj.P (aez _ _ _ (by assumption) (by assumption)) rfl rfl ?_
 simp +decide only[TF,↓reduceIte]
 apply z;clear z
 apply WP.ret
 exact Ends.P rfl (Le.of_eq (by simp +decide only[St.get,W,aaC,↓reduceIte]))
abbrev BP:List Nat:=[0,1,4,5,9,17]
theorem Xz (ls:List (List UInt8))(nl:Bool)(s:List UInt8)(hn:ls.length≤140737488355328)(hnl:nl=true→ls=[]):ak Pr 179 [.slice 1 nl (ls.map fun x=>[.str x]) none,.str s] (.bool (ls.contains s)):=by
 refine ak.W Tryz.func179 Tryz.ntmps179 ?_
 simp only[ay,Nat.zero_add]
 iterate 2 first|(refine WP.S BP fun _ z=>?_;simp +decide only[TF,↓reduceIte];apply z;clear z)|apply WP.seq
 refine WP.S [0,1,5] fun _ z=>?_;simp +decide only[TF,↓reduceIte];apply z;clear z
 apply WP.block
 refine WP.lp [0,1] (X:={k:Nat // k≤ls.length∧ls.contains s=(ls.drop k).any (fun x=>x == s)}) (fun x=>match x with| ⟨(k),_⟩=>[(5,.int .i64 k)]) (fun x=>match x with| ⟨(k),_⟩=>[]) (fun x=>match x with| ⟨(k),_⟩=>ls.length - k) (by simp +decide only[W,↓reduceIte];rfl) ?_ ⟨(0),⟨Nat.zero_le _,by rw[List.drop_zero,any_eq]⟩⟩ ?_
 rotate_left
 ·exact Weak.nil (by simp[St.get,lk,W,Le.refl,W]) (by simp[W])
 rintro ⟨k,hk,hI⟩
 dsimp only
 simp only[List.cons_append,List.nil_append]
 iterate 2 first|(refine WP.S BP fun _ z=>?_;simp +decide only[TF,↓reduceIte];apply z;clear z)|apply WP.seq
 refine WP.cond rfl (fun q1=>?_) (fun q1=>?_)
 ·have hlt:=aK q1
  have hg:(ls.map fun x=>[D.str x])[k]?=some [.str ls[k]]:=getM hlt
  have hnf:=bH hnl hlt
  rw[dI hlt] at hI
  simp only[List.any_cons] at hI
  iterate 4 first|(refine WP.S BP fun _ z=>?_;simp +decide only[TF,q1,hg,hnf,↓reduceIte];apply z;clear z)|(apply WP.skip;show WP ..)|apply WP.block|apply WP.seq
  refine WP.cond rfl (fun q2=>?_) (fun q2=>?_)
  ·refine WP.S BP fun _ z=>?_;simp +decide only[TF,q2,↓reduceIte];apply z;clear z
   apply WP.ret
   exact Ends.P rfl (Le.of_eq (by simp +decide only[St.get,W,q2,hI,↓reduceIte]))
  iterate 2 first|(refine WP.R fun _ z=>?_;simp +decide only[TF,q2,↓reduceIte];apply z;clear z)|(apply WP.skip;show WP ..)
  show ∃y,_∧Weak _ _ _
  refine⟨⟨k+1,?_⟩,?_,Weak.nil ?_ ?_⟩
  ·exact⟨by omega,by first|(simpa [hk,q1,hg,hnf,q2] using hI)|(simp_all;done)⟩
  ·dsimp only;omega
  ·simp[St.get,lk,Le.refl,hnf,aT hlt hn]
  simp[W]
 have hge:=aN q1
 rw[eP hge] at hI
 simp only[List.any_nil] at hI
 iterate 2 first|(refine WP.S BP fun _ z=>?_;simp +decide only[TF,q1,↓reduceIte];apply z;clear z)|(apply WP.exit;show WP ..)
 apply WP.ret
 exact Ends.P rfl (Le.of_eq (by simp +decide only[St.get,W,hI,↓reduceIte]))
abbrev ou:List Nat:=[0,2,3,4,5,6,7,8,14,19]
theorem abv (ls:List (List UInt8))(nl:Bool)(hn:ls.length≤140737488355328)(hnl:nl=true→ls=[])(hls:∀x∈ls,x.length≤140737488355328):ak Pr 113 [.slice 1 nl (ls.map fun x=>[.str x]) none] (.int .i64 (uO [] ls)):=by
 refine ak.W Tryz.func113 Tryz.ntmps113 ?_
 simp only[ay]
 iterate 2 first|(refine WP.S ou fun _ z=>?_;simp +decide only[TF,↓reduceIte];apply z;clear z)|apply WP.seq
 refine WP.S [0,5,6,7] fun _ z=>?_;simp +decide only[TF,↓reduceIte];apply z;clear z
 apply WP.block
 refine WP.lp [0,5,6] (X:={k:Nat // k≤ls.length∧uO [] ls=uO (ls.take k) (ls.drop k)}) (fun x=>match x with| ⟨(k),_⟩=>[(7,.int .i64 k)]) (fun x=>match x with| ⟨(k),_⟩=>[]) (fun x=>match x with| ⟨(k),_⟩=>ls.length - k) (by simp +decide only[W,↓reduceIte];rfl) ?_ ⟨(0),⟨Nat.zero_le _,by simp⟩⟩ ?_
 rotate_left
 ·exact Weak.nil (by simp[St.get,lk,W,Le.refl,W]) (by simp[W])
 rintro ⟨k,hk,hI⟩
 dsimp only
 simp only[List.cons_append,List.nil_append]
 iterate 2 first|(refine WP.S ou fun _ z=>?_;simp +decide only[TF,↓reduceIte];apply z;clear z)|apply WP.seq
 refine WP.cond rfl (fun q1=>?_) (fun q1=>?_)
 ·have hlt:=aK q1
  have hg:(ls.map fun x=>[D.str x])[k]?=some [.str ls[k]]:=getM hlt
  have hnf:=bH hnl hlt
  rw[dI hlt] at hI
  simp only[uO] at hI
  iterate 5 first|(refine WP.S ou fun _ z=>?_;simp +decide only[TF,q1,hg,hnf,↓reduceIte];apply z;clear z)|(apply WP.skip;show WP ..)|apply WP.block|apply WP.seq
  refine WP.S ou fun _ z=>?_
  simp +decide only[TF,↓reduceIte]
  have hck:=hls _ (List.getElem_mem hlt)
  refine aj.P (Py _ (by assumption)) rfl rfl ?_
  simp +decide only[TF,↓reduceIte]
  apply z;clear z
  refine WP.cond rfl (fun q2=>?_) (fun q2=>?_)
  ·simp only[Bool.not_eq_true'] at q2
   refine WP.S ou fun _ z=>?_;simp +decide only[TF,q2,↓reduceIte];apply z;clear z
   apply WP.ret
   exact Ends.P rfl (Le.of_eq (by simp +decide only[St.get,W,q2,hI,↓reduceIte]))
  simp only[Bool.not_eq_false'] at q2
  apply WP.skip;show WP ..
  refine WP.S ou fun _ z=>?_
  simp +decide only[TF,hk,q2,← List.map_take,↓reduceIte]
  refine aj.P (zS (ls.take k) false ls[k] (by simp;omega) nofun) rfl rfl ?_
  simp +decide only[TF,↓reduceIte]
  apply z;clear z
  refine WP.cond rfl (fun q3=>?_) (fun q3=>?_)
  ·refine WP.S ou fun _ z=>?_;simp +decide only[TF,q3,↓reduceIte];apply z;clear z
   apply WP.ret
   exact Ends.P rfl (Le.of_eq (by simp +decide only[St.get,W,q2,q3,hI,↓reduceIte]))
  iterate 2 first|(refine WP.R fun _ z=>?_;simp +decide only[TF,q3,↓reduceIte];apply z;clear z)|(apply WP.skip;show WP ..)
  show ∃y,_∧Weak _ _ _
  refine⟨⟨k+1,?_⟩,?_,Weak.nil ?_ ?_⟩
  ·exact⟨by omega,by first|(simpa [hk,q1,hg,hnf,q2,q3] using hI)|(simp_all;done)⟩
  ·dsimp only;omega
  ·simp[St.get,lk,Le.refl,hnf,aT hlt hn]
  simp[W]
 have hge:=aN q1
 rw[eP hge] at hI
 simp only[TJ] at hI
 iterate 2 first|(refine WP.S ou fun _ z=>?_;simp +decide only[TF,q1,↓reduceIte];apply z;clear z)|(apply WP.exit;show WP ..)
 apply WP.ret
 exact Ends.P rfl (Le.of_eq (by simp +decide only[St.get,W,hI,↓reduceIte]))
abbrev jW:List Nat:=[0,1,4,5,9,17,33]
theorem VF (ls:List (List UInt8))(nl:Bool)(hn:ls.length≤140737488355328)(hnl:nl=true→ls=[])(hls:∀x∈ls,x.length≤140737488355328):ak Pr 118 [.slice 1 nl (ls.map fun x=>[.str x]) none,.slice 0 true [] none] (.int .i64 (uO [] ls)):=by
 refine ak.W Tryz.func118 Tryz.ntmps118 ?_
 simp only[ay,Nat.zero_add]
 iterate 2 first|(refine WP.S jW fun _ z=>?_;simp +decide only[TF,↓reduceIte];apply z;clear z)|apply WP.seq
 refine WP.S [0,1,5] fun _ z=>?_;simp +decide only[TF,↓reduceIte];apply z;clear z
 apply WP.block
 refine WP.lp [0,1] (X:={k:Nat // k≤ls.length∧uO [] ls=uO (ls.take k) (ls.drop k)}) (fun x=>match x with| ⟨(k),_⟩=>[(5,.int .i64 k)]) (fun x=>match x with| ⟨(k),_⟩=>[]) (fun x=>match x with| ⟨(k),_⟩=>ls.length - k) (by simp +decide only[W,↓reduceIte];rfl) ?_ ⟨(0),⟨Nat.zero_le _,by simp⟩⟩ ?_
 rotate_left
 ·exact Weak.nil (by simp[St.get,lk,W,Le.refl,W]) (by simp[W])
 rintro ⟨k,hk,hI⟩
 dsimp only
 simp only[List.cons_append,List.nil_append]
 iterate 2 first|(refine WP.S jW fun _ z=>?_;simp +decide only[TF,↓reduceIte];apply z;clear z)|apply WP.seq
 refine WP.cond rfl (fun q1=>?_) (fun q1=>?_)
 ·have hlt:=aK q1
  have hg:(ls.map fun x=>[D.str x])[k]?=some [.str ls[k]]:=getM hlt
  have hnf:=bH hnl hlt
  rw[dI hlt] at hI
  simp only[uO] at hI
  iterate 4 first|(apply WP.skip;show WP ..)|apply WP.block|apply WP.seq
  refine WP.S jW fun _ z=>?_
  simp +decide only[TF,q1,hg,hnf,↓reduceIte]
  refine aj.P (DF ls[k] (hls _ (List.getElem_mem hlt))) rfl rfl ?_
  simp +decide only[TF,↓reduceIte]
  apply z;clear z
  refine WP.cond rfl (fun q2=>?_) (fun q2=>?_)
  ·simp only[Bool.not_eq_true'] at q2
   refine WP.S jW fun _ z=>?_;simp +decide only[TF,q2,↓reduceIte];apply z;clear z
   apply WP.ret
   exact Ends.P rfl (Le.of_eq (by simp +decide only[St.get,W,q2,hI,↓reduceIte]))
  simp only[Bool.not_eq_false'] at q2
  apply WP.skip;show WP ..
  refine WP.D jW fun _ z=>?_
  simp +decide only[TF,hg,q2,↓reduceIte]
  refine aj.aak (Xz [] true ls[k] (by simp) (by simp)) rfl ⟨Le.nil 0 1 none,Le.refl _,trivial⟩ (by simp[fg]) ?_
  refine ah.take 1 fun J hJ=>?_
  simp +decide only[TF,↓reduceIte]
  refine hJ _ _ ?_;clear hJ J
  refine ah.part 24 rfl (fun q3=>?_) (fun q3=>?_)
  ·simp +decide only[TF,q3,↓reduceIte]
   refine z _ _ (by kernel_rfl) ?_;clear z
   iterate 2 first|(refine WP.S jW fun _ z=>?_;simp +decide only[TF,↓reduceIte];apply z;clear z)|refine WP.cT ?_
   apply WP.ret
   exact Ends.P rfl (Le.of_eq (by simp_all[St.get]))
  simp +decide only[TF,hk,hg,q3,← List.map_take,↓reduceIte]
  refine aj.P (Xz _ _ _ (by simp;omega) (by simp)) rfl rfl ?_
  simp +decide only[TF,↓reduceIte]
  refine z _ _ (by kernel_rfl) ?_;clear z
  refine WP.cond rfl (fun q4=>?_) (fun q4=>?_)
  ·refine WP.S jW fun _ z=>?_;simp +decide only[TF,q4,↓reduceIte];apply z;clear z
   apply WP.ret
   exact Ends.P rfl (Le.of_eq (by simp +decide only[St.get,W,q2,q4,hI,↓reduceIte]))
  iterate 2 first|(refine WP.R fun _ z=>?_;simp +decide only[TF,q4,↓reduceIte];apply z;clear z)|(apply WP.skip;show WP ..)
  show ∃y,_∧Weak _ _ _
  refine⟨⟨k+1,?_⟩,?_,Weak.nil ?_ ?_⟩
  ·exact⟨by omega,by first|(simpa [hk,q1,hg,hnf,q2,q3,q4] using hI)|(simp_all;done)⟩
  ·dsimp only;omega
  ·simp[St.get,lk,Le.refl,hnf,aT hlt hn]
  simp[W]
 have hge:=aN q1
 rw[eP hge] at hI
 simp only[TJ] at hI
 iterate 2 first|(refine WP.S jW fun _ z=>?_;simp +decide only[TF,q1,↓reduceIte];apply z;clear z)|(apply WP.exit;show WP ..)
 apply WP.ret
 exact Ends.P rfl (Le.of_eq (by simp +decide only[St.get,W,hI,↓reduceIte]))
abbrev tH:List Nat:=[0,2,3,4,5,9,20]
theorem yu (s:List UInt8)(hs:s.length≤1099511627776):ak Pr 79 [.str s] (.str (bg s)):=by
 refine ak.W Tryz.func79 Tryz.ntmps79 ?_
 simp only[ay]
 iterate 3 first|(refine WP.S tH fun _ z=>?_;simp +decide only[TF,↓reduceIte];apply z;clear z)|apply WP.seq
 refine WP.S [0,3,4] fun _ z=>?_;simp +decide only[TF,↓reduceIte];apply z;clear z
 apply WP.block
 refine WP.lp [0] (X:={k:Nat // k≤s.length}) (fun x=>match x with| ⟨(k),_⟩=>[(3,.slice 1 (bg (s.take k)).isEmpty (eY (bg (s.take k))) (some 0)),(4,.int .i64 k)]) (fun x=>match x with| ⟨(k),_⟩=>[(0,.aS 5 1 (bg (s.take k)).length)]) (fun x=>match x with| ⟨(k),_⟩=>s.length - k) (by simp +decide only[W,↓reduceIte];rfl) ?_ ⟨(0),Nat.zero_le _⟩ ?_
 rotate_left
 ·refine Weak.trans (Weak.ghost 0 5 1 (F':=[(4,.int .i64 0),(3,.slice 1 true [] (some 0)),(0,.str s)]) (σ':=[]) (by simp[lk]) (by simp[keep,ins,Ac,zC]) (by simp[Dq])) ?_;exact Weak.store (by simp[St.get,lk,Le.refl,bg,eY]) (by simp[lk,bg]) (by simp[lk]) (by simp[aA]) (by simp)
 rintro ⟨k,hk⟩
 dsimp only
 simp only[List.cons_append,List.nil_append]
 iterate 2 first|(refine WP.S tH fun _ z=>?_;simp +decide only[TF,↓reduceIte];apply z;clear z)|apply WP.seq
 refine WP.cond rfl (fun q1=>?_) (fun q1=>?_)
 ·have hlt:=aK q1
  have hg:=j_ hlt
  have hEl:=oZ s hk
  iterate 5 first|(refine WP.S tH fun _ z=>?_;simp +decide only[TF,q1,hg,↓reduceIte];apply z;clear z)|(apply WP.skip;show WP ..)|apply WP.block|apply WP.seq
  refine WP.S tH fun _ z=>?_
  refine ah.take 3 fun J hJ=>?_
  simp +decide only[TF,↓reduceIte]
  refine hJ _ _ ?_;clear hJ J
  refine ah.part 17 rfl (fun q2=>?_) (fun q2=>?_)
  ·simp +decide only[TF,q2,↓reduceIte]
   apply z;clear z
   refine WP.cond rfl (fun q3=>?_) (fun q3=>?_)
   ·have hup:=(Xw (c:=s[k]) (by simp only[upperB];first|assumption|simp_all)).2
    refine WP.R fun _ z=>?_;simp +decide only[TF,q3,hup,↓reduceIte];apply z;clear z;show WP ..
    refine WP.R fun _ z=>?_
    simp +decide only[TF,eX,nI,↓reduceIte]
    refine⟨⟨by simp only[eX,hEl,List.length_append,List.length_cons,List.length_nil];omega,by simp only[eX,hEl,List.length_append,List.length_cons,List.length_nil];omega⟩,?_⟩
    apply z;clear z
    show WP ..
    refine WP.R fun _ z=>?_;simp +decide only[TF,↓reduceIte];apply z;clear z
    show ∃y,_∧Weak _ _ _
    have hes:=JY s hlt
    have hem:=Qb s hlt
    have hel:=oZ s (show k+1≤s.length from hlt)
    refine⟨⟨k+1,?_⟩,?_,?_⟩
    ·show k+1≤s.length;omega
    ·dsimp only;omega
    exact Weak.store (by simp[St.get,lk,Le.refl,-List.map_append,hes,hem,aT hlt (show s.length≤140737488355328 by omega)]) (by simp[lk,hes,hel,eX]) (by simp[lk]) (by simp[aA,lk]) (by simp[lk])
   have hno:=q3
   apply WP.skip;show WP ..
   refine WP.R fun _ z=>?_
   simp +decide only[TF,q3,eX,nI,↓reduceIte]
   refine⟨⟨by simp only[eX,hEl,List.length_append,List.length_cons,List.length_nil];omega,by simp only[eX,hEl,List.length_append,List.length_cons,List.length_nil];omega⟩,?_⟩
   apply z;clear z
   show WP ..
   refine WP.R fun _ z=>?_;simp +decide only[TF,↓reduceIte];apply z;clear z
   show ∃y,_∧Weak _ _ _
   have hes:=JY s hlt
   have hem:=Qb s hlt
   have hel:=oZ s (show k+1≤s.length from hlt)
   have hlc:=P_ (c:=s[k]) (by simp only[upperB,Bool.and_eq_false_iff,decide_eq_false_iff_not];have:=of_decide_eq_false hno;omega)
   rw[hlc] at hes
   refine⟨⟨k+1,?_⟩,?_,?_⟩
   ·show k+1≤s.length;omega
   ·dsimp only;omega
   exact Weak.store (by simp[St.get,lk,Le.refl,-List.map_append,hes,hem,aT hlt (show s.length≤140737488355328 by omega)]) (by simp[lk,hes,hel,eX]) (by simp[lk]) (by simp[aA,lk]) (by simp[lk])
  simp +decide only[TF,q2,↓reduceIte]
  apply z;clear z
  iterate 2 first|(apply WP.skip;show WP ..)|refine WP.cF ?_
  refine WP.R fun _ z=>?_
  simp +decide only[TF,eX,nI,↓reduceIte]
  refine⟨⟨by simp only[eX,hEl,List.length_append,List.length_cons,List.length_nil];omega,by simp only[eX,hEl,List.length_append,List.length_cons,List.length_nil];omega⟩,?_⟩
  apply z;clear z
  show WP ..
  refine WP.R fun _ z=>?_;simp +decide only[TF,↓reduceIte];apply z;clear z
  show ∃y,_∧Weak _ _ _
  have hes:=JY s hlt
  have hem:=Qb s hlt
  have hel:=oZ s (show k+1≤s.length from hlt)
  have hlc:=P_ (c:=s[k]) (by simp only[upperB,Bool.and_eq_false_iff,decide_eq_false_iff_not];have:=of_decide_eq_false q2;omega)
  rw[hlc] at hes
  refine⟨⟨k+1,?_⟩,?_,?_⟩
  ·show k+1≤s.length;omega
  ·dsimp only;omega
  exact Weak.store (by simp[St.get,lk,Le.refl,-List.map_append,hes,hem,aT hlt (show s.length≤140737488355328 by omega)]) (by simp[lk,hes,hel,eX]) (by simp[lk]) (by simp[aA,lk]) (by simp[lk])
 have hge:=aN q1
 obtain rfl:k=s.length:=by omega
 rw[List.take_length]
 iterate 2 first|(refine WP.S tH fun _ z=>?_;simp +decide only[TF,q1,↓reduceIte];apply z;clear z)|(apply WP.exit;show WP ..)
 apply WP.ret
 exact Ends.P rfl (Le.of_eq (by simp +decide only[St.get,W,↓reduceIte]))
theorem BQ {S:Nat→Prop}(a:At):∀d∈a.cs,cZ S d:=by
 intro d hd
 simp only[At.cs,List.mem_cons,List.not_mem_nil,or_false] at hd
 rcases hd with rfl|rfl
 ·exact .str _
 ·refine .slice (fun e he d hd=>?_) (by simp)
  simp only[List.mem_map] at he
  obtain⟨x,_,rfl⟩:=he
  simp only[List.mem_singleton] at hd;subst hd;exact .str _
@[simp] theorem alx {S:Nat→Prop}(l:List At):(∀(a:At),a∈l→∀(d:D),d∈a.cs→cZ S d)↔True:=by
 simp only[iff_true]
 exact fun a _ d hd=>BQ a d hd
@[simp] theorem akJ {S:Nat→Prop}(l:List At)(k:Nat):(∀(e:List D),e∈List.take k (l.map At.cs)→∀(d:D),d∈e→cZ S d)↔True:=by
 simp only[iff_true,← List.map_take,List.mem_map]
 rintro e ⟨a,_,rfl⟩ d hd
 exact BQ a d hd
def twB (pre:List At)(a:At):Bool:=pre.any fun b=>bg a.name == bg b.name
theorem TK (pre:List At):yP pre []=0:=rfl
theorem Ol (pre:List At)(a:At)(l:List At):yP pre (a::l)=if nameB a.name=false then 5 else if twB pre a=true then 7 else if a.vals.isEmpty=true then 6 else if decide ((a.vals.length:Int)>16)=true then 3 else if (uO [] a.vals != 0)=true then uO [] a.vals else yP (pre++[a]) l:=by
 simp only[yP,atE,twB]
 repeat' split
 all_goals first|rfl|(simp_all;done)
theorem Gw {a:At}(h:a.ok):a.name.length≤140737488355328∧a.vals.length≤140737488355328∧(a.nl=true→a.vals=[])∧∀v∈a.vals,v.length≤140737488355328:=
 ⟨by have:=h.1;omega,by have:=h.2.1;omega,h.2.2.1,fun v hv=>by have:=h.2.2.2 v hv;omega⟩
theorem Qc (l:List (List UInt8)):(((l.length:Nat):Int) == 0)=l.isEmpty:=by cases l <;> simp;omega
abbrev dJ:List Nat:=[0,2,3,4,6,7,10,11,12,13,14,21,24,25,26,27,36,41,45,50]
theorem VG (l:List At)(nl:Bool)(hn:l.length≤1099511627776)(hnl:nl=true→l=[])(hl:∀a∈l,a.ok):ak Pr 58 [.slice 2 nl (l.map At.cs) none] (.int .i64 (eF l)):=by
 refine ak.W Tryz.func58 Tryz.ntmps58 ?_
 simp only[ay]
 iterate 3 first|(refine WP.S dJ fun _ z=>?_;simp +decide only[TF,↓reduceIte];apply z;clear z)|apply WP.seq
 refine WP.cond rfl (fun q1=>?_) (fun q1=>?_)
 ·refine WP.S dJ fun _ z=>?_;simp +decide only[TF,q1,↓reduceIte];apply z;clear z
  apply WP.ret
  exact Ends.P rfl (Le.of_eq (by simp +decide only[St.get,W,eF,q1,↓reduceIte]))
 iterate 2 first|(apply WP.skip;show WP ..)|apply WP.seq
 refine WP.S [0,11,12,13] fun _ z=>?_;simp +decide only[TF,q1,↓reduceIte];apply z;clear z
 apply WP.block
 refine WP.lp [0,11,12] (X:={k:Nat // k≤l.length∧yP [] l=yP (l.take k) (l.drop k)}) (fun x=>match x with| ⟨(k),_⟩=>[(13,.int .i64 k)]) (fun x=>match x with| ⟨(k),_⟩=>[]) (fun x=>match x with| ⟨(k),_⟩=>l.length - k) (by simp +decide only[W,↓reduceIte];rfl) ?_ ⟨(0),⟨Nat.zero_le _,by simp⟩⟩ ?_
 rotate_left
 ·exact Weak.store (by simp[St.get,lk,W,Le.refl]) (by simp[lk]) (by simp[lk]) (by simp[aA,lk]) (by simp[lk])
 rintro ⟨k,hk,hI⟩
 dsimp only
 simp only[List.cons_append,List.nil_append]
 iterate 2 first|(refine WP.S dJ fun _ z=>?_;simp +decide only[TF,↓reduceIte];apply z;clear z)|apply WP.seq
 refine WP.cond rfl (fun q2=>?_) (fun q2=>?_)
 ·have hlt:=aK q2
  have hg:(l.map At.cs)[k]?=some [.str l[k].name,.slice 1 l[k].nl (l[k].vals.map fun x=>[.str x]) none]:=getM hlt
  have hnf:=bH hnl hlt
  rw[dI hlt] at hI
  simp only[Ol] at hI
  have hok:=Gw (hl _ (List.getElem_mem hlt))
  have hvz:=Qc l[k].vals
  iterate 5 first|(refine WP.S dJ fun _ z=>?_;simp +decide only[TF,q2,hg,hnf,↓reduceIte];apply z;clear z)|(apply WP.skip;show WP ..)|apply WP.block|apply WP.seq
  refine WP.S dJ fun _ z=>?_
  simp +decide only[TF,↓reduceIte]
  refine aj.P (ahs l[k].name hok.1) rfl rfl ?_
  simp +decide only[TF,↓reduceIte]
  apply z;clear z
  refine WP.cond rfl (fun q3=>?_) (fun q3=>?_)
  ·simp only[Bool.not_eq_true'] at q3
   refine WP.S dJ fun _ z=>?_;simp +decide only[TF,q3,↓reduceIte];apply z;clear z
   apply WP.ret
   exact Ends.P rfl (Le.of_eq (by simp +decide only[St.get,W,eF,q1,q3,hI,↓reduceIte]))
  simp only[Bool.not_eq_false'] at q3
  iterate 2 first|(apply WP.skip;show WP ..)|apply WP.seq
  refine WP.S [0,4,11,12,13,24,25,26] fun _ z=>?_;simp +decide only[TF,hk,q3,← List.map_take,↓reduceIte];apply z;clear z
  apply WP.block
  refine WP.lp [0,4,11,12,13,24,25] (X:={j:Nat // j≤(l.take k).length∧twB (l.take k) l[k]=(((l.take k).drop j).any fun b=>bg l[k].name == bg b.name)}) (fun x=>match x with| ⟨(j),_⟩=>[(26,.int .i64 j)]) (fun x=>match x with| ⟨(j),_⟩=>[(0,.box 75 [.str l[k].name,.slice 1 l[k].nl (l[k].vals.map fun x=>[.str x]) none])]) (fun x=>match x with| ⟨(j),_⟩=>(l.take k).length - j) (by simp +decide only[W,↓reduceIte];rfl) ?_ ⟨(0),⟨Nat.zero_le _,by simp[twB]⟩⟩ ?_
  rotate_left
  ·exact Weak.store (by simp[St.get,lk,W,Le.refl,hk]) (by simp[lk]) (by simp[lk]) (by simp[aA,lk]) (by simp[lk])
  rintro ⟨j,hj,hJ⟩
  dsimp only
  simp only[List.cons_append,List.nil_append]
  iterate 2 first|(refine WP.S dJ fun _ z=>?_;simp +decide only[TF,↓reduceIte];apply z;clear z)|apply WP.seq
  refine WP.cond rfl (fun q4=>?_) (fun q4=>?_)
  ·have hjl:=aK q4
   have hgj:((l.take k).map At.cs)[j]?=some [.str (l.take k)[j].name,.slice 1 (l.take k)[j].nl ((l.take k)[j].vals.map fun x=>[.str x]) none]:=getM hjl
   rw[dI hjl,List.any_cons] at hJ
   have aeA:=Gw (hl _ (List.mem_of_mem_take (List.getElem_mem hjl)))
   iterate 4 first|(refine WP.S dJ fun _ z=>?_;simp +decide only[TF,q4,hgj,↓reduceIte];apply z;clear z)|(apply WP.skip;show WP ..)|apply WP.block|apply WP.seq
   refine WP.D dJ fun _ z=>?_
   simp +decide only[TF,↓reduceIte]
   refine aj.P (Qa l[k].name hok.1) rfl rfl ?_
   simp +decide only[TF,↓reduceIte]
   refine aj.P (Qa (l.take k)[j].name aeA.1) rfl rfl ?_
   simp +decide only[TF,↓reduceIte]
   refine z _ _ (by kernel_rfl) ?_;clear z
   refine WP.cond rfl (fun q5=>?_) (fun q5=>?_)
   ·refine WP.S dJ fun _ z=>?_;simp +decide only[TF,q5,↓reduceIte];apply z;clear z
    apply WP.ret
    exact Ends.P rfl (Le.of_eq (by simp +decide only[St.get,W,eF,q1,q3,q5,hJ,hI,↓reduceIte]))
   iterate 2 first|(refine WP.R fun _ z=>?_;simp +decide only[TF,q5,↓reduceIte];apply z;clear z)|(apply WP.skip;show WP ..)
   show ∃y,_∧Weak _ _ _
   refine⟨⟨j+1,?_⟩,?_,?_⟩
   ·exact⟨by omega,by first|(simpa [q1,hk,q2,hg,hnf,hvz,q3,hj,q4,hgj,q5] using hJ)|(simp_all;done)⟩
   ·dsimp only;omega
   exact Weak.store (by simp[St.get,lk,Le.refl,hk,aT hjl (show (l.take k).length≤140737488355328 by simp;omega)]) (by simp[lk]) (by simp[lk]) (by simp[aA,lk]) (by simp[lk])
  have hjg:=aN q4
  rw[eP hjg,List.any_nil] at hJ
  iterate 3 first|(refine WP.S dJ fun _ z=>?_;simp +decide only[TF,hvz,q4,↓reduceIte];apply z;clear z)|(apply WP.exit;show WP ..)|apply WP.seq
  refine WP.cond rfl (fun q6=>?_) (fun q6=>?_)
  ·refine WP.S dJ fun _ z=>?_;simp +decide only[TF,q6,↓reduceIte];apply z;clear z
   apply WP.ret
   exact Ends.P rfl (Le.of_eq (by simp +decide only[St.get,W,eF,q1,q3,q6,hJ,hI,↓reduceIte]))
  iterate 3 first|(refine WP.S dJ fun _ z=>?_;simp +decide only[TF,q6,↓reduceIte];apply z;clear z)|(apply WP.skip;show WP ..)|apply WP.seq
  refine WP.cond rfl (fun q7=>?_) (fun q7=>?_)
  ·refine WP.S dJ fun _ z=>?_;simp +decide only[TF,q7,↓reduceIte];apply z;clear z
   apply WP.ret
   exact Ends.P rfl (Le.of_eq (by simp +decide only[St.get,W,eF,q1,q3,q6,q7,hJ,hI,↓reduceIte]))
  apply WP.skip;show WP ..
  refine WP.S dJ fun _ z=>?_
  simp +decide only[TF,q7,↓reduceIte]
  refine aj.P (abv l[k].vals l[k].nl hok.2.1 hok.2.2.1 hok.2.2.2) rfl rfl ?_
  simp +decide only[TF,↓reduceIte]
  apply z;clear z
  refine WP.S dJ fun _ z=>?_;simp +decide only[TF,↓reduceIte];apply z;clear z
  refine WP.cond rfl (fun q8=>?_) (fun q8=>?_)
  ·refine WP.S dJ fun _ z=>?_;simp +decide only[TF,q8,↓reduceIte];apply z;clear z
   apply WP.ret
   exact Ends.P rfl (Le.of_eq (by simp +decide only[St.get,W,eF,q1,q3,q6,q7,q8,hJ,hI,↓reduceIte]))
  iterate 2 first|(refine WP.R fun _ z=>?_;simp +decide only[TF,q8,↓reduceIte];apply z;clear z)|(apply WP.skip;show WP ..)
  show ∃y,_∧Weak _ _ _
  refine⟨⟨k+1,?_⟩,?_,?_⟩
  ·exact⟨by omega,by first|(simpa [q1,hk,q2,hg,hnf,hvz,q3,hj,q4,q6,q7,q8] using hI)|(simp_all;done)⟩
  ·dsimp only;omega
  exact Weak.store (by simp[St.get,lk,Le.refl,hk,hnf,aT hlt (show l.length≤140737488355328 by omega)]) (by simp[lk]) (by simp[lk]) (by simp[aA,lk]) (by simp[lk])
 have hge:=aN q2
 rw[eP hge] at hI
 simp only[TK] at hI
 iterate 2 first|(refine WP.S dJ fun _ z=>?_;simp +decide only[TF,q2,↓reduceIte];apply z;clear z)|(apply WP.exit;show WP ..)
 apply WP.ret
 exact Ends.P rfl (Le.of_eq (by simp +decide only[St.get,W,eF,q1,hI,↓reduceIte]))
theorem YU (l:List At)(nl:Bool)(i:Nat)(hi:i<l.length)(hn:l.length≤1099511627776)(hnl:nl=true→l=[])(hl:∀a∈l,a.ok):ak Pr 117 [.slice 2 nl (l.map At.cs) none,.int .i64 i] (.bool (twB (l.take i) l[i])):=by
 have hgi:(l.map At.cs)[i]?=some [.str l[i].name,.slice 1 l[i].nl (l[i].vals.map fun x=>[.str x]) none]:=getM hi
 have am8:=Gw (hl _ (List.getElem_mem hi))
 have hnf:=bH hnl hi
 have htl:(l.take i).length=i:=by rw[List.length_take];omega
 refine ak.W Tryz.func117 Tryz.ntmps117 ?_
 simp only[ay,Nat.zero_add]
 iterate 2 first|(refine WP.S [0,1,4,5,8,23] fun _ z=>?_;simp +decide only[TF,hnf,↓reduceIte];apply z;clear z)|apply WP.seq
 refine WP.S [0,1,5] fun _ z=>?_;simp +decide only[TF,↓reduceIte];apply z;clear z
 apply WP.block
 refine WP.lp [0,1] (X:={j:Nat // j≤(l.take i).length∧twB (l.take i) l[i]=(((l.take i).drop j).any fun b=>bg l[i].name == bg b.name)}) (fun x=>match x with| ⟨(j),_⟩=>[(5,.int .i64 j)]) (fun x=>match x with| ⟨(j),_⟩=>[]) (fun x=>match x with| ⟨(j),_⟩=>(l.take i).length - j) (by simp +decide only[W,↓reduceIte];rfl) ?_ ⟨(0),⟨Nat.zero_le _,by simp[twB]⟩⟩ ?_
 rotate_left
 ·exact Weak.store (by simp[St.get,lk,W,Le.refl]) (by simp[lk]) (by simp[lk]) (by simp[aA,lk]) (by simp[lk])
 rintro ⟨j,hj,hJ⟩
 dsimp only
 simp only[List.cons_append,List.nil_append]
 iterate 2 first|(refine WP.S [0,1,4,5,8,23] fun _ z=>?_;simp +decide only[TF,↓reduceIte];apply z;clear z)|apply WP.seq
 refine WP.cond rfl (fun q1=>?_) (fun q1=>?_)
 ·have hjl:j<(l.take i).length:=by have:=of_decide_eq_true q1;rw[htl];omega
  have aeB:j<l.length:=by rw[htl] at hjl;omega
  have hgj:(l.map At.cs)[j]?=some [.str l[j].name,.slice 1 l[j].nl (l[j].vals.map fun x=>[.str x]) none]:=getM aeB
  rw[dI hjl,List.any_cons] at hJ
  have hje:(l.take i)[j]=l[j]:=List.getElem_take
  rw[hje] at hJ
  have aeA:=Gw (hl _ (List.getElem_mem aeB))
  have hbc:(bg l[j].name == bg l[i].name)=(bg l[i].name == bg l[j].name):=Bool.beq_comm
  have am9:decide ((j:Int)<i)=true:=decide_eq_true (by rw[htl] at hjl;omega)
  iterate 3 first|(apply WP.skip;show WP ..)|apply WP.block|apply WP.seq
  refine WP.D [0,1,4,5,8,23] fun _ z=>?_
  simp +decide only[TF,q1,hgj,↓reduceIte]
  refine aj.P (yu l[j].name (hl _ (List.getElem_mem aeB)).1) rfl rfl ?_
  simp +decide only[TF,hgi,↓reduceIte]
  refine aj.P (yu l[i].name (hl _ (List.getElem_mem hi)).1) rfl rfl ?_
  simp +decide only[TF,hbc,↓reduceIte]
  refine z _ _ (by kernel_rfl) ?_;clear z
  refine WP.cond rfl (fun q2=>?_) (fun q2=>?_)
  ·refine WP.S [0,1,4,5,8,23] fun _ z=>?_;simp +decide only[TF,q2,↓reduceIte];apply z;clear z
   apply WP.ret
   exact Ends.P rfl (Le.of_eq (by simp +decide only[St.get,W,q2,hJ,↓reduceIte]))
  iterate 2 first|(refine WP.R fun _ z=>?_;simp +decide only[TF,q2,↓reduceIte];apply z;clear z)|(apply WP.skip;show WP ..)
  show ∃y,_∧Weak _ _ _
  refine⟨⟨j+1,?_⟩,?_,?_⟩
  ·exact⟨by omega,by first|(simpa [hgi,hnf,hj,q1,hgj,hbc,q2] using hJ)|(simp_all;done)⟩
  ·dsimp only;omega
  exact Weak.store (by simp[St.get,lk,Le.refl,aT aeB (show l.length≤140737488355328 by omega)]) (by simp[lk]) (by simp[lk]) (by simp[aA,lk]) (by simp[lk])
 have hjg:(l.take i).length≤j:=by have:=of_decide_eq_false q1;rw[htl];omega
 rw[eP hjg,List.any_nil] at hJ
 iterate 2 first|(refine WP.S [0,1,4,5,8,23] fun _ z=>?_;simp +decide only[TF,q1,↓reduceIte];apply z;clear z)|(apply WP.exit;show WP ..)
 apply WP.ret
 exact Ends.P rfl (Le.of_eq (by simp +decide only[St.get,W,hJ,↓reduceIte]))
abbrev dA:List Nat:=[0,2,3,4,7,11,20,23,30,37,45]
theorem Qd (l:List At)(nl:Bool)(hn:l.length≤1099511627776)(hnl:nl=true→l=[])(hl:∀a∈l,a.ok):ak Pr 61 [.slice 2 nl (l.map At.cs) none] (.int .i64 (eF l)):=by
 refine ak.W Tryz.func61 Tryz.ntmps61 ?_
 simp only[ay]
 iterate 3 first|(refine WP.S dA fun _ z=>?_;simp +decide only[TF,↓reduceIte];apply z;clear z)|apply WP.seq
 refine WP.cond rfl (fun q1=>?_) (fun q1=>?_)
 ·refine WP.S dA fun _ z=>?_;simp +decide only[TF,q1,↓reduceIte];apply z;clear z
  apply WP.ret
  exact Ends.P rfl (Le.of_eq (by simp +decide only[St.get,W,eF,q1,↓reduceIte]))
 iterate 2 first|(apply WP.skip;show WP ..)|apply WP.seq
 refine WP.S [0,3] fun _ z=>?_;simp +decide only[TF,q1,↓reduceIte];apply z;clear z
 apply WP.block
 refine WP.lp [0] (X:={k:Nat // k≤l.length∧yP [] l=yP (l.take k) (l.drop k)}) (fun x=>match x with| ⟨(k),_⟩=>[(3,.int .i64 k)]) (fun x=>match x with| ⟨(k),_⟩=>[]) (fun x=>match x with| ⟨(k),_⟩=>l.length - k) (by simp +decide only[W,↓reduceIte];rfl) ?_ ⟨(0),⟨Nat.zero_le _,by simp⟩⟩ ?_
 rotate_left
 ·exact Weak.store (by simp[St.get,lk,W,Le.refl]) (by simp[lk]) (by simp[lk]) (by simp[aA,lk]) (by simp[lk])
 rintro ⟨k,hk,hI⟩
 dsimp only
 simp only[List.cons_append,List.nil_append]
 iterate 2 first|(refine WP.S dA fun _ z=>?_;simp +decide only[TF,↓reduceIte];apply z;clear z)|apply WP.seq
 refine WP.cond rfl (fun q2=>?_) (fun q2=>?_)
 ·have hlt:=aK q2
  have hg:(l.map At.cs)[k]?=some [.str l[k].name,.slice 1 l[k].nl (l[k].vals.map fun x=>[.str x]) none]:=getM hlt
  have hnf:=bH hnl hlt
  rw[dI hlt] at hI
  simp only[Ol] at hI
  have hok:=Gw (hl _ (List.getElem_mem hlt))
  have hvz:=Qc l[k].vals
  iterate 4 first|(apply WP.skip;show WP ..)|apply WP.block|apply WP.seq
  refine WP.S dA fun _ z=>?_
  simp +decide only[TF,q2,hg,hnf,↓reduceIte]
  refine aj.P (abt l[k].name hok.1) rfl rfl ?_
  simp +decide only[TF,↓reduceIte]
  apply z;clear z
  refine WP.cond rfl (fun q3=>?_) (fun q3=>?_)
  ·simp only[Bool.not_eq_true'] at q3
   refine WP.S dA fun _ z=>?_;simp +decide only[TF,q3,↓reduceIte];apply z;clear z
   apply WP.ret
   exact Ends.P rfl (Le.of_eq (by simp +decide only[St.get,W,eF,q1,q3,hI,↓reduceIte]))
  simp only[Bool.not_eq_false'] at q3
  iterate 2 first|(apply WP.skip;show WP ..)|apply WP.seq
  refine WP.S dA fun _ z=>?_
  simp +decide only[TF,q3,↓reduceIte]
  refine aj.P (YU l false k hlt hn nofun hl) rfl rfl ?_
  simp +decide only[TF,↓reduceIte]
  apply z;clear z
  refine WP.cond rfl (fun q4=>?_) (fun q4=>?_)
  ·refine WP.S dA fun _ z=>?_;simp +decide only[TF,q4,↓reduceIte];apply z;clear z
   apply WP.ret
   exact Ends.P rfl (Le.of_eq (by simp +decide only[St.get,W,eF,q1,q3,q4,hI,↓reduceIte]))
  iterate 3 first|(refine WP.S dA fun _ z=>?_;simp +decide only[TF,hg,hvz,q4,↓reduceIte];apply z;clear z)|(apply WP.skip;show WP ..)|apply WP.seq
  refine WP.cond rfl (fun q5=>?_) (fun q5=>?_)
  ·refine WP.S dA fun _ z=>?_;simp +decide only[TF,q5,↓reduceIte];apply z;clear z
   apply WP.ret
   exact Ends.P rfl (Le.of_eq (by simp +decide only[St.get,W,eF,q1,q3,q4,q5,hI,↓reduceIte]))
  iterate 3 first|(refine WP.S dA fun _ z=>?_;simp +decide only[TF,hg,q5,↓reduceIte];apply z;clear z)|(apply WP.skip;show WP ..)|apply WP.seq
  refine WP.cond rfl (fun q6=>?_) (fun q6=>?_)
  ·refine WP.S dA fun _ z=>?_;simp +decide only[TF,q6,↓reduceIte];apply z;clear z
   apply WP.ret
   exact Ends.P rfl (Le.of_eq (by simp +decide only[St.get,W,eF,q1,q3,q4,q5,q6,hI,↓reduceIte]))
  apply WP.skip;show WP ..
  refine WP.S dA fun _ z=>?_
  simp +decide only[TF,hg,q6,↓reduceIte]
  refine aj.P (VF l[k].vals l[k].nl hok.2.1 hok.2.2.1 hok.2.2.2) rfl rfl ?_
  simp +decide only[TF,↓reduceIte]
  apply z;clear z
  refine WP.S dA fun _ z=>?_;simp +decide only[TF,↓reduceIte];apply z;clear z
  refine WP.cond rfl (fun q7=>?_) (fun q7=>?_)
  ·refine WP.S dA fun _ z=>?_;simp +decide only[TF,q7,↓reduceIte];apply z;clear z
   apply WP.ret
   exact Ends.P rfl (Le.of_eq (by simp +decide only[St.get,W,eF,q1,q3,q4,q5,q6,q7,hI,↓reduceIte]))
  iterate 2 first|(refine WP.R fun _ z=>?_;simp +decide only[TF,q7,↓reduceIte];apply z;clear z)|(apply WP.skip;show WP ..)
  show ∃y,_∧Weak _ _ _
  refine⟨⟨k+1,?_⟩,?_,?_⟩
  ·exact⟨by omega,by first|(simpa [q1,hk,q2,hg,hnf,hvz,q3,q4,q5,q6,q7] using hI)|(simp_all;done)⟩
  ·dsimp only;omega
  exact Weak.store (by simp[St.get,lk,Le.refl,hnf,aT hlt (show l.length≤140737488355328 by omega)]) (by simp[lk]) (by simp[lk]) (by simp[aA,lk]) (by simp[lk])
 have hge:=aN q2
 rw[eP hge] at hI
 simp only[TK] at hI
 iterate 2 first|(refine WP.S dA fun _ z=>?_;simp +decide only[TF,q2,↓reduceIte];apply z;clear z)|(apply WP.exit;show WP ..)
 apply WP.ret
 exact Ends.P rfl (Le.of_eq (by simp +decide only[St.get,W,eF,q1,hI,↓reduceIte]))
abbrev jc:List Nat:=[0,1,4,5,6,7,11,23,33,42]
theorem JZ (ls:List (List UInt8))(nl:Bool)(s:List UInt8)(hn:ls.length≤1099511627776)(hnl:nl=true→ls=[]):ak Pr 78 [.slice 1 nl (ls.map fun x=>[.str x]) none,.str s] (.slice 1 (m_ ls s).isEmpty ((m_ ls s).map fun x=>[.str x]) none):=by
 refine ak.W Tryz.func78 Tryz.ntmps78 ?_
 simp only[ay,Nat.zero_add]
 iterate 4 first|(refine WP.S jc fun _ z=>?_;simp +decide only[TF,↓reduceIte];apply z;clear z)|apply WP.seq
 refine WP.S [0,1,5,6,7] fun _ z=>?_;simp +decide only[TF,↓reduceIte];apply z;clear z
 apply WP.block
 refine WP.lp [0,1] (X:={x:(Nat) × (List (List UInt8)) × (Bool) // match x with|(k,o,dn)=>k≤ls.length∧o.length≤2 * k∧ls.foldl (cu s) ([],false)=(ls.drop k).foldl (cu s) (o,dn)}) (fun x=>match x with| ⟨(k,o,dn),_⟩=>[(5,.slice 1 o.isEmpty (o.map fun x=>[.str x]) (some 0)),(6,.bool dn),(7,.int .i64 k)]) (fun x=>match x with| ⟨(k,o,dn),_⟩=>[(0,.aS 9 1 o.length)]) (fun x=>match x with| ⟨(k,o,dn),_⟩=>ls.length - k) (by simp +decide only[W,↓reduceIte];rfl) ?_ ⟨(0,[],false),⟨Nat.zero_le _,Nat.zero_le _,by simp⟩⟩ ?_
 rotate_left
 ·refine Weak.trans (Weak.ghost 0 9 1 (F':=[(7,.int .i64 0),(6,.bool false),(5,.slice 1 true [] (some 0)),(0,.slice 1 nl (ls.map fun x=>[.str x]) none),(1,.str s)]) (σ':=[]) (by simp[lk]) (by simp[keep,ins,Ac,zC]) (by simp[Dq])) ?_;exact Weak.store (by simp[St.get,lk,Le.refl]) (by simp[lk]) (by simp[lk]) (by simp[aA,lk]) (by simp[lk])
 rintro ⟨⟨k,o,dn⟩,hk,hr,hI⟩
 dsimp only
 simp only[List.cons_append,List.nil_append]
 iterate 2 first|(refine WP.S jc fun _ z=>?_;simp +decide only[TF,↓reduceIte];apply z;clear z)|apply WP.seq
 refine WP.cond rfl (fun q1=>?_) (fun q1=>?_)
 ·have hlt:=aK q1
  have hg:(ls.map fun x=>[D.str x])[k]?=some [.str ls[k]]:=getM hlt
  have hnf:=bH hnl hlt
  rw[dI hlt] at hI
  simp only[List.foldl_cons] at hI
  iterate 4 first|(apply WP.skip;show WP ..)|apply WP.block|apply WP.seq
  refine WP.S jc fun _ z=>?_
  refine ah.take 3 fun J hJ=>?_
  simp +decide only[TF,q1,hnf,↓reduceIte]
  refine hJ _ _ ?_;clear hJ J
  refine ah.part 16 rfl (fun q2=>?_) (fun q2=>?_)
  ·simp only[Bool.not_eq_true'] at q2
   simp +decide only[TF,hg,q2,↓reduceIte]
   apply z;clear z
   refine WP.cond rfl (fun q3=>?_) (fun q3=>?_)
   ·have hA:=q3
    refine WP.S jc fun _ z=>?_
    simp +decide only[TF,q3,↓reduceIte]
    refine⟨⟨by simp only[List.length_append,List.length_map,List.length_cons,List.length_nil];omega,by simp only[List.length_append,List.length_map,List.length_cons,List.length_nil];omega⟩,?_⟩
    apply z;clear z
    iterate 2 first|(refine WP.S jc fun _ z=>?_;simp +decide only[TF,hg,↓reduceIte];apply z;clear z)|(refine WP.R fun _ z=>?_;simp +decide only[TF,↓reduceIte];apply z;clear z;show WP ..)
    refine WP.cond rfl (fun q4=>?_) (fun q4=>?_)
    ·have hC:=q4
     refine WP.R fun _ z=>?_
     simp +decide only[TF,hg,q4,↓reduceIte]
     refine⟨⟨by simp only[List.length_append,List.length_map,List.length_cons,List.length_nil];omega,by simp only[List.length_append,List.length_map,List.length_cons,List.length_nil];omega⟩,?_⟩
     apply z;clear z
     show WP ..
     refine WP.R fun _ z=>?_;simp +decide only[TF,↓reduceIte];apply z;clear z
     show ∃y,_∧Weak _ _ _
     have hX:(!dn && !Op.bytesLess ls[k] s)=true:=by simp[q2,q3]
     have hY:(ls[k] == s)=false:=by simpa using hC
     simp only[cu,hX,hY,↓reduceIte,Bool.false_eq_true] at hI
     refine⟨⟨(k+1,o++[s]++[ls[k]],true),?_⟩,?_,?_⟩
     ·exact⟨by dsimp only;omega,by simp;omega,hI⟩
     ·dsimp only;omega
     exact Weak.store (by simp[St.get,lk,Le.refl,Hf,-List.append_assoc,hnf,aT hlt (show ls.length≤140737488355328 by omega)]) (by simp[lk,-List.append_assoc]) (by simp[lk,wY,fE,-List.mem_append,-List.mem_map,-List.append_assoc]) (by simp[aA,lk]) (by simp[lk])
    have hD:=q4
    iterate 2 first|(refine WP.R fun _ z=>?_;simp +decide only[TF,q4,↓reduceIte];apply z;clear z)|(apply WP.skip;show WP ..)
    show ∃y,_∧Weak _ _ _
    have hX:(!dn && !Op.bytesLess ls[k] s)=true:=by simp[q2,q3]
    have hY:(ls[k] == s)=true:=by simpa using hD
    simp only[cu,hX,hY,↓reduceIte] at hI
    refine⟨⟨(k+1,o++[s],true),?_⟩,?_,?_⟩
    ·exact⟨by dsimp only;omega,by simp;omega,hI⟩
    ·dsimp only;omega
    exact Weak.store (by simp[St.get,lk,Le.refl,Hf,-List.append_assoc,hnf,aT hlt (show ls.length≤140737488355328 by omega)]) (by simp[lk,-List.append_assoc]) (by simp[lk,wY,fE,-List.mem_append,-List.mem_map,-List.append_assoc]) (by simp[aA,lk]) (by simp[lk])
   have hB:=q3
   iterate 2 first|(refine WP.S jc fun _ z=>?_;simp +decide only[TF,hg,q3,↓reduceIte];apply z;clear z)|(apply WP.skip;show WP ..)
   refine WP.cond rfl (fun q5=>?_) (fun q5=>?_)
   ·have hC:=q5
    refine WP.R fun _ z=>?_
    simp +decide only[TF,hg,q5,↓reduceIte]
    refine⟨⟨by simp only[List.length_append,List.length_map,List.length_cons,List.length_nil];omega,by simp only[List.length_append,List.length_map,List.length_cons,List.length_nil];omega⟩,?_⟩
    apply z;clear z
    show WP ..
    refine WP.R fun _ z=>?_;simp +decide only[TF,↓reduceIte];apply z;clear z
    show ∃y,_∧Weak _ _ _
    have hX:(!dn && !Op.bytesLess ls[k] s)=false:=by simp[q2,q3]
    have hY:(ls[k] == s)=false:=by simpa using hC
    simp only[cu,hX,hY,↓reduceIte,Bool.false_eq_true] at hI
    refine⟨⟨(k+1,o++[ls[k]],dn),?_⟩,?_,?_⟩
    ·exact⟨by dsimp only;omega,by simp;omega,hI⟩
    ·dsimp only;omega
    exact Weak.store (by simp[St.get,lk,Le.refl,Hf,-List.append_assoc,hnf,q2,aT hlt (show ls.length≤140737488355328 by omega)]) (by simp[lk,-List.append_assoc]) (by simp[lk,wY,fE,-List.mem_append,-List.mem_map,-List.append_assoc]) (by simp[aA,lk]) (by simp[lk])
   have hD:=q5
   iterate 2 first|(refine WP.R fun _ z=>?_;simp +decide only[TF,q5,↓reduceIte];apply z;clear z)|(apply WP.skip;show WP ..)
   show ∃y,_∧Weak _ _ _
   have hX:(!dn && !Op.bytesLess ls[k] s)=false:=by simp[q2,q3]
   have hY:(ls[k] == s)=true:=by simpa using hD
   simp only[cu,hX,hY,↓reduceIte,Bool.false_eq_true] at hI
   refine⟨⟨(k+1,o,dn),?_⟩,?_,?_⟩
   ·exact⟨by dsimp only;omega,by simp;omega,hI⟩
   ·dsimp only;omega
   exact Weak.store (by simp[St.get,lk,Le.refl,-List.append_assoc,hnf,q2,aT hlt (show ls.length≤140737488355328 by omega)]) (by simp[lk,-List.append_assoc]) (by simp[lk,fE,-List.mem_append,-List.mem_map,-List.append_assoc]) (by simp[aA,lk]) (by simp[lk])
  simp only[Bool.not_eq_false'] at q2
  simp +decide only[TF,q2,↓reduceIte]
  apply z;clear z
  iterate 3 first|(refine WP.S jc fun _ z=>?_;simp +decide only[TF,hg,↓reduceIte];apply z;clear z)|(apply WP.skip;show WP ..)|refine WP.cF ?_
  refine WP.cond rfl (fun q6=>?_) (fun q6=>?_)
  ·have hC:=q6
   refine WP.R fun _ z=>?_
   simp +decide only[TF,hg,q6,↓reduceIte]
   refine⟨⟨by simp only[List.length_append,List.length_map,List.length_cons,List.length_nil];omega,by simp only[List.length_append,List.length_map,List.length_cons,List.length_nil];omega⟩,?_⟩
   apply z;clear z
   show WP ..
   refine WP.R fun _ z=>?_;simp +decide only[TF,↓reduceIte];apply z;clear z
   show ∃y,_∧Weak _ _ _
   have hX:(!dn && !Op.bytesLess ls[k] s)=false:=by simp[q2]
   have hY:(ls[k] == s)=false:=by simpa using hC
   simp only[cu,hX,hY,↓reduceIte,Bool.false_eq_true] at hI
   refine⟨⟨(k+1,o++[ls[k]],dn),?_⟩,?_,?_⟩
   ·exact⟨by dsimp only;omega,by simp;omega,hI⟩
   ·dsimp only;omega
   exact Weak.store (by simp[St.get,lk,Le.refl,Hf,-List.append_assoc,hnf,q2,aT hlt (show ls.length≤140737488355328 by omega)]) (by simp[lk,-List.append_assoc]) (by simp[lk,wY,fE,-List.mem_append,-List.mem_map,-List.append_assoc]) (by simp[aA,lk]) (by simp[lk])
  have hD:=q6
  iterate 2 first|(refine WP.R fun _ z=>?_;simp +decide only[TF,q6,↓reduceIte];apply z;clear z)|(apply WP.skip;show WP ..)
  show ∃y,_∧Weak _ _ _
  have hX:(!dn && !Op.bytesLess ls[k] s)=false:=by simp[q2]
  have hY:(ls[k] == s)=true:=by simpa using hD
  simp only[cu,hX,hY,↓reduceIte,Bool.false_eq_true] at hI
  refine⟨⟨(k+1,o,dn),?_⟩,?_,?_⟩
  ·exact⟨by dsimp only;omega,by simp;omega,hI⟩
  ·dsimp only;omega
  exact Weak.store (by simp[St.get,lk,Le.refl,-List.append_assoc,hnf,q2,aT hlt (show ls.length≤140737488355328 by omega)]) (by simp[lk,-List.append_assoc]) (by simp[lk,fE,-List.mem_append,-List.mem_map,-List.append_assoc]) (by simp[aA,lk]) (by simp[lk])
 have hge:=aN q1
 rw[eP hge] at hI
 simp only[List.foldl_nil] at hI
 iterate 3 first|(refine WP.S jc fun _ z=>?_;simp +decide only[TF,q1,↓reduceIte];apply z;clear z)|(apply WP.exit;show WP ..)|apply WP.seq
 refine WP.cond rfl (fun q7=>?_) (fun q7=>?_)
 ·simp only[Bool.not_eq_true'] at q7
  refine WP.R fun _ z=>?_
  simp +decide only[TF,q7,↓reduceIte]
  refine⟨⟨by simp only[List.length_append,List.length_map,List.length_cons,List.length_nil];omega,by simp only[List.length_append,List.length_map,List.length_cons,List.length_nil];omega⟩,?_⟩
  apply z;clear z
  show WP ..
  refine WP.S jc fun _ z=>?_;simp +decide only[TF,↓reduceIte];apply z;clear z
  apply WP.ret
  exact Ends.P rfl ((by simp +decide only[m_,hI,St.get,W,q7,↓reduceIte];first|exact Le.fg _|(simp only[Hf,List.map_append,List.map_cons,List.map_nil];exact Le.fg _)))
 simp only[Bool.not_eq_false'] at q7
 iterate 2 first|(refine WP.S jc fun _ z=>?_;simp +decide only[TF,q7,↓reduceIte];apply z;clear z)|(apply WP.skip;show WP ..)
 apply WP.ret
 exact Ends.P rfl ((by simp +decide only[m_,hI,St.get,W,q7,↓reduceIte];first|exact Le.fg _|(simp only[Hf,List.map_append,List.map_cons,List.map_nil,List.isEmpty_cons,Bool.and_false];exact Le.fg _)))
def Qe (i:Nat)(a:At):D:= .slice 1 false (nT a.vals) (some (3 * i+5))
def bW:Nat→List At→List (List D)
 | _,[]=>[]
 |i,a::l=>[.str (bg a.name),Qe i a]::bW (i+1) l
theorem tJ:∀(i:Nat) (l:List At),(bW i l).length=l.length
 | _,[]=>rfl
 |i,a::l=>by simp[bW,tJ (i+1) l]
theorem yw:∀(i:Nat) (l:List At),∀x∈bW i l,x.length=2
 | _,[],x,h=>by simp[bW] at h
 |i,a::l,x,h=>by
  simp only[bW,List.mem_cons] at h
  rcases h with rfl|h
  ·rfl
  ·exact yw _ l x h
theorem uP (i:Nat)(l:List At):(bW i l).flatten.length=l.length * 2:=by rw[kJ _ (yw i l),tJ]
theorem BR:∀(i:Nat) (l:List At) (j:Nat) (h:j<l.length),(bW i l)[j]?=some [.str (bg l[j].name),Qe (i+j) l[j]]
 | _,[],j,h=>by simp at h
 |i,a::l,0,h=>by simp[bW]
 |i,a::l,j+1,h=>by
  have:=BR (i+1) l j (by simpa using h)
  simp only[bW,List.getElem?_cons_succ,this,List.getElem_cons_succ]
  rw[show i+1+j=i+(j+1) by omega]
theorem J3:∀(i:Nat) (l:List At) (a:At),bW i (l++[a])=bW i l++[[.str (bg a.name),Qe (i+l.length) a]]
 |i,[],a=>by simp[bW]
 |i,b::l,a=>by
  simp only[List.cons_append,bW,J3 (i+1) l a,List.length_cons]
  rw[show i+1+l.length=i+(l.length+1) by omega]
theorem xO {sz:Nat}:∀(es:List (List D)) (j:Nat),(∀x∈es,x.length=sz)→es.flatten.drop (j * sz)=(es.drop j).flatten
 | [],j,_=>by simp
 |e::es,0,_=>by simp
 |e::es,j+1,h=>by
  have he:e.length=sz:=h e (by simp)
  rw[List.flatten_cons,Nat.succ_mul,Nat.add_comm,← List.drop_drop,← he,List.drop_left,he,List.drop_succ_cons]
  exact xO es j fun x hx=>h x (by simp[hx])
theorem zT (i:Nat)(l:List At){j:Nat}(h:j<l.length):(bW i l).flatten.drop (j * 2)= .str (bg l[j].name)::Qe (i+j) l[j]::((bW i l).drop (j+1)).flatten:=by
 rw[xO _ _ (yw i l)]
 have hj:j<(bW i l).length:=by rw[tJ];exact h
 rw[dI hj,List.flatten_cons]
 have:=BR i l j h
 rw[List.getElem?_eq_getElem hj] at this
 rw[Option.some.inj this];rfl
def fK:Nat→List At→List (Nat × aU)
 | _,[]=>[]
 |i,a::l=>(3 * i+5,.aS 9 1 a.vals.length)::fK (i+1) l
theorem J4:∀(i:Nat) (l:List At) (b:Nat),(∀j,j<l.length→b≠3 * (i+j)+5)→lk (fK i l) b=none
 | _,[],_,_=>rfl
 |i,a::l,b,h=>by
  simp only[fK,lk]
  rw[if_neg (by have:=h 0 (by simp);simpa using this)]
  exact J4 (i+1) l b fun j hj=>by have:=h (j+1) (by simpa using hj);rw[show i+1+j=i+(j+1) by omega];exact this
theorem wZ:∀(i:Nat) (l:List At) (j:Nat) (h:j<l.length),lk (fK i l) (3 * (i+j)+5)=some (.aS 9 1 l[j].vals.length)
 | _,[],j,h=>by simp at h
 |i,a::l,0,h=>by simp[fK,lk]
 |i,a::l,j+1,h=>by
  have:=wZ (i+1) l j (by simpa using h)
  rw[show i+1+j=i+(j+1) by omega] at this
  simp only[fK,lk,List.getElem_cons_succ]
  rw[if_neg (by omega)];exact this
theorem pO:∀(i:Nat) (l:List At) (p:Nat × aU),p∈fK i l→∃(j:Nat) (h:j<l.length),p=(3 * (i+j)+5,.aS 9 1 l[j].vals.length)
 | _,[],p,h=>by simp[fK] at h
 |i,a::l,p,h=>by
  simp only[fK,List.mem_cons] at h
  rcases h with rfl|h
  ·exact⟨0,by simp,by simp⟩
  ·obtain⟨j,hj,rfl⟩:=pO (i+1) l p h
   exact⟨j+1,by simpa using hj,by rw[show i+(j+1)=i+1+j by omega];rfl⟩
theorem w_:∀(i:Nat) (l:List At),fresh (fK i l)=if l=[] then 0 else 3 * (i+l.length)+3
 | _,[]=>rfl
 |i,a::l=>by
  simp only[fK,fresh,w_ (i+1) l]
  cases l with
  |nil=>simp;omega
  |cons b l=>simp;omega
theorem BU:∀(i:Nat) (l:List At) (b:Nat),(∀j,j<l.length→b≠3 * (i+j)+5)→dl (fK i l) b=fK i l
 | _,[],_,_=>rfl
 |i,a::l,b,h=>by
  simp only[fK,dl]
  rw[if_neg (by have:=h 0 (by simp);simpa using this),BU (i+1) l b fun j hj=>by have:=h (j+1) (by simpa using hj);rw[show i+1+j=i+(j+1) by omega];exact this]
theorem J5 (f:Nat→Nat)(ls:List (List UInt8)):qQ f (nT ls)=nT ls:=by
 rw[pF,nT,List.map_map];rfl
theorem TM {S:Nat→Prop}(ls:List (List UInt8)):(∀e∈nT ls,∀d∈e,cZ S d)↔True:=fE ls
theorem Om (l:List At)(S:Nat→Prop)(hS:∀j,j<l.length→S (3 * j+5)):∀d∈(bW 0 l).flatten,cZ S d:=by
 intro d hd
 obtain⟨x,hx,hd⟩:=List.mem_flatten.1 hd
 obtain⟨j,hj,rfl⟩:=List.mem_iff_getElem.1 hx
 rw[tJ] at hj
 have h1:=BR 0 l j hj
 rw[List.getElem?_eq_getElem (by rw[tJ];exact hj)] at h1
 rw[Option.some.inj h1] at hd
 simp only[List.mem_cons,List.not_mem_nil,or_false] at hd
 rcases hd with rfl|rfl
 ·exact .str _
 ·refine .slice ((TM _).2 trivial) (fun t ht=>?_)
  cases ht
  rw[Nat.zero_add];exact hS j hj
theorem jH (l:List At)(r:Nat)(X:List (Nat × aU))(hX:∀p∈X,p.1≠r∧(∀j,p.1≠3 * j+5)∧lk X p.1=some p.2∧∀S,aA S p.2)(hr:∀j,r≠3 * j+5):
  ∀p∈((r,aU.arr 75 (bW 0 l).flatten)::(X++fK 0 l)),lk ((r,aU.arr 75 (bW 0 l).flatten)::(X++fK 0 l)) p.1=some p.2∧aA (fun i=>(lk ((r,aU.arr 75 (bW 0 l).flatten)::(X++fK 0 l)) i).isSome=true) p.2:=by
 have hXn:∀j,lk X (3 * j+5)=none:=fun j=>by
  cases h:lk X (3 * j+5) with
  |none=>rfl
  |some x=>exact absurd rfl ((hX _ (iZ _ _ _ h)).2.1 j)
 intro p hp
 simp only[List.mem_cons,List.mem_append] at hp
 rcases hp with rfl|hp|hp
 ·refine⟨by simp[lk],Om l _ fun j hj=>?_⟩
  simp only[lk,mW]
  rw[if_neg (Ne.symm (hr j)),hXn j]
  have:=wZ 0 l j hj
  rw[Nat.zero_add] at this
  rw[this];rfl
 ·obtain⟨h1,h2,h3,h4⟩:=hX p hp
  refine⟨?_,h4 _⟩
  simp only[lk,mW]
  rw[if_neg h1,h3]
 ·obtain⟨j,hj,rfl⟩:=pO 0 l p hp
  refine⟨?_,trivial⟩
  simp only[lk,mW,Nat.zero_add]
  rw[if_neg (Ne.symm (hr j)),hXn j]
  have:=wZ 0 l j hj
  rw[Nat.zero_add] at this
  exact this
theorem abw (a nm:List UInt8)(d:D):aG Pr 155 [.agg [.str a,d],.ref 0 0] [(0,.box 9 [.str nm])] (.bool (a == nm)) [(0,.box 9 [.str nm])]:=by
 refine aG.of_wp Tryz.func155 rfl (by kernel_rfl) Tryz.ntmps155 (by simp) ?_
 simp only[ay,Nat.zero_add,List.map_cons,List.map_nil]
 iterate 2 (refine WP.S [1,2,3] fun _ z=>?_;simp +decide only[TF,↓reduceIte];apply z;clear z)
 apply WP.ret
 refine Ends.imp (.inr rfl) rfl (Le.of_eq (by simp +decide only[St.get,W,↓reduceIte])) ?_ ?_ ?_
 ·simp
 ·simp[lk,aA]
 simp[lk]
theorem abx (a:List UInt8)(nl:Bool)(es:List (List D)):ak Pr 157 [.agg [.str a,.slice 1 nl es none]] (.bool ((es.length:Int) == 0)):=by
 refine ak.W Tryz.func157 Tryz.ntmps157 ?_
 simp only[ay]
 iterate 2 (refine WP.S [1,2] fun _ z=>?_;simp +decide only[TF,↓reduceIte];apply z;clear z)
 apply WP.ret
 exact Ends.P rfl (Le.of_eq (by simp +decide only[St.get,W,↓reduceIte]))
theorem TN (b:Nat)(a nm:List UInt8)(ls:List (List UInt8)):aG Pr 155 [.agg [.str a,.slice 1 false (nT ls) none],.ref b 0] [(b,.box 9 [.str nm])] (.bool (a == nm)) [(b,.box 9 [.str nm])]:=by
 obtain⟨f,g,h1,h2⟩:=kU [b] (by simp)
 have e0:f 0=b:=h2 0 b rfl
 have:=(abw a nm (.slice 1 false (nT ls) none)).rename h1
 simpa [dh,jL,kG,oP,e0,J5] using this
abbrev xg:List Nat:=[0,1,4,5,7,8,9,16]
theorem aby (l:List At)(r b:Nat)(nm:List UInt8)(hbr:b≠r)(h5r:∀j,r≠3 * j+5)(h5b:∀j,b≠3 * j+5)(hne:∀a∈l,(bg a.name == nm)=false)(hn:l.length≤1099511627776):aG Pr 154 [.arr r 2 l.length,.fn (.func 155) [] [.ref b 0]] ((r,.arr 75 (bW 0 l).flatten)::(b,.box 9 [.str nm])::fK 0 l) (.int .i64 (-1)) ((r,.arr 75 (bW 0 l).flatten)::(b,.box 9 [.str nm])::fK 0 l):=by
 have nbr:(b=r)=False:=eq_false hbr
 have nrb:(r=b)=False:=eq_false (Ne.symm hbr)
 refine aG.of_wp Tryz.func154 rfl (by kernel_rfl) Tryz.ntmps154 (by simp) ?_
 simp only[ay,Nat.zero_add,List.map_cons]
 iterate 2 first|(refine WP.S xg fun _ z=>?_;simp +decide only[TF,↓reduceIte];apply z;clear z)|apply WP.seq
 refine WP.S [0,1,7,8] fun _ z=>?_;simp +decide only[TF,↓reduceIte];apply z;clear z
 apply WP.block
 refine WP.lp [0,1,7] (X:={k:Nat // k≤l.length}) (fun x=>match x with| ⟨(k),_⟩=>[(8,.int .i64 k)]) (fun x=>match x with| ⟨(k),_⟩=>((r,.arr 75 (bW 0 l).flatten)::(b,.box 9 [.str nm])::fK 0 l)) (fun x=>match x with| ⟨(k),_⟩=>l.length - k) (by simp +decide only[W,↓reduceIte];rfl) ?_ ⟨(0),Nat.zero_le _⟩ ?_
 rotate_left
 ·exact Weak.qg (by simp[St.get,lk,W,Le.refl]) (fun _=>rfl)
 rintro ⟨k,hk⟩
 dsimp only
 simp only[List.cons_append,List.nil_append]
 iterate 2 first|(refine WP.S xg fun _ z=>?_;simp +decide only[TF,↓reduceIte];apply z;clear z)|apply WP.seq
 refine WP.cond rfl (fun q1=>?_) (fun q1=>?_)
 ·have hlt:=aK q1
  have hd:(bW 0 l).flatten.drop (k * 2)= .str (bg l[k].name)::Qe k l[k]::((bW 0 l).drop (k+1)).flatten:=by rw[zT 0 l hlt,Nat.zero_add]
  have hkl:(k<l.length)=True:=by simp[hlt]
  have h22:∀n:Nat,(2≤n+1+1)=True:=fun n=>eq_true (by omega)
  have hx:=hne _ (List.getElem_mem hlt)
  iterate 4 first|(refine WP.S xg fun _ z=>?_;simp +decide only[TF,q1,↓reduceIte];apply z;clear z)|(apply WP.skip;show WP ..)|apply WP.block|apply WP.seq
  refine WP.S xg fun _ z=>?_
  simp +decide only[TF,hd,hkl,h22,↓reduceIte]
  refine aj.imp (TN b (bg l[k].name) nm l[k].vals) rfl rfl (by simp[lk,aA,nbr]) (by simp[lk]) (by simp[lk,nT]) ?_
  simp +decide only[TF,nbr,↓reduceIte]
  apply z;clear z
  refine WP.cond rfl (fun q2=>?_) (fun q2=>?_)
  ·exact absurd q2 (by simp[hx])
  iterate 2 first|(refine WP.R fun _ z=>?_;simp +decide only[TF,q2,↓reduceIte];apply z;clear z)|(apply WP.skip;show WP ..)
  show ∃y,_∧Weak _ _ _
  refine⟨⟨k+1,?_⟩,?_,?_⟩
  ·show k+1≤l.length;omega
  ·dsimp only;omega
  exact Weak.qg (by simp[St.get,lk,Le.refl,aT hlt (show l.length≤140737488355328 by omega)]) (fun i=>by simp only[lk,Mc];repeat' split <;> simp_all)
 have hge:=aN q1
 iterate 2 first|(refine WP.S xg fun _ z=>?_;simp +decide only[TF,q1,↓reduceIte];apply z;clear z)|(apply WP.exit;show WP ..)
 apply WP.ret
 refine Ends.imp (.inr rfl) rfl (Le.of_eq (by simp +decide only[St.get,W,↓reduceIte])) ?_ ?_ ?_
 ·simp
 ·exact jH l r [(b,.box 9 [.str nm])] (by simp[aA,hbr,h5b,lk]) h5r
 intro p hp;exact Option.isSome_iff_exists.2 ⟨_,(jH l r [(b,.box 9 [.str nm])] (by simp[aA,hbr,h5b,lk]) h5r p hp).1⟩
abbrev xk:List Nat:=[0,1,4,5,7,8,9,16]
theorem abz (l:List At)(r:Nat)(h5r:∀j,r≠3 * j+5)  (hne:∀a∈l,a.vals≠[])(hn:l.length≤1099511627776):aG Pr 154 [.arr r 2 l.length,.fn (.func 157) [] []] ((r,.arr 75 (bW 0 l).flatten)::fK 0 l) (.int .i64 (-1)) ((r,.arr 75 (bW 0 l).flatten)::fK 0 l):=by
 refine aG.of_wp Tryz.func154 rfl (by kernel_rfl) Tryz.ntmps154 (by simp) ?_
 simp only[ay,Nat.zero_add,List.map_cons]
 iterate 2 first|(refine WP.S xk fun _ z=>?_;simp +decide only[TF,↓reduceIte];apply z;clear z)|apply WP.seq
 refine WP.S [0,1,7,8] fun _ z=>?_;simp +decide only[TF,↓reduceIte];apply z;clear z
 apply WP.block
 refine WP.lp [0,1,7] (X:={k:Nat // k≤l.length}) (fun x=>match x with| ⟨(k),_⟩=>[(8,.int .i64 k)]) (fun x=>match x with| ⟨(k),_⟩=>((r,.arr 75 (bW 0 l).flatten)::fK 0 l)) (fun x=>match x with| ⟨(k),_⟩=>l.length - k) (by simp +decide only[W,↓reduceIte];rfl) ?_ ⟨(0),Nat.zero_le _⟩ ?_
 rotate_left
 ·exact Weak.qg (by simp[St.get,lk,W,Le.refl,W]) (fun _=>rfl)
 rintro ⟨k,hk⟩
 dsimp only
 simp only[List.cons_append,List.nil_append]
 iterate 2 first|(refine WP.S xk fun _ z=>?_;simp +decide only[TF,↓reduceIte];apply z;clear z)|apply WP.seq
 refine WP.cond rfl (fun q1=>?_) (fun q1=>?_)
 ·have hlt:=aK q1
  have hd:(bW 0 l).flatten.drop (k * 2)= .str (bg l[k].name)::Qe k l[k]::((bW 0 l).drop (k+1)).flatten:=by rw[zT 0 l hlt,Nat.zero_add]
  have hkl:(k<l.length)=True:=by simp[hlt]
  have h22:∀n:Nat,(2≤n+1+1)=True:=fun n=>eq_true (by omega)
  have hx:(((nT l[k].vals).length:Int) == 0)=false:=beq_eq_false_iff_ne.2 (by rw[qh];have:=List.length_pos_iff.2 (hne _ (List.getElem_mem hlt));omega)
  iterate 4 first|(refine WP.S xk fun _ z=>?_;simp +decide only[TF,q1,↓reduceIte];apply z;clear z)|(apply WP.skip;show WP ..)|apply WP.block|apply WP.seq
  refine WP.S xk fun _ z=>?_
  simp +decide only[TF,hd,hkl,h22,↓reduceIte]
  refine aj.pure (abx (bg l[k].name) false (nT l[k].vals)) rfl rfl (by simp[nT]) ?_
  simp +decide only[TF,↓reduceIte]
  apply z;clear z
  refine WP.cond rfl (fun q2=>?_) (fun q2=>?_)
  ·exact absurd q2 (by simp[hx])
  iterate 2 first|(refine WP.R fun _ z=>?_;simp +decide only[TF,q2,↓reduceIte];apply z;clear z)|(apply WP.skip;show WP ..)
  show ∃y,_∧Weak _ _ _
  refine⟨⟨k+1,?_⟩,?_,?_⟩
  ·show k+1≤l.length;omega
  ·dsimp only;omega
  exact Weak.qg (by simp[St.get,lk,Le.refl,aT hlt (show l.length≤140737488355328 by omega)]) (fun i=>by simp only[lk];repeat' split <;> simp_all)
 have hge:=aN q1
 iterate 2 first|(refine WP.S xk fun _ z=>?_;simp +decide only[TF,q1,↓reduceIte];apply z;clear z)|(apply WP.exit;show WP ..)
 apply WP.ret
 refine Ends.imp (.inr rfl) rfl (Le.of_eq (by simp +decide only[St.get,W,↓reduceIte])) ?_ ?_ ?_
 ·simp
 ·exact jH l r [] (by simp) h5r
 intro p hp;exact Option.isSome_iff_exists.2 ⟨_,(jH l r [] (by simp) h5r p hp).1⟩
theorem aG.lkE {P:gy}{k:FuncId}{ds:List D}{ins outs ins' abA:List (Nat × aU)}{v:D}(h:aG P k ds ins v outs)(h1:∀b,lk ins' b=lk ins b)(h2:∀b,lk abA b=lk outs b):aG P k ds ins' v abA:=by
 unfold aG at h ⊢
 rw[show lk ins'=lk ins from funext h1,show lk abA=lk outs from funext h2];exact h
def zU:Nat→D
 | 0=> .slice 2 true [] (some 2)
 |k+1=> .arr 2 2 (k+1)
def outT:List At→List (Nat × aU)
 | []=>[(2,.aS 75 2 0)]
 |a::l=>(2,.arr 75 (bW 0 (a::l)).flatten)::fK 0 (a::l)
theorem abB {n:Nat}:∀{R:List D},R.length=n→∀a b:D,(R++[a,b]).drop (n+1)=[b]
 | [],rfl,a,b=>rfl
 |x::R,rfl,a,b=>abB (R:=R) rfl a b
theorem abC {n:Nat}:∀{R:List D},R.length=n→∀a b:D,(R++[a,b]).drop (n+1+1)=[]
 | [],rfl,a,b=>rfl
 |x::R,rfl,a,b=>abC (R:=R) rfl a b
theorem abD {n:Nat}:∀{R:List D},R.length=n→∀a b:D,(R++[a,b]).take (n+1)=R++[a]
 | [],rfl,a,b=>rfl
 |x::R,rfl,a,b=>congrArg (x::·) (abD (R:=R) rfl a b)
theorem YV {S S':Nat→Prop}(h:∀b,S b→S' b){x:aU}(hx:aA S x):aA S' x:=by
 cases x with
 |box t cs=>exact fun d hd=>(hx d hd).mono h
 |arr t cs=>exact fun d hd=>(hx d hd).mono h
 |map es c=>exact fun d hd=>(hx d hd).mono h
 |dS m s q z=>exact h _ hx
 | _=>trivial
theorem aeC (k:Nat):(k=0∧zU k= .slice 2 true [] (some 2))∨zU k= .arr 2 2 k:=by cases k with|zero=>exact .inl ⟨rfl,rfl⟩|succ k=>exact .inr rfl
theorem J6 {l:List At}(h:l≠[]):outT l=(2,.arr 75 (bW 0 l).flatten)::fK 0 l:=by cases l with|nil=>exact absurd rfl h|cons a l=>rfl
theorem abE {k:Nat}(h:0<k):zU k= .arr 2 2 k:=by cases k with|zero=>omega|succ k=>rfl
theorem VH (l:List At):fresh (outT l)=3 * l.length+3:=by
 cases l with
 |nil=>rfl
 |cons a l=>
  rw[outT];simp only[fresh]
  rw[w_,if_neg (by simp)];simp only[List.length_cons];omega
theorem abG (l:List At):Dv (lk (outT l)) 2 75 2 (bW 0 l).flatten l.length (zU l.length):=by
 cases l with
 |nil=>exact .inl ⟨.inr ⟨rfl,2,rfl⟩,rfl,rfl⟩
 |cons a l=>exact .inr ⟨rfl,uP _ _,rfl⟩
theorem aeD (l:List At)(b:Nat)(h2:b≠2):lk (outT l) b=lk (fK 0 l) b:=by
 cases l with
 |nil=>simp[outT,lk,fK,h2]
 |cons a l=>simp[outT,lk,h2]
theorem af0:∀(l:List (Nat × aU)) (b:Nat),(∀p∈l,p.1≠b)→dl l b=l
 | [],_,_=>rfl
 |(c,x)::l,b,h=>by
  simp only[dl]
  rw[if_neg (fun e=>h (c,x) (by simp) e.symm),af0 l b fun p hp=>h p (by simp[hp])]
theorem XA (l:List At)(b:Nat)(h2:b≠2)(h:b<5∨3 * l.length+3≤b∨b % 3≠2):dl (outT l) b=outT l:=by
 refine af0 _ _ fun p hp=>?_
 cases l with
 |nil=>simp only[outT,List.mem_singleton] at hp;subst hp;exact fun e=>h2 e.symm
 |cons a l=>
  simp only[outT,List.mem_cons] at hp
  rcases hp with rfl|hp
  ·exact fun e=>h2 e.symm
  ·obtain⟨j,hj,rfl⟩:=pO 0 (a::l) p hp
   dsimp only;omega
theorem abH (l:List At):dl (outT l) 2=fK 0 l:=by
 cases l with
 |nil=>rfl
 |cons a l=>
  rw[outT];simp only[dl,↓reduceIte]
  exact BU 0 (a::l) 2 fun j _=>by omega
theorem YW {l:List At}{k:Nat}(hk:k<l.length){σ:Nat→Option aU}(h2:σ 2=some (.arr 75 (bW 0 (l.take (k+1))).flatten))(hC:σ (3 * k+5)=some (.aS 9 1 l[k].vals.length))
  (hr:∀j,j<k→σ (3 * j+5)=lk (fK 0 (l.take k)) (3 * j+5)):∀q∈outT (l.take (k+1)),σ q.1=some q.2:=by
 rw[J6 (by simp;rintro rfl;simp at hk)]
 intro q hq
 simp only[List.mem_cons] at hq
 rcases hq with rfl|hq
 ·exact h2
 ·obtain⟨j,hj,rfl⟩:=pO 0 _ q hq
  rw[List.length_take] at hj
  have hj':j<l.length:=by omega
  simp only[Nat.zero_add,List.getElem_take]
  by_cases h:j=k
  ·subst h;exact hC
  ·rw[hr j (by omega)]
   have:=wZ 0 (l.take k) j (by rw[List.length_take];omega)
   simp only[Nat.zero_add,List.getElem_take] at this
   exact this
theorem take_snoc {l:List At}{k:Nat}(hk:k<l.length):l.take (k+1)=l.take k++[l[k]]:=by rw[List.take_add_one,List.getElem?_eq_getElem hk];rfl
theorem VI {l:List At}{k:Nat}(hk:k<l.length):(bW 0 (l.take (k+1))).flatten=(bW 0 (l.take k)).flatten++[.str (bg l[k].name),Qe k l[k]]:=by
 rw[take_snoc hk,J3,List.flatten_append,List.length_take]
 simp[Nat.min_eq_left (Nat.le_of_lt hk)]
theorem Oo (l:List At):∀q∈outT l,aA (fun i=>(lk (outT l) i).isSome=true) q.2:=by
 cases l with
 |nil=>simp[outT,aA]
 |cons a l=>intro q hq;exact (jH (a::l) 2 [] (by simp) (by omega) q hq).2
theorem aeE (l:List At)(b:Nat)(nm:List UInt8)(hb:b=3 * l.length+4):∀p∈((b,aU.box 9 [.str nm])::outT l),aA (fun i=>(lk ((b,aU.box 9 [.str nm])::outT l) i).isSome=true) p.2:=by
 intro p hp
 simp only[List.mem_cons] at hp
 rcases hp with rfl|hp
 ·simp[aA]
 ·exact YV (fun i hi=>by simp only[lk];split <;> first|rfl|exact hi) (Oo l p hp)
theorem abI (l:List At)(b:Nat)(x:aU)(hb:b=3 * l.length+4):∀d∈[fg (zU l.length),D.fn (.func 155) [] [.ref b 0]],cZ (fun i=>(lk ((b,x)::outT l) i).isSome=true) d:=by
 cases l with
 |nil=>simp[zU,fg,lk]
 |cons a l=>
  simp[zU,fg,lk,outT]
  split <;> rfl
theorem YX (l:List At)(A B:Nat)(nm:List UInt8)(a:At):∀i blk,i≠2→lk ((B,aU.box 9 [.str nm])::(A,.box 75 a.cs)::outT l) i=some blk→aA (fun i=>i≠2) blk:=by
 intro i blk h2 h
 simp only[lk] at h
 split at h
 ·cases h;simp[aA]
 split at h
 ·cases h;exact fun d hd=>BQ a d hd
 ·rw[aeD l i h2] at h
  obtain⟨j,hj,e⟩:=pO 0 l _ (iZ _ _ _ h)
  cases e;trivial
theorem YZ {σ σ':Nat→Option aU}{b:Nat}{e:TypeId}{sz n:Nat}{cs:List D}{x:D}(h:Dv σ b e sz cs n x)(hb:σ' b=σ b):Dv σ' b e sz cs n x:=by
 unfold Dv at h ⊢;rw[hb];exact h
theorem ajw (l:List At)(b:Nat)(nm:List UInt8)(hb:b=3 * l.length+4)(hne:∀a∈l,(bg a.name == nm)=false)(hn:l.length≤1099511627776)(h0:aG Pr 154 [.slice 2 true [] none,.fn (.func 155) [] [.ref b 0]] [(b,.box 9 [.str nm])] (.int .i64 (-1)) [(b,.box 9 [.str nm])]):
  aG Pr 154 [fg (zU l.length),.fn (.func 155) [] [.ref b 0]] ((b,.box 9 [.str nm])::outT l) (.int .i64 (-1)) ((b,.box 9 [.str nm])::outT l):=by
 cases l with
 |nil=>exact aG.frame [(2,.aS 75 2 0)] h0 (by intro i blk h;have:=iZ _ _ _ h;simp only[List.mem_singleton] at this;cases this;simp[aA]) (fun _ h=>h) (fun _ h=> .inl h) (by simp[lk])
 |cons a l=>
  refine aG.lkE (aby (a::l) 2 b nm (by omega) (by omega) (by omega) hne hn) ?_ ?_ <;>
  ·intro j
   simp only[outT,lk]
   by_cases h:j=b
   ·rw[if_pos h,if_neg (by omega),if_pos h]
   ·rw[if_neg h,if_neg h]
theorem ahv (l:List At)(b:Nat)(hb:b=3 * l.length+4)(x:aU)(A:Nat)(y:aU)(hA:A=3 * l.length+3):∀p∈((b,x)::outT l),lk ((b,x)::(A,y)::outT l) p.1=some p.2:=by
 intro p hp
 simp only[List.mem_cons] at hp
 rcases hp with rfl|hp
 ·simp[lk]
 ·have hs:∀q∈outT l,lk (outT l) q.1=some q.2∧q.1≠b∧q.1≠A:=by
   intro q hq
   cases l with
   |nil=>simp only[outT,List.mem_singleton] at hq;subst hq;refine⟨rfl,?_,?_⟩ <;> (simp at hb hA ⊢;omega)
   |cons a l=>
    refine⟨(jH (a::l) 2 [] (by simp) (by omega) q hq).1,?_⟩
    simp only[outT,List.mem_cons] at hq
    rcases hq with rfl|hq
    ·dsimp only;omega
    ·obtain⟨j,hj,rfl⟩:=pO 0 (a::l) q hq
     dsimp only;omega
  obtain⟨h1,h2,h3⟩:=hs p hp
  simp only[lk]
  rw[if_neg h2,if_neg h3,h1]
theorem TP (st:St)(ws:List (Nat × aU)):(st.lay ws).F=st.F:=by cases ws <;> rfl
theorem Oq {σ:Nat→Option aU}:∀{ws:List (Nat × aU)},(∀p∈ws,σ p.1=some p.2)→∀b,laid σ ws b=σ b
 | [],_,b=>rfl
 |(c,x)::ws,h,b=>by
  have ih:=Oq (σ:=σ) (ws:=ws) (fun p hp=>h p (by simp[hp])) b
  simp only[laid,lk] at ih ⊢
  by_cases e:b=c
  ·rw[if_pos e,e,h (c,x) (by simp)]
  ·rw[if_neg e];exact ih
theorem TQ (st:St)(ws:List (Nat × aU))(h:∀p∈ws,lk st.σ p.1=some p.2):∀b,lk (st.lay ws).σ b=lk st.σ b:=by
 intro b;rw[lay_σ];exact Oq h b
theorem aj.keep {P:gy}{fo:D}{args:List D}{σ:List (Nat × aU)}{K:D→Rec→Prop}{k:FuncId}{first cap ds:List D}{ins:List (Nat × aU)}{val:D}(h:aG P k ds ins val ins)(hfo:fo= .fn (.func k) first cap)(has:ds=(first++args++cap).map fg)
  (hin:∀p∈ins,lk σ p.1=some p.2∧aA (fun i=>(lk ins i).isSome=true) p.2) (hcl:∀d∈ds,cZ (fun i=>(lk ins i).isSome=true) d) (hk:∀ws zA,(∀p∈ws,lk σ p.1=some p.2)→K val ⟨zA,ws⟩):aj P fo args σ K:=
 aj.imp h hfo has hin (fun p hp=> .inl (by
  cases hl:lk ins p.1 with
  |some x=>rfl
  |none=>
   have:∀(l:List (Nat × aU)),p∈l→(lk l p.1).isSome=true:=fun l=>by
    induction l with
    |nil=>intro h;cases h
    |cons q l ih=>
     intro h
     obtain⟨c,x⟩:=q
     simp only[lk]
     split
     ·rfl
     ·rename_i hne
      rcases List.mem_cons.1 h with rfl|h
      ·exact absurd rfl hne
      ·exact ih h
   have:=this ins hp
   rw[hl] at this;cases this)) hcl (hk _ _ fun p hp=>(hin p hp).1)
theorem Weak.lay {ent:List Nat}{st st':St}{F:List (Nat × D)}{ws:List (Nat × aU)}(hw:∀p∈ws,lk st.σ p.1=some p.2)(hF:∀p∈st'.F,Le ((⟨F,[]⟩:St).get p.1) p.2)(hσ:∀b,lk st'.σ b=lk st.σ b):Weak ent ⟨F,(st.lay ws).σ⟩ st':=
 Weak.qg hF fun b=>by rw[hσ b];exact (TQ st ws hw b).symm
theorem abJ (b:Nat)(nm:List UInt8):aG Pr 154 [.slice 2 true [] none,.fn (.func 155) [] [.ref b 0]] [(b,.box 9 [.str nm])] (.int .i64 (-1)) [(b,.box 9 [.str nm])]:=by
 refine aG.of_wp Tryz.func154 rfl (by kernel_rfl) Tryz.ntmps154 (by simp) ?_
 simp only[ay,Nat.zero_add,List.map_cons,List.map_nil]
 iterate 2 first|(refine WP.S [0,1,4,7,8,9] fun _ z=>?_;simp +decide only[TF,↓reduceIte];apply z;clear z)|apply WP.seq
 refine WP.S [0,1,7,8] fun _ z=>?_;simp +decide only[TF,↓reduceIte];apply z;clear z
 apply WP.block
 refine WP.lp [0,1,7] (X:={k:Nat // k≤0}) (fun x=>match x with| ⟨(k),_⟩=>[(8,.int .i64 k)]) (fun x=>match x with| ⟨(k),_⟩=>[(b,.box 9 [.str nm])]) (fun x=>match x with| ⟨(k),_⟩=>0 - k) (by simp +decide only[W,↓reduceIte];rfl) ?_ ⟨(0),Nat.zero_le _⟩ ?_
 rotate_left
 ·exact Weak.qg (by simp[St.get,lk,W,Le.refl,W]) (fun _=>rfl)
 rintro ⟨k,hk⟩
 dsimp only
 simp only[List.cons_append,List.nil_append]
 iterate 2 first|(refine WP.S [0,1,4,7,8,9] fun _ z=>?_;simp +decide only[TF,↓reduceIte];apply z;clear z)|apply WP.seq
 refine WP.cond rfl (fun q1=>?_) (fun q1=>?_)
 ·exact absurd (of_decide_eq_true q1) (by omega)
 iterate 2 first|(refine WP.S [0,1,4,7,8,9] fun _ z=>?_;simp +decide only[TF,q1,↓reduceIte];apply z;clear z)|(apply WP.exit;show WP ..)
 apply WP.ret
 refine Ends.imp (.inr rfl) rfl (Le.of_eq (by simp +decide only[St.get,W,↓reduceIte])) ?_ ?_ ?_
 ·simp
 ·simp[lk,aA]
 simp[lk]
theorem ahw (l:List At)(hne:∀a∈l,a.vals≠[])(hn:l.length≤1099511627776):aG Pr 156 [.arr 2 2 l.length,.fn (.func 157) [] []] ((2,.arr 75 (bW 0 l).flatten)::fK 0 l) (.arr 2 2 l.length) ((2,.arr 75 (bW 0 l).flatten)::fK 0 l):=by
 refine aG.of_wp Tryz.func156 rfl (by kernel_rfl) Tryz.ntmps156 (by simp) ?_
 simp only[ay,Nat.zero_add,List.map_cons]
 refine WP.sr [0,1] (by kernel_rfl) fun K hK=>?_
 simp +decide only[TF,↓reduceIte]
 refine hK _ _ ?_;clear hK K
 refine WP.meet (⟨[(5,.int .i64 (-1)),(0,.arr 2 2 l.length)],(2,.arr 75 (bW 0 l).flatten)::fK 0 l⟩) ?_ ?_
 ·
  refine WP.region (by kernel_rfl) fun K hK=>?_
  simp +decide only[TF,↓reduceIte]
  refine aj.keep (abz l 2 (by omega) hne hn) rfl rfl (jH l 2 [] (by simp) (by omega)) (by simp[lk]) ?_
  intro ws zA hws
  simp +decide only[TF,nD,↓reduceIte]
  refine hK _ _ ?_
  show Weak _ _ _
  exact Weak.lay hws (by simp[St.get,lk,W,TP,Le.refl,W]) (fun _=>rfl)
 ·
  refine WP.seq ?_
  refine WP.sr [0,1,5,12] (by kernel_rfl) fun K hK=>?_
  simp +decide only[TF,↓reduceIte]
  refine hK _ _ ?_;clear hK K
  refine WP.cond (b:=true) (by rfl) (fun _=>?_) nofun
  refine WP.sr [4] (by kernel_rfl) fun K hK=>?_
  simp +decide only[TF,↓reduceIte]
  refine hK _ _ ?_;clear hK K
  refine WP.ret ?_
  refine Ends.imp (.inr rfl) rfl (Le.of_eq (by simp +decide only[St.get,W,↓reduceIte])) ?_ ?_ ?_
  · simp[lk]
  · exact jH l 2 [] (by simp) (by omega)
  · intro p hp;exact Option.isSome_iff_exists.2 ⟨_,(jH l 2 [] (by simp) (by omega) p hp).1⟩
abbrev tK:List Nat:=[0,2,3,8,13,25]
theorem Y0 (vs:List (List UInt8))(hn:vs.length≤1099511627776)(hne:∀(j:Nat) (h:j+1<vs.length),(vs[j+1] == vs[j])=false):aG Pr 158 [.arr 0 1 vs.length] [(0,.arr 9 (vs.map .str))] (.arr 0 1 vs.length) [(0,.arr 9 (vs.map .str))]:=by
 refine aG.of_wp Tryz.func158 rfl (by kernel_rfl) Tryz.ntmps158 (by simp) ?_
 simp only[ay,List.map_cons,List.map_nil]
 iterate 3 first|(refine WP.S tK fun _ z=>?_;simp +decide only[TF,↓reduceIte];apply z;clear z)|apply WP.seq
 refine WP.cond rfl (fun q1=>?_) (fun q1=>?_)
 ·refine WP.S tK fun _ z=>?_;simp +decide only[TF,q1,↓reduceIte];apply z;clear z
  apply WP.ret
  refine Ends.imp (.inr rfl) rfl (Le.of_eq (by simp +decide only[St.get,W,↓reduceIte])) ?_ ?_ ?_
  ·simp[lk]
  ·simp[lk,aA]
  simp[lk]
 have h2:=of_decide_eq_false q1
 iterate 2 first|(apply WP.skip;show WP ..)|apply WP.seq
 refine WP.S [0,3] fun _ z=>?_;simp +decide only[TF,q1,↓reduceIte];apply z;clear z
 apply WP.block
 refine WP.lp [0] (X:={k:Nat // k+1≤vs.length}) (fun x=>match x with| ⟨(k),_⟩=>[(3,.int .i64 ((k+1:Nat):Int))]) (fun x=>match x with| ⟨(k),_⟩=>[(0,.arr 9 (vs.map .str))]) (fun x=>match x with| ⟨(k),_⟩=>vs.length - (k+1)) (by simp +decide only[W,↓reduceIte];rfl) ?_ ⟨(0),by omega⟩ ?_
 rotate_left
 ·exact Weak.qg (by simp[St.get,lk,W,Le.refl]) (fun _=>rfl)
 rintro ⟨k,hk⟩
 dsimp only
 simp only[List.cons_append,List.nil_append]
 iterate 2 first|(refine WP.S tK fun _ z=>?_;simp +decide only[TF,↓reduceIte];apply z;clear z)|apply WP.seq
 refine WP.cond rfl (fun q2=>?_) (fun q2=>?_)
 ·have hlt:(k+1)<vs.length:=by have:=of_decide_eq_true q2;omega
  have hx:=hne k hlt
  have hw:IntKind.i64.wrap (((k+1:Nat):Int) - 1)=((k:Nat):Int):=by rw[Int.natCast_add,Int.natCast_one,Int.add_sub_cancel];exact wrap_i64 (by omega) (by omega)
  have hk1:(k+1<vs.length)=True:=eq_true hlt
  have hk2:(k<vs.length)=True:=eq_true (by omega)
  have hg1:(vs.map D.str).drop (k+1)= .str vs[k+1]::(vs.map D.str).drop (k+1+1):=by rw[← List.map_drop,← List.map_drop,dI hlt];rfl
  have hg2:(vs.map D.str).drop k= .str vs[k]::(vs.map D.str).drop (k+1):=by rw[← List.map_drop,← List.map_drop,dI (by omega:k<vs.length)];rfl
  iterate 4 first|(refine WP.D tK fun _ z=>?_;simp +decide only[TF,q2,hx,hw,hk1,hk2,hg1,hg2,Nat.mul_one,↓reduceIte];refine z _ _ (by kernel_rfl) ?_;clear z)|(apply WP.skip;show WP ..)|apply WP.block|apply WP.seq
  refine WP.cond rfl (fun q3=>?_) (fun q3=>?_)
  ·exact absurd q3 (by decide)
  iterate 2 first|(refine WP.R fun _ z=>?_;simp +decide only[TF,↓reduceIte];apply z;clear z)|(apply WP.skip;show WP ..)
  show ∃y,_∧Weak _ _ _
  refine⟨⟨k+1,hlt⟩,?_,?_⟩
  ·dsimp only;omega
  exact Weak.qg (by simp[St.get,lk,Le.refl,show IntKind.i64.wrap ((k:Int)+1+1)=(k:Int)+1+1 from wrap_i64 (by omega) (by omega)]) (fun _=>rfl)
 have hge:vs.length≤(k+1):=by have:=of_decide_eq_false q2;omega
 iterate 2 first|(refine WP.S tK fun _ z=>?_;simp +decide only[TF,q2,↓reduceIte];apply z;clear z)|(apply WP.exit;show WP ..)
 apply WP.ret
 refine Ends.imp (.inr rfl) rfl (Le.of_eq (by simp +decide only[St.get,W,↓reduceIte])) ?_ ?_ ?_
 ·simp[lk]
 ·simp[lk,aA]
 simp[lk]
end Go.Proofs
namespace Go.Proofs
open Go Go.Id Go.Shelf Go.Sort
abbrev Row:=List UInt8 × Nat × Nat
def Row.cs (r:Row):List D:=[.str r.1,.arr r.2.1 1 r.2.2]
def iW (rs:List Row):List D:=(rs.map Row.cs).flatten
theorem yx (rs:List Row):∀x∈rs.map Row.cs,x.length=2:=by
 intro x hx
 obtain⟨r,_,rfl⟩:=List.mem_map.1 hx;rfl
theorem lH (rs:List Row):(iW rs).length=rs.length * 2:=by rw[iW,kJ _ (yx rs),List.length_map]
abbrev RV:=Row × {v:Value // v.oneCell'=true}
instance:Inhabited RV:=⟨([],0,0),⟨.int .i64 0,rfl⟩⟩
def encR (x:RV):List Value:=[encStr x.1.1,x.2.1]
def VJ (x y:RV):Int:=if Op.bytesLess x.1.1 y.1.1=true then -1 else 1
theorem ltR (x y:RV):ltOf VJ x y=Op.bytesLess x.1.1 y.1.1:=by
 unfold ltOf VJ
 cases Op.bytesLess x.1.1 y.1.1 <;> rfl
theorem aly:SWO (ltOf VJ) where
 irrefl x:=by rw[ltR];exact mZ _
 trans x y z h k:=by rw[ltR] at *;exact lZ _ _ _ h k
 ntrans x y z h k:=by
  rw[ltR] at *
  cases q:Op.bytesLess x.1.1 z.1.1
  ·rfl
  ·rcases qy y.1.1 z.1.1 with p|p|p
   ·rw[k] at p;cases p
   ·rw[← p,h] at q;cases q
   ·have:=lZ _ _ _ q p;rw[h] at this;cases this
set_option maxHeartbeats 1000000 in
theorem abK (x y:RV)(W:World):Calls Tryz.prog 160 #[.agg (encR x).toArray,.agg (encR y).toArray] W fun e w'=>e= .returned (.int .i64 (VJ x y))∧∃q os',w'=grow (W.drewN q) os':=by
 unfold VJ encR
 cases h:Op.bytesLess x.1.1 y.1.1
 all_goals
  go_enter Tryz.func160,Tryz.ntmps160
  go_wp2
  go_ret
  exact⟨rfl,0,_,by rw[alloc_eq_grow,alloc_eq_grow,grow_grow];rfl⟩
def tN (rs:List Row):List Row:=rs.mergeSort fun x y=>!Op.bytesLess y.1 x.1
theorem pR (rs:List Row):(tN rs).length=rs.length:=List.length_mergeSort rs
theorem zV (rs:List Row):(tN rs).Perm rs:=List.mergeSort_perm rs _
theorem Y1 (rs:List Row):(tN rs).Pairwise fun x y=>Op.bytesLess y.1 x.1=false:=by
 have:(tN rs).Pairwise fun x y=>(!Op.bytesLess y.1 x.1)=true:=by
  refine List.pairwise_mergeSort (fun a b c h k=>?_) (fun a b=>?_) rs
  ·rw[Bool.not_eq_true'] at h k ⊢
   cases hca:Op.bytesLess c.1 a.1
   ·rfl
   ·rcases qy b.1 c.1 with q|q|q
    ·have:=lZ _ _ _ q hca;rw[h] at this;cases this
    ·rw[q] at h;rw[h] at hca;cases hca
    ·rw[k] at q;cases q
  ·cases hba:Op.bytesLess b.1 a.1
   ·rfl
   ·rw[qA _ _ hba];rfl
 exact this.imp fun h=>by simpa using h
theorem abL {rs L:List Row}(hp:L.Perm rs)(hs:L.Pairwise fun x y=>Op.bytesLess y.1 x.1=false)(hn:(rs.map (·.1)).Nodup):L=tN rs:=by
 refine List.Perm.eq_of_pairwise (le:=fun x y:Row=>Op.bytesLess y.1 x.1=false) (fun a b ha hb h k=>?_) hs (Y1 rs) (hp.trans (zV rs).symm)
 have ha':=hp.mem_iff.1 ha
 have hb':=(zV rs).mem_iff.1 hb
 have he:a.1=b.1:=by
  rcases qy a.1 b.1 with q|q|q
  ·rw[k] at q;cases q
  ·exact q
  ·rw[h] at q;cases q
 obtain⟨i,hi,rfl⟩:=List.mem_iff_getElem.1 ha'
 obtain⟨j,hj,rfl⟩:=List.mem_iff_getElem.1 hb'
 have:=(List.getElem_inj (h₀:=by simpa using hi) (h₁:=by simpa using hj) hn).1 (by simpa using he)
 subst this;rfl
def vOf (us:Array Value)(j:Nat):{v:Value // v.oneCell'=true}:=if h:((us[j * 2+1]?).getD (.int .i64 0)).oneCell'=true then ⟨_,h⟩ else ⟨.int .i64 0,rfl⟩
def J7 (us:Array Value)(rs:List Row):List RV:=rs.mapIdx fun j r=>(r,vOf us j)
theorem nK (us:Array Value)(rs:List Row):(J7 us rs).length=rs.length:=by simp[J7]
theorem abM (us:Array Value)(rs:List Row)(j:Nat)(h:j<rs.length):(J7 us rs)[j]'(by rw[nK];exact h)=(rs[j],vOf us j):=by simp[J7]
theorem aeF (us:Array Value)(rs:List Row):(J7 us rs).map (·.1)=rs:=by
 refine List.ext_getElem (by simp[J7]) fun j h1 h2=>?_
 simp[J7]
theorem abN {us:Array Value}{j:Nat}{u:Value}(h:us[j * 2+1]?=some u)(h1:u.oneCell'=true):(vOf us j).1=u:=by
 unfold vOf
 rw[h];simp[h1]
theorem abO {us:Array Value}{rs:List Row}(hn:(rs.map (·.1)).Nodup){d':Array RV}(hp:PermIn 0 (J7 us rs).toArray.size (J7 us rs).toArray d')(hs:SortedIn (ltOf VJ) 0 (J7 us rs).toArray.size d'):d'.size=rs.length∧d'.toList.map (·.1)=tN rs∧∀x∈d'.toList,∃(j:Nat) (h:j<rs.length),x=(rs[j],vOf us j):=by
 obtain⟨h1,_,h3⟩:=hp
 have hsz:(J7 us rs).toArray.size=rs.length:=by simp[nK]
 have hd:d'.size=rs.length:=h1.trans hsz
 have hpm:d'.toList.Perm (J7 us rs):=by
  have e1:d'.extract 0 (J7 us rs).toArray.size=d':=by rw[← h1];exact Array.extract_size
  have e2:(J7 us rs).toArray.extract 0 (J7 us rs).toArray.size=(J7 us rs).toArray:=Array.extract_size
  rw[e1,e2] at h3;exact h3
 refine⟨hd,?_,fun x hx=>?_⟩
 ·refine abL ?_ ?_ hn
  ·have:=hpm.map (·.1)
   rwa [aeF] at this
  ·rw[List.pairwise_map,List.pairwise_iff_getElem]
   intro i j hi hj hij
   have:=hs i j (Nat.zero_le _) hij (by rw[hsz,← hd];simpa using hj)
   rw[ltR,getElem!_pos d' j (by simpa using hj),getElem!_pos d' i (by simpa using hi)] at this
   simpa using this
 ·obtain⟨j,hj,rfl⟩:=List.mem_iff_getElem.1 (hpm.mem_iff.1 hx)
  rw[nK] at hj
  exact⟨j,hj,abM us rs j hj⟩
theorem xq (rs:List Row)(t:Nat)(ht:t<rs.length * 2):(iW rs)[t]?=(rs[t / 2]'(by omega)).cs[t % 2]?:=by
 have hk:t / 2<rs.length:=by omega
 have h:=xO (rs.map Row.cs) (t / 2) (yx rs)
 have hk2:t / 2<(rs.map Row.cs).length:=by simpa using hk
 rw[dI hk2,List.flatten_cons] at h
 have e:(iW rs)[t]?=((iW rs).drop (t / 2 * 2))[t % 2]?:=by rw[List.getElem?_drop];congr 1;omega
 rw[e,iW,h,List.getElem?_append_left (by rw[yx rs _ (List.getElem_mem _)];omega)]
 simp
theorem J8 (d:Array RV)(t:Nat)(ht:t<d.size * 2):(Sort.flatK encR 2 d)[t]! = (encR (d[t / 2]'(by omega)))[t % 2]! := by
 rw[Sort.get_flatK _ _ _ _ ht,getElem!_pos d (t / 2) (by omega)]
theorem Y2 (d:Array RV)(t:Nat)(ht:t<d.size * 2):((Sort.flatK encR 2 d)[t]!).oneCell'=true:=by
 rw[J8 d t ht]
 rcases Nat.mod_two_eq_zero_or_one t with h|h <;> rw[h]
 ·rfl
 ·exact (d[t / 2]'(by omega)).2.2
theorem ahx {M:Nat→Nat→Prop}{γ:Nat→Option G}{w:World}{f:Fn}{v:Value}(h:Rep M γ w (.fn f [] []) v):v= .func f #[] #[]:=by
 cases h with
 |fn hf hk _ _=>
  have h1:=Array.eq_empty_of_size_eq_zero (by simpa using hf)
  have h2:=Array.eq_empty_of_size_eq_zero (by simpa using hk)
  subst h1;subst h2;rfl
theorem aeG (rs:List Row)(rest:List (Nat × aU))(hn:rs.length≤1099511627776)(hnd:(rs.map (·.1)).Nodup):aG Pr 159 [.arr 2 2 rs.length,.fn (.func 160) [] []] ((2,.arr 75 (iW rs))::rest) (.aJ []) ((2,.arr 75 (iW (tN rs)))::rest):=by
 refine aG.rows (by rw[lH,lH,pR]) (dF Tryz.func159 (by kernel_rfl) (by kernel_rfl)) fun M γ w vs B cap z us hst hl hr hγ hB hsz hle h1 hrr=>?_
 match vs,hl with
 | [v0,v1],_=>
  have q1:=ahx (hr 1 _ _ rfl rfl)
  subst q1
  have q0:=hr 0 _ _ rfl rfl
  generalize hv0:v0=v0' at q0
  cases q0 with
  | @arr _ B' _ n cap' hγ' hn'=>
   rw[hγ] at hγ'
   cases hγ'
   subst hv0
   rw[lH] at hle h1
   have hus:∀t (ht:t<rs.length * 2),us[t]?=some (Sort.flatK encR 2 (J7 us rs).toArray)[t]! := by
    intro t ht
    have hk:t / 2<rs.length:=by omega
    have hu:=Array.getElem?_eq_getElem (show t<us.size by omega)
    rw[J8 _ t (by simpa [nK] using ht)]
    have hd:(J7 us rs).toArray[t / 2]'(by simpa [nK] using hk)=(rs[t / 2],vOf us (t / 2)):=by simpa using abM us rs (t / 2) hk
    rw[hd,hu]
    have hc:=xq rs t ht
    rcases Nat.mod_two_eq_zero_or_one t with h|h <;> rw[h] at hc ⊢
    ·have h3:=hrr t _ _ hc hu
     obtain⟨s,hs,e⟩:=str_inj h3
     show some us[t]=some (encStr _)
     rw[hs,encStr,← e]
    ·have ht2:t / 2 * 2+1=t:=by omega
     show some us[t]=some (vOf us (t / 2)).1
     rw[abN (by rw[ht2];exact hu) (h1 t _ ht hu).1]
   have hH:HoldsK encR 2 w B 0 (J7 us rs).toArray:=by
    intro t ht
    rw[size_flatK] at ht
    have ht':t<rs.length * 2:=by simpa [nK] using ht
    have hu:=hus t ht'
    refine⟨?_,?_⟩
    ·rw[cell_of_row w B (0+t) us 75 _ hB,Nat.zero_add,hu];rfl
    ·rw[Nat.zero_add];exact (h1 t _ ht' hu).2
   have hblk:B<w.heap.size:=(Array.getElem?_eq_some_iff.1 hB).1
   have eg:∀args w,(callFunc 160 args).run Tryz.prog w= .ok (.enter 160 args) w:=enters_of Tryz.func160 (by kernel_rfl) rfl
   have hcon:=AnyQ.slices_SortFunc Tryz.sortAt 2 Tryz.isAgg75 Tryz.sizeOf75 encR (fun _=>rfl) (fun x v hv=>by simp[encR] at hv;rcases hv with rfl|rfl;rfl;exact x.2.2) VJ aly 160 #[] B 0 cap (J7 us rs).toArray w eg (fun _ _ _ _ x y=>abK x y _) hH hblk (by simp[nK];omega)
   change Calls Tryz.prog 159 _ _ _ at hcon
   rw[show (J7 us rs).toArray.size=rs.length by simp[nK]] at hcon
   refine hcon.mono ?_
   rintro e w' ⟨rfl,d',m,os,hpm,hso,rfl⟩
   obtain⟨hds,hdf,hde⟩:=abO hnd (by rw[show (J7 us rs).toArray.size=rs.length by simp[nK]];exact hpm) (by rw[show (J7 us rs).toArray.size=rs.length by simp[nK]];exact hso)
   have hwB:(sortWorldK encR 2 w B 0 m d' os).heap[B]?=some (.cells (putCells id 0 (Sort.flatK encR 2 d') us) 75 (0,0)):=by
    unfold sortWorldK
    rw[heap_grow_old _ _ (by rw[size_putRowK];exact hblk)]
    simp only[putRowK,putRow,mapBlock,Sort.ahead,Array.getElem?_modify,if_true,hB,Option.map_some,onCells]
   have hat:∀t,t<rs.length * 2→(putCells id 0 (Sort.flatK encR 2 d') us)[t]?=some (Sort.flatK encR 2 d')[t]! := by
    intro t ht
    have hlt:t<us.size:=by omega
    simp only[putCells,Array.getElem?_mapIdx,Array.getElem?_eq_getElem hlt,Option.map_some,size_flatK,Nat.zero_add,Nat.zero_le,true_and,Nat.sub_zero,id]
    rw[if_pos (by rw[hds];exact ht)]
   refine⟨_,putCells id 0 (Sort.flatK encR 2 d') us,rfl,by simp[putCells],hwB,fun k hk hkB=>?_,?_,⟨rfl,rfl,rfl⟩,fun i v hi hv=>?_,fun i d v hd hv=>?_,.aJ rfl (by simp)⟩
   ·unfold sortWorldK
    rw[heap_grow_old _ _ (by rw[size_putRowK];exact hk)]
    simp only[putRowK,putRow,mapBlock,Sort.ahead,Array.getElem?_modify,if_neg (Ne.symm hkB)]
   ·exact size_sortWorldK_c encR 2 w B 0 m d' os
   ·rw[lH] at hi
    rw[hat i hi] at hv
    cases hv
    exact Y2 _ _ (by rw[hds];exact hi)
   ·have hi:i<rs.length * 2:=by
     have:=(List.getElem?_eq_some_iff.1 hd).1
     rw[lH,pR] at this;exact this
    rw[hat i hi] at hv
    cases hv
    have hk:i / 2<d'.size:=by omega
    rw[J8 d' i (by rw[hds];exact hi)]
    rw[xq _ i (by rw[pR];exact hi)] at hd
    obtain⟨j,hj,hx⟩:=hde d'[i / 2] (by simp)
    have hrow:(tN rs)[i / 2]'(by rw[pR];omega)=rs[j]:=by
     have:(d'.toList.map (·.1))[i / 2]'(by simpa using hk)=rs[j]:=by
      rw[List.getElem_map]
      have:d'.toList[i / 2]'(by simpa using hk)=d'[i / 2]:=by simp
      rw[this,hx]
     rw[← this];congr 1;exact hdf.symm
    rw[hrow] at hd
    rw[hx]
    rcases Nat.mod_two_eq_zero_or_one i with h|h <;> rw[h] at hd ⊢
    ·cases hd;exact qK rfl
    ·cases hd
     have ht:j * 2+1<rs.length * 2:=by omega
     have hc:=xq rs (j * 2+1) ht
     have e1:(j * 2+1) / 2=j:=by omega
     have e2:(j * 2+1) % 2=1:=by omega
     simp only[e1,e2] at hc
     have hu:=Array.getElem?_eq_getElem (show j * 2+1<us.size by omega)
     have:=hrr _ _ _ hc hu
     show Rep _ _ _ _ (vOf us j).1
     rw[abN hu (h1 _ _ ht hu).1];exact this
end Go.Proofs
set_option maxRecDepth 10000
namespace Go.Proofs
open Go Go.Id
theorem Qg (a:Nat)(vs:List (List UInt8))(hn:vs.length≤1099511627776)(hne:∀(j:Nat) (h:j+1<vs.length),(vs[j+1] == vs[j])=false):aG Pr 158 [.arr a 1 vs.length] [(a,.arr 9 (vs.map .str))] (.arr a 1 vs.length) [(a,.arr 9 (vs.map .str))]:=by
 obtain⟨f,g,h1,h2⟩:=kU [a] (by simp)
 have:=aG.rename h1 (Y0 vs hn hne)
 have f0:f 0=a:=h2 0 a rfl
 simpa [kG,oP,dh,jL,Xv,f0] using this
theorem aj.af4 {P:gy}{fo:D}{args:List D}{σ:List (Nat × aU)}{K:D→Rec→Prop}{k:FuncId}{first cap ds:List D}{rest:List (Nat × aU)}{b:Nat}{x y:aU}{val:D}(h:aG P k ds ((b,x)::rest) val ((b,y)::rest))(hfo:fo= .fn (.func k) first cap)(has:ds=(first++args++cap).map fg)
  (hin:∀p∈((b,x)::rest),lk σ p.1=some p.2∧aA (fun i=>(lk ((b,x)::rest) i).isSome=true) p.2) (hcl:∀d∈ds,cZ (fun i=>(lk ((b,x)::rest) i).isSome=true) d) (hk:∀ws zA,(∀c,laid (lk σ) ws c=if c=b then some y else lk σ c)→K val ⟨zA,ws⟩):aj P fo args σ K:=by
 have hr:∀p∈rest,(lk rest p.1).isSome=true:=fun p hp=>by
  have:∀(l:List (Nat × aU)),p∈l→(lk l p.1).isSome=true:=fun l=>by
   induction l with
   |nil=>intro h;cases h
   |cons q l ih=>
    intro h
    obtain⟨c,z⟩:=q
    simp only[lk]
    split
    ·rfl
    ·rename_i hne
     rcases List.mem_cons.1 h with rfl|h
     ·exact absurd rfl hne
     ·exact ih h
  exact this rest hp
 refine aj.imp h hfo has hin (fun p hp=> .inl ?_) hcl (hk _ _ fun c=>?_)
 ·simp only[List.mem_cons] at hp
  rcases hp with rfl|hp
  ·simp[lk]
  ·simp only[lk];split
   ·rfl
   ·exact hr p hp
 ·simp only[laid]
  by_cases hc:c=b
  ·simp[lk,hc]
  ·simp only[lk,if_neg hc]
   have h2:∀p∈rest,p.1≠b→lk σ p.1=some p.2:=fun p hp _=>(hin p (by simp[hp])).1
   cases hl:lk rest c with
   |none=>rfl
   |some z=>exact (h2 _ (iZ _ _ _ hl) (by exact hc)).symm
theorem aeH (F:List (Nat × D))(σ:List (Nat × aU))(ws:List (Nat × aU))(t:Nat)(d:D):((⟨F,σ⟩:St).lay ws).put (some t) d=⟨((⟨F,[]⟩:St).put (some t) d).F,((⟨F,σ⟩:St).lay ws).σ⟩:=by
 cases ws <;> rfl
theorem Weak.alz {ent:List Nat}{st st':St}{F:List (Nat × D)}{ws:List (Nat × aU)}{b:Nat}{y:aU}(hw:∀c,laid (lk st.σ) ws c=if c=b then some y else lk st.σ c)(hF:∀p∈st'.F,Le ((⟨F,[]⟩:St).get p.1) p.2)(hσ:∀c,lk st'.σ c=if c=b then some y else lk st.σ c):Weak ent ⟨F,(st.lay ws).σ⟩ st':=
 Weak.qg hF fun c=>by rw[hσ c,lay_σ,hw c]
def jM:Nat→List At→List Row
 | _,[]=>[]
 |i,a::l=>(bg a.name,3 * i+5,a.vals.length)::jM (i+1) l
def iY:Nat→List (List (List UInt8))→List (Nat × aU)
 | _,[]=>[]
 |i,v::vs=>(3 * i+5,.arr 9 (v.map .str))::iY (i+1) vs
theorem gZ:∀(i:Nat) (l:List At),(jM i l).length=l.length
 | _,[]=>rfl
 |i,a::l=>by simp[jM,gZ (i+1) l]
theorem BX:∀(i:Nat) (l:List At) (j:Nat) (h:j<l.length),(jM i l)[j]?=some (bg l[j].name,3 * (i+j)+5,l[j].vals.length)
 | _,[],j,h=>by simp at h
 |i,a::l,0,h=>by simp[jM]
 |i,a::l,j+1,h=>by
  have:=BX (i+1) l j (by simpa using h)
  rw[jM,List.getElem?_cons_succ,this,show i+1+j=i+(j+1) by omega];rfl
theorem TR:∀(i:Nat) (l:List At),(jM i l).map (·.1)=l.map fun a=>bg a.name
 | _,[]=>rfl
 |i,a::l=>by simp[jM,TR (i+1) l]
theorem zW:∀(i:Nat) (vs:List (List (List UInt8))) (b:Nat),(∀j,j<vs.length→b≠3 * (i+j)+5)→lk (iY i vs) b=none
 | _,[],_,_=>rfl
 |i,v::vs,b,h=>by
  simp only[iY,lk]
  rw[if_neg (by have:=h 0 (by simp);simpa using this)]
  exact zW (i+1) vs b fun j hj=>by have:=h (j+1) (by simpa using hj);rw[show i+1+j=i+(j+1) by omega];exact this
theorem BZ:∀(i:Nat) (vs:List (List (List UInt8))) (j:Nat) (h:j<vs.length),lk (iY i vs) (3 * (i+j)+5)=some (.arr 9 (vs[j].map .str))
 | _,[],j,h=>by simp at h
 |i,v::vs,0,h=>by simp[iY,lk]
 |i,v::vs,j+1,h=>by
  have:=BZ (i+1) vs j (by simpa using h)
  rw[show i+1+j=i+(j+1) by omega] at this
  simp only[iY,lk,List.getElem_cons_succ]
  rw[if_neg (by omega)];exact this
theorem DW:∀(i:Nat) (vs:List (List (List UInt8))) (p:Nat × aU),p∈iY i vs→∃(j:Nat) (h:j<vs.length),p=(3 * (i+j)+5,.arr 9 (vs[j].map .str))
 | _,[],p,h=>by simp[iY] at h
 |i,v::vs,p,h=>by
  simp only[iY,List.mem_cons] at h
  rcases h with rfl|h
  ·exact⟨0,by simp,by simp⟩
  ·obtain⟨j,hj,rfl⟩:=DW (i+1) vs p h
   exact⟨j+1,by simpa using hj,by rw[show i+(j+1)=i+1+j by omega];rfl⟩
theorem Y3 (l:List At){st:St}(hσ0:st.σ=(2,.arr 75 (bW 0 l).flatten)::fK 0 l){F':List (Nat × D)}(hF:∀p∈F',∃n,p.2= .arr 2 2 n∧st.get p.1=p.2):Weak [] st ⟨F',(2,.arr 75 (iW (jM 0 l)))::iY 0 (l.map (·.vals))⟩:=by
 have h2:lk st.σ 2=some (.arr 75 (bW 0 l).flatten):=by rw[hσ0];simp[lk]
 have hlk:∀j (h:j<l.length),lk st.σ (3 * j+5)=some (.aS 9 1 l[j].vals.length):=fun j h=>by
  rw[hσ0];simp only[lk];rw[if_neg (by omega)]
  have:=wZ 0 l j h
  rwa [Nat.zero_add] at this
 have ajx:∀j (h:j<l.length),lk ((2,aU.arr 75 (iW (jM 0 l)))::iY 0 (l.map (·.vals))) (3 * j+5)=some (.arr 9 (l[j].vals.map .str)):=fun j h=>by
  simp only[lk];rw[if_neg (by omega)]
  have:=BZ 0 (l.map (·.vals)) j (by simpa using h)
  rw[Nat.zero_add] at this;rw[this];simp
 refine Weak.adP 2 75 9 2 (bW 0 l).flatten (iW (jM 0 l)) h2 (by simp[lk]) (by rw[lH,gZ,uP]) (fun t d d' hd hd'=>?_) hF (fun i hi=>?_)
 ·have htl:t<l.length * 2:=by rw[← uP 0 l];exact (List.getElem?_eq_some_iff.1 hd).1
  have hk:t / 2<l.length:=by omega
  obtain⟨x,hx,hxd⟩:=xP (bW 0 l) (yw 0 l) t d hd
  rw[BR 0 l (t / 2) hk] at hx
  cases hx
  have hr:=xq (jM 0 l) t (by rw[gZ];exact htl)
  rw[hd'] at hr
  have hra:=BX 0 l (t / 2) hk
  rw[List.getElem?_eq_getElem (by rw[gZ];exact hk)] at hra
  rw[Option.some.inj hra] at hr
  rcases Nat.mod_two_eq_zero_or_one t with h|h <;> rw[h] at hr hxd
  ·cases hr;cases hxd;exact .inl ⟨_,rfl,rfl⟩
  ·cases hr;cases hxd
   rw[Nat.zero_add]
   exact .inr ⟨_,l[t / 2].vals,by simp[Qe],rfl,hlk _ hk,ajx _ hk⟩
 ·by_cases h:∃j,j<l.length∧i=3 * j+5
  ·obtain⟨j,hj,rfl⟩:=h
   refine .inr ⟨l[j].vals,j * 2+1,hlk j hj,ajx j hj,?_⟩
   have:=zT 0 l hj
   have e:(bW 0 l).flatten[j * 2+1]?=((bW 0 l).flatten.drop (j * 2))[1]?:=by rw[List.getElem?_drop]
   rw[e,this,Nat.zero_add];rfl
  ·refine .inl ⟨?_,?_⟩
   ·rw[hσ0];simp only[lk];rw[if_neg hi]
    exact J4 0 l i fun j hj e=>h ⟨j,hj,by rw[Nat.zero_add] at e;exact e⟩
   ·simp only[lk];rw[if_neg hi]
    exact zW 0 _ i fun j hj e=>h ⟨j,by simpa using hj,by rw[Nat.zero_add] at e;exact e⟩
def Gx (l:List At)(k:Nat):List (List (List UInt8)):=(l.take k).map (fun a=>bT a.vals)++(l.drop k).map (·.vals)
theorem ajy (l:List At):Gx l 0=l.map (·.vals):=by simp[Gx]
theorem Qh (l:List At)(k:Nat):(Gx l k).length=l.length:=by simp[Gx];omega
theorem DX {l:List At}{k j:Nat}(hj:j<l.length):(Gx l k)[j]?=some (if j<k then bT l[j].vals else l[j].vals):=by
 unfold Gx
 by_cases h:j<k
 ·rw[List.getElem?_append_left (by simp;omega),if_pos h]
  simp[h,List.getElem?_eq_getElem hj]
 ·rw[List.getElem?_append_right (by simp;omega),if_neg h]
  simp only[List.length_map,List.length_take,List.getElem?_map,List.getElem?_drop]
  rw[show k+(j - min k l.length)=j by omega,List.getElem?_eq_getElem hj];rfl
theorem xu (l:List At)(k:Nat)(c:Nat):lk (iY 0 (Gx l k)) c=if h:∃j,j<l.length∧c=3 * j+5 then (Gx l k)[(c - 5) / 3]?.map fun v=> .arr 9 (v.map .str) else none:=by
 split
 ·rename_i h
  obtain⟨j,hj,rfl⟩:=h
  have:=BZ 0 (Gx l k) j (by rw[Qh];exact hj)
  rw[Nat.zero_add] at this
  rw[this,show (3 * j+5 - 5) / 3=j by omega,List.getElem?_eq_getElem (by rw[Qh];exact hj)];rfl
 ·rename_i h
  exact zW 0 _ c fun j hj e=>h ⟨j,by rw[Qh] at hj;exact hj,by rw[Nat.zero_add] at e;exact e⟩
theorem J9 {l:List At}{k:Nat}(hk:k<l.length)(c:Nat):lk (iY 0 (Gx l (k+1))) c=if c=3 * k+5 then some (.arr 9 ((bT l[k].vals).map .str)) else lk (iY 0 (Gx l k)) c:=by
 rw[xu,xu]
 by_cases hc:c=3 * k+5
 ·rw[if_pos hc,dif_pos ⟨k,hk,hc⟩,hc,show (3 * k+5 - 5) / 3=k by omega,DX hk,if_pos (by omega)];rfl
 ·rw[if_neg hc]
  split
  ·rename_i h
   obtain⟨j,hj,rfl⟩:=h
   rw[show (3 * j+5 - 5) / 3=j by omega,DX hj,DX hj]
   have:j≠k:=fun e=>hc (by rw[e])
   by_cases hjk:j<k
   ·rw[if_pos hjk,if_pos (by omega)]
   ·rw[if_neg hjk,if_neg (by omega)]
  ·rfl
theorem Y4 {l:List At}{k:Nat}(hk:k<l.length):lk (iY 0 (Gx l k)) (3 * k+5)=some (.arr 9 (l[k].vals.map .str)):=by
 rw[xu,dif_pos ⟨k,hk,rfl⟩,show (3 * k+5 - 5) / 3=k by omega,DX hk,if_neg (by omega)];rfl
theorem VK {l:List At}{k:Nat}(hk:k<l.length):lk (iY 0 (Gx l (k+1))) (3 * k+5)=some (.arr 9 ((bT l[k].vals).map .str)):=by
 rw[J9 hk,if_pos rfl]
theorem J_ {l:List At}{k:Nat}(hk:k<l.length):(iW (jM 0 l)).drop (k * 2+1)= .arr (3 * k+5) 1 l[k].vals.length::(iW (jM 0 l)).drop (k * 2+1+1):=by
 have hl:k * 2+1<(iW (jM 0 l)).length:=by rw[lH,gZ];omega
 rw[dI hl]
 have:=xq (jM 0 l) (k * 2+1) (by rw[gZ];omega)
 have hr:=BX 0 l k hk
 rw[List.getElem?_eq_getElem (by rw[gZ];exact hk)] at hr
 rw[List.getElem?_eq_getElem hl] at this
 have e1:(k * 2+1) / 2=k:=by omega
 have e2:(k * 2+1) % 2=1:=by omega
 simp only[e1,e2,Option.some.inj hr,Row.cs] at this
 rw[Option.some.inj this,Nat.zero_add]
theorem TT {l:List At}{k:Nat}(hk:k<l.length):(iW (jM 0 l)).take (k * 2+1)++[D.arr (3 * k+5) 1 l[k].vals.length]++(iW (jM 0 l)).drop (k * 2+1+1)=iW (jM 0 l):=by
 rw[List.append_assoc,List.singleton_append,← J_ hk,List.take_append_drop]
theorem Y5 {l:List (List UInt8)}(h:l.Nodup)(j:Nat)(hj:j+1<(bT l).length):((bT l)[j+1] == (bT l)[j])=false:=by
 have hn:(bT l).Nodup:=(zO l).nodup_iff.2 h
 refine beq_eq_false_iff_ne.2 fun e=>?_
 have:=(List.getElem_inj hn).1 e
 omega
theorem Y6 {l:List At}(h:(l.map fun a=>bg a.name).Nodup)(k:Nat)(hk:k<l.length):∀a∈l.take k,(bg a.name == bg l[k].name)=false:=by
 intro a ha
 obtain⟨j,hj,rfl⟩:=List.mem_iff_getElem.1 ha
 have hjk:j<k:=by rw[List.length_take] at hj;omega
 have hjl:j<l.length:=by omega
 rw[List.getElem_take]
 refine beq_eq_false_iff_ne.2 fun e=>?_
 have:=(List.getElem_inj (h₀:=by simpa using hjl) (h₁:=by simpa using hk) h).1 (by simpa using e)
 omega
def UH (a:At):At:=⟨bg a.name,false,bT a.vals⟩
def leA (x y:At):Bool:=!Op.bytesLess y.name x.name
def iI (l:List At):List At:=(l.map UH).mergeSort leA
theorem yA (l:List At):(iI l).length=l.length:=by simp[iI]
def gR (l:List At)(r:Row):At:=match l[(r.2.1 - 5) / 3]? with
 |some a=>UH a
 |none=>⟨r.1,false,[]⟩
theorem B_ {l:List At}{r:Row}(h:r∈jM 0 l):∃(j:Nat) (hj:j<l.length),r=(bg l[j].name,3 * j+5,l[j].vals.length):=by
 obtain⟨j,hj,rfl⟩:=List.mem_iff_getElem.1 h
 rw[gZ] at hj
 have:=BX 0 l j hj
 rw[List.getElem?_eq_getElem (by rw[gZ];exact hj)] at this
 exact⟨j,hj,by rw[Option.some.inj this,Nat.zero_add]⟩
theorem XB {l:List At}{j:Nat}(hj:j<l.length)(n:Nat)(s:List UInt8):gR l (s,3 * j+5,n)=UH l[j]:=by
 unfold gR
 simp only
 rw[show (3 * j+5 - 5) / 3=j by omega,List.getElem?_eq_getElem hj]
theorem Y7 (l:List At):(tN (jM 0 l)).map (gR l)=iI l:=by
 unfold tN iI
 rw[List.map_mergeSort (s:=leA)]
 ·congr 1
  refine List.ext_getElem (by simp[gZ]) fun j h1 h2=>?_
  rw[List.getElem_map,List.getElem_map]
  have hj:j<l.length:=by simpa using h2
  have:=BX 0 l j hj
  rw[List.getElem?_eq_getElem (by rw[gZ];exact hj)] at this
  rw[Option.some.inj this,Nat.zero_add,XB hj]
 ·intro a ha b hb
  obtain⟨i,hi,rfl⟩:=B_ ha
  obtain⟨j,hj,rfl⟩:=B_ hb
  rw[XB hi,XB hj];rfl
theorem Ot (ls:List (List UInt8)):ls.map D.str=(nT ls).flatten:=by
 induction ls with
 |nil=>rfl
 |cons a l ih=>simp only[nT,List.map_cons,List.flatten_cons,List.singleton_append] at ih ⊢;rw[ih]
theorem VL (l:List At){st:St}(hσ:∀c,lk st.σ c=lk ((2,aU.arr 75 (iW (tN (jM 0 l))))::iY 0 (Gx l l.length)) c)(h3:st.get 3= .arr 2 2 l.length):Weak [] st ⟨[(3,.slice 2 false ((iI l).map At.cs) none)],[]⟩:=by
 refine Weak.thaw rfl ?_
 simp only[List.mem_singleton,forall_eq]
 rw[h3]
 have hl:l.length=((tN (jM 0 l)).map Row.cs).length:=by rw[List.length_map,pR,gZ]
 rw[hl]
 refine .arr (es:=(tN (jM 0 l)).map Row.cs) (rest:=[]) (by rw[hσ];simp only[lk,↓reduceIte,List.append_nil];rfl) (yx _) (by simp[yA,pR,gZ]) (fun x hx=>by obtain⟨a,_,rfl⟩:=List.mem_map.1 hx;rfl) (by decide) (fun i j x y d d' hx hy hd hd'=>?_)
 rw[List.getElem?_map,Option.map_eq_some_iff] at hx
 obtain⟨r,hr,rfl⟩:=hx
 rw[← Y7,List.map_map,List.getElem?_map,hr] at hy
 obtain⟨k,hk,rfl⟩:=B_ ((zV _).mem_iff.1 (List.mem_of_getElem? hr))
 simp only[Option.map_some,Function.comp,XB hk,Option.some.injEq] at hy
 subst hy
 have hb:lk st.σ (3 * k+5)=some (.arr 9 ((bT l[k].vals).map .str)):=by
  rw[hσ];simp only[lk];rw[if_neg (by omega)]
  rw[xu,dif_pos ⟨k,hk,rfl⟩,show (3 * k+5 - 5) / 3=k by omega,DX hk,if_pos hk];rfl
 match j with
 | 0=>cases hd;cases hd';exact .str _
 | 1=>
  cases hd;cases hd'
  have hn:l[k].vals.length=(nT (bT l[k].vals)).length:=by rw[qh,dL]
  show G5 _ (.arr (3 * k+5) 1 l[k].vals.length) (.slice 1 false (nT (bT l[k].vals)) none)
  rw[hn]
  refine .arr (rest:=[]) (by rw[hb,List.append_nil];congr 2;exact Ot _) (fun x hx=>by obtain⟨s,_,rfl⟩:=List.mem_map.1 hx;rfl) rfl (fun x hx=>by obtain⟨s,_,rfl⟩:=List.mem_map.1 hx;rfl) (by decide) (fun i j x y d d' hx hy hd hd'=>?_)
  rw[hx] at hy;cases hy
  rw[hd] at hd';cases hd'
  obtain⟨s,_,rfl⟩:=List.mem_map.1 (List.mem_of_getElem? hx)
  have:=List.mem_of_getElem? hd
  simp only[List.mem_singleton] at this
  subst this;exact .str _
 |j+2=>simp[Row.cs] at hd
theorem Y8 (l:List At)(k:Nat){S:Nat→Prop}:∀p∈iY 0 (Gx l k),aA S p.2:=by
 intro p hp
 obtain⟨j,hj,rfl⟩:=DW 0 _ p hp
 intro d hd
 obtain⟨s,_,rfl⟩:=List.mem_map.1 hd
 exact .str _
theorem Y9 {l:List At}{rs:List Row}(hr:∀r∈rs,r∈jM 0 l)(k:Nat)(x:aU):∀d∈iW rs,cZ (fun i=>(lk ((2,x)::iY 0 (Gx l k)) i).isSome=true) d:=by
 intro d hd
 obtain⟨y,hy,hd⟩:=List.mem_flatten.1 hd
 obtain⟨r,hr',rfl⟩:=List.mem_map.1 hy
 obtain⟨j,hj,rfl⟩:=B_ (hr r hr')
 simp only[Row.cs,List.mem_cons,List.not_mem_nil,or_false] at hd
 rcases hd with rfl|rfl
 ·exact .str _
 ·refine .arr ?_
  simp only[lk];rw[if_neg (by omega),xu,dif_pos ⟨j,hj,rfl⟩,show (3 * j+5 - 5) / 3=j by omega,DX hj];rfl
theorem Y_ (l:List At)(k:Nat):∀p∈((2,aU.arr 75 (iW (jM 0 l)))::iY 0 (Gx l k)),lk ((2,aU.arr 75 (iW (jM 0 l)))::iY 0 (Gx l k)) p.1=some p.2∧aA (fun i=>(lk ((2,aU.arr 75 (iW (jM 0 l)))::iY 0 (Gx l k)) i).isSome=true) p.2:=by
 intro p hp
 simp only[List.mem_cons] at hp
 rcases hp with rfl|hp
 ·exact⟨by simp[lk],Y9 (fun r h=>h) k _⟩
 ·refine⟨?_,Y8 l k p hp⟩
  obtain⟨j,hj,rfl⟩:=DW 0 _ p hp
  simp only[lk];rw[if_neg (by omega)]
  exact BZ 0 _ j hj
set_option maxRecDepth 10000
set_option maxHeartbeats 4000000
theorem Qi (l:List At)(nl:Bool)(hn:l.length≤1099511627776)(hnl:nl=true→l=[])(hl:∀a∈l,a.ok)(h0:l≠[])(hval:∀a∈l,a.vals≠[])(hdup:∀a∈l,a.vals.Nodup)(hnd:(l.map fun a=>bg a.name).Nodup):ak Pr 96 [.slice 2 nl (l.map At.cs) none] (.slice 2 false ((iI l).map At.cs) none):=by
 have hnew:∀(k:Nat) (hk:k<l.length),∀a∈l.take k,(bg a.name == bg l[k].name)=false:=Y6 hnd
 have hl0:0<l.length:=List.length_pos_iff.2 h0
 refine ak.of_wp Tryz.func96 rfl (by kernel_rfl) Tryz.ntmps96 (by simp) ?_
 simp only[ay]
 refine WP.sr [0] (by kernel_rfl) fun K hK=>?_
 simp +decide only[TF,↓reduceIte]
 refine hK _ _ ?_;clear hK K
 refine WP.sr [0,3] (by kernel_rfl) fun K hK=>?_
 simp +decide only[TF,↓reduceIte]
 refine hK _ _ ?_;clear hK K
 refine WP.seq ?_
 refine WP.sr [3,9,10,11] (by kernel_rfl) fun K hK=>?_
 simp +decide only[TF,↓reduceIte]
 refine hK _ _ ?_;clear hK K
 refine WP.block ?_
 refine WP.lp [9,10] (X:={k:Nat // k≤l.length}) (fun x=>match x with| ⟨(k),_⟩=>[(3,zU k),(11,.int .i64 k)]) (fun x=>match x with| ⟨(k),_⟩=>(outT (l.take k))) (fun x=>match x with| ⟨(k),_⟩=>l.length - k) (by simp +decide only[W,↓reduceIte];rfl) ?_ ⟨(0),Nat.zero_le _⟩ ?_
 rotate_left
 · refine Weak.trans (Weak.ghost 2 75 2 (F':=[(11,.int .i64 0),(10,.int .i64 l.length),(9,.slice 2 nl (l.map At.cs) none),(3,.slice 2 true [] (some 2))]) (σ':=[]) (by simp[lk]) (by simp[keep,ins,Ac,zC]) (by simp[Dq])) ?_;exact Weak.store (by simp[St.get,lk,Le.refl,zU]) (by simp[lk,outT]) (by simp[lk,outT,zU,W]) (by simp[aA,lk,outT]) (by simp[lk])
 rintro ⟨k,hk⟩
 dsimp only
 simp only[List.cons_append,List.nil_append]
 refine WP.sr [3,9,10,11,12] (by kernel_rfl) fun K hK=>?_
 simp +decide only[TF,↓reduceIte]
 refine hK _ _ ?_;clear hK K
 refine WP.seq ?_
 refine WP.cond (b:=_) rfl (fun q1=>?_) (fun q1=>?_)
 ·
  have hlt:=aK q1
  have hg:(l.map At.cs)[k]?=some [.str l[k].name,.slice 1 l[k].nl (l[k].vals.map fun x=>[.str x]) none]:=getM hlt
  have hnf:=bH hnl hlt
  have hok:=Gw (hl _ (List.getElem_mem hlt))
  have hpl:(l.take k).length=k:=by rw[List.length_take];omega
  obtain⟨A,hA⟩:∃A,A=3 * k+3:=⟨_,rfl⟩
  have hfr:fresh (outT (l.take k))=A:=by rw[VH,hpl,hA]
  have mx1:max (A+1) A=A+1:=by omega
  have hdA:dl (outT (l.take k)) A=outT (l.take k):=XA _ _ (by omega) (by rw[hpl];omega)
  have hdB:dl (outT (l.take k)) (A+1)=outT (l.take k):=XA _ _ (by omega) (by rw[hpl];omega)
  have hk1:(k<k+1)=True:=eq_true (by omega)
  have hRl:(bW 0 (l.take k)).flatten.length=k * 2:=by rw[uP,hpl]
  have hd1:((bW 0 (l.take k)).flatten++[D.str (bg l[k].name),.slice 0 true [] none]).drop (k * 2+1)=[.slice 0 true [] none]:=abB hRl _ _
  have alA:=(hl _ (List.getElem_mem hlt)).2.1
  have hve:(l[k].vals.map (fun x=>[D.str x])=[])=False:=eq_false (by simp;exact hval _ (List.getElem_mem hlt))
  have alB:max (2+1) (max (A+1+1) (max (A+1) (fresh (fK 0 (l.take k)))))=A+1+1:=by rw[w_,hpl];split <;> omega
  have hdC:dl (fK 0 (l.take k)) (A+1+1)=fK 0 (l.take k):=BU _ _ _ fun j hj=>by rw[hpl] at hj;omega
  have hd2:((bW 0 (l.take k)).flatten++[D.str (bg l[k].name),.slice 0 true [] none]).drop (k * 2+1+1)=[]:=abC hRl _ _
  have ht1:((bW 0 (l.take k)).flatten++[D.str (bg l[k].name),.slice 0 true [] none]).take (k * 2+1)=(bW 0 (l.take k)).flatten++[D.str (bg l[k].name)]:=abD hRl _ _
  have hL2:(k * 2+1+1≤((bW 0 (l.take k)).flatten++[D.str (bg l[k].name),.slice 0 true [] none]).length)=True:=eq_true (by rw[List.length_append,hRl];simp)
  have hset:(bW 0 (l.take k)).flatten++[D.str (bg l[k].name)]++[D.slice 1 false (l[k].vals.map fun x=>[D.str x]) (some (A+1+1))]++[]=(bW 0 (l.take (k+1))).flatten:=by rw[VI hlt];simp[Qe,nT,hA]
  have hdT:=BU 0 (l.take k) 2 (fun j _=>by omega)
  have ne0:(A+1=A)=False:=eq_false (by omega)
  have ne1:(A=A+1)=False:=eq_false (by omega)
  have ne2:(2=A)=False:=eq_false (by omega)
  have ne3:(A=2)=False:=eq_false (by omega)
  have ne4:(2=A+1)=False:=eq_false (by omega)
  have ne5:(A+1=2)=False:=eq_false (by omega)
  have ne6:(A+1+1=2)=False:=eq_false (by omega)
  have ne7:(2=A+1+1)=False:=eq_false (by omega)
  have ne8:(A+1+1=A+1)=False:=eq_false (by omega)
  have ne9:(A+1=A+1+1)=False:=eq_false (by omega)
  have alE:(A+1+1=A)=False:=eq_false (by omega)
  have ang:(A=A+1+1)=False:=eq_false (by omega)
  refine WP.skip ?_
  show WP _ _ _ _ _ _
  refine WP.seq ?_
  refine WP.block ?_
  refine WP.sr [3,5,9,10,11] (by kernel_rfl) fun K hK=>?_
  simp +decide only[TF,q1,hg,hnf,hfr,mx1,hdA,↓reduceIte]
  refine hK _ _ ?_;clear hK K
  refine WP.sr [3,5,6,9,10,11] (by kernel_rfl) fun K hK=>?_
  simp +decide only[TF,hfr,mx1,↓reduceIte]
  refine aj.pure (Qa l[k].name hok.1) rfl rfl (by simp[-List.map_take]) ?_
  simp +decide only[TF,hfr,mx1,hdB,ne0,↓reduceIte]
  refine hK _ _ ?_;clear hK K
  refine WP.meet (⟨[(7,.int .i64 (-1)),(3,zU k),(5,.ref A 0),(6,.ref (A+1) 0),(9,.slice 2 nl (l.map At.cs) none),(10,.int .i64 l.length),(11,.int .i64 k)],(A+1,.box 9 [.str (bg l[k].name)])::(A,.box 75 [.str l[k].name,.slice 1 l[k].nl (l[k].vals.map fun x=>[.str x]) none])::outT (l.take k)⟩) ?_ ?_
  ·
   refine WP.region (by kernel_rfl) fun K hK=>?_
   simp +decide only[TF,hfr,mx1,↓reduceIte]
   refine aj.keep (ajw (l.take k) (A+1) (bg l[k].name) (by rw[hpl,hA]) (hnew k hlt) (by rw[hpl];omega) (abJ _ _)) rfl (by rw[hpl];rfl) (fun p hp=>⟨ahv (l.take k) (A+1) (by rw[hpl,hA]) _ A _ (by rw[hpl,hA]) p hp,aeE (l.take k) (A+1) (bg l[k].name) (by rw[hpl,hA]) p hp⟩) (abI _ _ _ (by rw[hpl,hA])) ?_
   intro ws zA hws
   simp +decide only[TF,nD,↓reduceIte]
   refine hK _ _ ?_
   show Weak _ _ _
   exact Weak.lay hws (by simp[St.get,lk,W,TP,Le.refl,hnf]) (fun _=>rfl)
  ·
   refine WP.seq ?_
   refine WP.sr [3,5,6,7,9,10,11,22] (by kernel_rfl) fun K hK=>?_
   simp +decide only[TF,hnf,hfr,mx1,↓reduceIte]
   refine hK _ _ ?_;clear hK K
   refine WP.cond (b:=true) (by rfl) (fun _=>?_) nofun
   refine WP.meet (⟨[(7,.int .i64 k),(3,zU k),(5,.ref A 0),(6,.ref (A+1) 0),(9,.slice 2 nl (l.map At.cs) none),(10,.int .i64 l.length),(11,.int .i64 k)],(A+1,.box 9 [.str (bg l[k].name)])::(A,.box 75 [.str l[k].name,.slice 1 l[k].nl (l[k].vals.map fun x=>[.str x]) none])::outT (l.take k)⟩) ?_ ?_
   ·
    rcases aeC k with⟨hk0,hov⟩|hov
    ·
     refine WP.region (by kernel_rfl) fun K hK=>?_
     simp +decide only[TF,hfr,mx1,hov,↓reduceIte]
     refine hK _ _ ?_
     show Weak _ _ _
     exact Weak.qg (by simp[St.get,lk,Le.refl,hnf,hov];try (rw[hk0];exact Le.refl _)) (fun _=>rfl)
    ·
     refine WP.region (by kernel_rfl) fun K hK=>?_
     simp +decide only[TF,hfr,mx1,hov,↓reduceIte]
     refine hK _ _ ?_
     show Weak _ _ _
     exact Weak.qg (by simp[St.get,lk,Le.refl,hnf,hov];try (rw[hk0];exact Le.refl _)) (fun _=>rfl)
   ·
    refine WP.aiB (⟨[(7,.int .i64 k),(3,.arr 2 2 (k+1)),(5,.ref A 0),(9,.slice 2 nl (l.map At.cs) none),(10,.int .i64 l.length),(11,.int .i64 k)],(2,.arr 75 ((bW 0 (l.take k)).flatten++[.str (bg l[k].name),.slice 0 true [] none]))::((A+1,.box 9 [.str (bg l[k].name)])::(A,.box 75 [.str l[k].name,.slice 1 l[k].nl (l[k].vals.map fun x=>[.str x]) none])::fK 0 (l.take k))⟩) ?_ ?_
    ·
     refine WP.U9 4 (by kernel_rfl) rfl rfl rfl fun K hK=>?_
     simp +decide only[TF,hnf,hfr,mx1,↓reduceIte]
     have hcs:∀d∈(bW 0 (l.take k)).flatten,cZ (fun i=>i≠2) d:=Om _ _ fun j _=>by omega
     refine hK _ _ ⟨75,2,40,2,k,(bW 0 (l.take k)).flatten,2,false,[[.str (bg l[k].name),.slice 0 true [] none]],_,[(7,.int .i64 k),(5,.ref A 0),(9,.slice 2 nl (l.map At.cs) none),(10,.int .i64 l.length),(11,.int .i64 k)],zD,vP,?_,rfl,nofun,rfl,by decide,by simp;omega,by simp;omega,by simp,hcs,by simp,YX _ _ _ _ l[k],?_,?_⟩
     · exact YZ (by have:=abG (l.take k);rw[hpl] at this;exact this) (by simp[lk,ne2,ne4])
     · simp[St.get,lk,hnf,ne3]
     ·
      intro K2 hK2
      simp +decide only[TF,hnf,ne2,ne4,↓reduceIte]
      refine hK2 _ _ ?_
      show Weak _ _ _
      exact Weak.qg (by simp[St.get,lk,Le.refl,hnf]) (fun j=>by simp[lk,abH])
    ·
     show WP _ _ _ _ _ _
     refine WP.drawn (by kernel_rfl) (by kernel_rfl) fun K hK=>?_
     simp +decide only[TF,hnf,hk1,hd1,hve,alB,ne1,ne2,ne3,ne4,ne6,ne7,ne8,alE,hdC,hd2,ht1,hL2,hset,hdT,↓reduceIte]
     refine⟨⟨by omega,by omega⟩,?_⟩
     refine hK _ _ (U7 [2,A,A+1+1] (by simp;omega) [([],[]),([],[]),([],[]),([],[]),([],[]),([],[]),([0],[]),([],[]),([1],[]),([2],[2]),([],[]),([],[]),([0],[0])] (by kernel_rfl) (fun f hf=>by have e0:=hf 0 _ rfl;have e1:=hf 1 _ rfl;have e2:=hf 2 _ rfl;(simp only[List.map_cons,List.map_nil,IG,e0,e1,e2]) <;> rfl)) ?_
     clear hK K
     show WP _ _ _ _ _ _
     refine WP.region (by kernel_rfl) fun K hK=>?_
     simp +decide only[TF,↓reduceIte]
     refine hK _ _ ?_;clear hK K
     show ∃y,_∧Weak _ _ _
     refine⟨⟨k+1,by omega⟩,?_,?_⟩
     · dsimp only;omega
     ·
      refine Weak.store (by simp[St.get,lk,Le.refl,hnf,zU,aT hlt (show l.length≤140737488355328 by omega)]) (YW hlt (by simp[lk]) (by rw[show 3 * k+5=A+1+1 by omega];simp[lk,ne6]) (fun j hj=>by simp only[lk];rw[if_neg (by omega),if_neg (by omega),if_neg (by omega),if_neg (by omega)])) ?_ (Oo _) (by simp)
      have:=J6 (l:=l.take (k+1)) (by simp;exact h0)
      simp[zU,this,lk]
 ·
  have hge:=aN q1
  have hkl:k=l.length:=by omega
  subst hkl
  simp only[List.take_length,J6 h0,abE hl0]
  refine WP.exit ?_
  show WP _ _ _ _ _ _
  refine WP.meet (⟨[(3,.arr 2 2 l.length)],(2,.arr 75 (bW 0 l).flatten)::fK 0 l⟩) ?_ ?_
  ·
   refine WP.region (by kernel_rfl) fun K hK=>?_
   simp +decide only[TF,q1,↓reduceIte]
   refine aj.keep (ahw l hval (by omega)) rfl rfl (jH l 2 [] (by simp) (by omega)) (by simp[lk]) ?_
   intro ws zA hws
   simp +decide only[TF,nD,↓reduceIte]
   refine hK _ _ ?_
   show Weak _ _ _
   exact Weak.lay hws (by simp[St.get,lk,W,TP,Le.refl]) (fun _=>rfl)
  refine WP.weak (Y3 l rfl (F':=[(3,.arr 2 2 l.length)]) (by simp[St.get,lk])) ?_
  rw[← ajy]
  ·
   refine WP.seq ?_
   refine WP.sr [3,46,47] (by kernel_rfl) fun K hK=>?_
   simp +decide only[TF,↓reduceIte]
   refine hK _ _ ?_;clear hK K
   refine WP.block ?_
   refine WP.lp [3,46] (X:={k:Nat // k≤l.length}) (fun x=>match x with| ⟨(k),_⟩=>[(47,.int .i64 k)]) (fun x=>match x with| ⟨(k),_⟩=>((2,.arr 75 (iW (jM 0 l)))::iY 0 (Gx l k))) (fun x=>match x with| ⟨(k),_⟩=>l.length - k) (by simp +decide only[W,↓reduceIte];rfl) ?_ ⟨(0),Nat.zero_le _⟩ ?_
   rotate_left
   · exact Weak.qg (by simp[St.get,lk,W,Le.refl]) (fun _=>rfl)
   rintro ⟨k,hk⟩
   dsimp only
   simp only[List.cons_append,List.nil_append]
   refine WP.sr [3,46,47,48] (by kernel_rfl) fun K hK=>?_
   simp +decide only[TF,↓reduceIte]
   refine hK _ _ ?_;clear hK K
   refine WP.seq ?_
   refine WP.cond (b:=_) rfl (fun q2=>?_) (fun q2=>?_)
   ·
    have hlt:=aK q2
    have hld:=J_ hlt
    have hst:=TT hlt
    have hcur:=Y4 hlt
    have hk1:(k<l.length)=True:=eq_true hlt
    have hL2:(k * 2+1+1≤(iW (jM 0 l)).length)=True:=eq_true (by rw[lH,gZ];omega)
    have ajz:(3 * k+5=2)=False:=eq_false (by omega)
    have alA:=(hl _ (List.getElem_mem hlt)).2.1
    refine WP.skip ?_
    show WP _ _ _ _ _ _
    refine WP.seq ?_
    refine WP.block ?_
    refine WP.sr [3,8,46,47] (by kernel_rfl) fun K hK=>?_
    simp +decide only[TF,q2,↓reduceIte]
    refine hK _ _ ?_;clear hK K
    refine WP.meet (⟨[(3,.arr 2 2 l.length),(8,.int .i64 k),(46,.int .i64 l.length),(47,.int .i64 k)],(2,.arr 75 (iW (jM 0 l)))::iY 0 (Gx l (k+1))⟩) ?_ ?_
    ·
     refine WP.region (by kernel_rfl) fun K hK=>?_
     simp +decide only[TF,hld,hk1,↓reduceIte]
     refine aj.af4 (rest:=[]) (JV (3 * k+5) l[k].vals (by omega)) rfl rfl ?_ (by simp[lk]) ?_
     · simp[lk,aA,hcur,ajz]
     intro ws zA hws
     simp +decide only[TF,↓reduceIte]
     refine hK _ _ ?_
     show Weak _ _ _
     refine Weak.alz hws (by simp[St.get,lk,W,TP,Le.refl]) (fun c=>?_)
     simp only[lk,J9 hlt]
     by_cases h2:c=2
     · rw[if_pos h2,if_neg (by omega),if_pos h2]
     · rw[if_neg h2,if_neg h2]
    ·
     refine WP.aiC (⟨[(3,.arr 2 2 l.length),(46,.int .i64 l.length),(47,.int .i64 k)],(2,.arr 75 (iW (jM 0 l)))::iY 0 (Gx l (k+1))⟩) ?_ (fun st' hw=>WP.weak hw ?_)
     ·
      refine WP.region (by kernel_rfl) fun K hK=>?_
      simp +decide only[TF,hld,hk1,↓reduceIte]
      refine aj.keep (Qg (3 * k+5) (bT l[k].vals) (by rw[dL];omega) (Y5 (hdup _ (List.getElem_mem hlt)))) rfl (by rw[dL];rfl) ?_ (by simp[lk]) ?_
      · simp[lk,aA,VK hlt,ajz]
      intro ws zA hws
      have hwl:∀F c,lk ((⟨F,(2,.arr 75 (iW (jM 0 l)))::iY 0 (Gx l (k+1))⟩:St).lay ws).σ c=lk ((2,.arr 75 (iW (jM 0 l)))::iY 0 (Gx l (k+1))) c:=fun F c=>TQ ⟨F,(2,.arr 75 (iW (jM 0 l)))::iY 0 (Gx l (k+1))⟩ ws hws c
      simp +decide only[TF,nD,aeH,hwl,dL,hst,hL2,hk1,↓reduceIte]
      refine hK _ _ ⟨rfl,?_⟩
      show Weak _ _ _
      refine Weak.qg (by simp[St.get,lk,Le.refl]) (fun c=>?_)
      simp only[lk,Mc,hwl]
      by_cases h2:c=2
      · simp[h2]
      · simp[h2]
     ·
      show WP _ _ _ _ _ _
      refine WP.region (by kernel_rfl) fun K hK=>?_
      simp +decide only[TF,↓reduceIte]
      refine hK _ _ ?_;clear hK K
      show ∃y,_∧Weak _ _ _
      refine⟨⟨k+1,by omega⟩,?_,?_⟩
      · dsimp only;omega
      · exact Weak.qg (by simp[St.get,lk,Le.refl,aT hlt (show l.length≤140737488355328 by omega)]) (fun _=>rfl)
   ·
    have hge:=aN q2
    have hkl:k=l.length:=by omega
    subst hkl
    refine WP.exit ?_
    show WP _ _ _ _ _ _
    refine WP.meet (⟨[(3,.slice 2 false ((iI l).map At.cs) none)],[]⟩) ?_ ?_
    ·
     refine WP.region (by kernel_rfl) fun K hK=>?_
     simp +decide only[TF,q1,↓reduceIte]
     refine aj.af4 (by have:=aeG (jM 0 l) (iY 0 (Gx l l.length)) (by rw[gZ];omega) (by rw[TR];exact hnd);rw[gZ] at this;exact this) rfl rfl (Y_ l l.length) (by simp[lk,fg]) ?_
     intro ws zA hws
     simp +decide only[TF,↓reduceIte]
     refine hK _ _ ?_
     show Weak _ _ _
     exact VL l (fun c=>by rw[lay_σ,hws];simp only[lk];split <;> simp_all) (by simp[St.get,lk,W,TP])
    ·
     refine WP.sr [2] (by kernel_rfl) fun K hK=>?_
     simp +decide only[TF,↓reduceIte]
     refine hK _ _ ?_;clear hK K
     refine WP.ret ?_
     exact Ends.pure (.inr rfl) rfl (Le.of_eq (by simp +decide only[St.get,W,↓reduceIte])) (by simp)
theorem abP:ak Pr 136 [.int .u64 0] (.int .i64 0):=aG.same (dF Tryz.func136 (by kernel_rfl) (by kernel_rfl)) fun M γ w vs hst hl hr=>by
 match vs,hl with
 | [v0],_=>
  have q0:=hr 0 _ _ rfl rfl
  cases q0
  refine (Tryz.bits_Len 0 w (by omega) (by omega)).mono ?_
  rintro e w' ⟨rfl,rfl⟩
  exact⟨_,rfl,rfl,.int _ _⟩
theorem ahy:ak Pr 239 [.slice 0 true [] none,.int .i64 0,.int .i64 0,.fn (.func 160) [] []] (.aJ []):=by
 refine ak.of_wp Tryz.func239 rfl (by kernel_rfl) Tryz.ntmps239 (by simp) ?_
 simp only[ay,Nat.reduceAdd,Nat.zero_add]
 refine WP.sr [0,1,2,3,8] (by kernel_rfl) fun K hK=>?_
 simp +decide only[TF,↓reduceIte]
 refine hK _ _ ?_;clear hK K
 refine WP.block ?_
 refine WP.lp [0,1,2,3] (X:={z:Nat // z=0}) (fun x=>match x with| ⟨(z),_⟩=>[(8,.int .i64 1)]) (fun x=>match x with| ⟨(z),_⟩=>[]) (fun x=>match x with| ⟨(z),_⟩=>1) (by simp +decide only[W,↓reduceIte];rfl) ?_ ⟨(0),rfl⟩ ?_
 rotate_left
 · exact Weak.nil (by simp[St.get,lk,W,Le.refl,show IntKind.wrap .i64 1=1 from by decide,W]) (by simp[W])
 rintro ⟨z,hz⟩
 dsimp only
 simp only[List.cons_append,List.nil_append]
 subst hz
 refine WP.seq ?_
 refine WP.sr [0,1,2,3,8,14] (by kernel_rfl) fun K hK=>?_
 simp +decide only[TF,↓reduceIte]
 refine hK _ _ ?_;clear hK K
 refine WP.cond (b:=false) (by rfl) nofun (fun _=>?_)
 refine WP.exit ?_
 exact Ends.pure (.inl rfl) rfl (Le.of_eq (by simp +decide only[St.get])) (by simp)
theorem aeI:ak Pr 211 [.slice 0 true [] none,.int .i64 0,.int .i64 0,.int .i64 0,.fn (.func 160) [] []] (.aJ []):=by
 refine ak.of_wp Tryz.func211 rfl (by kernel_rfl) Tryz.ntmps211 (by simp) ?_
 simp only[ay,Nat.reduceAdd,Nat.zero_add]
 refine WP.sr [0,1,2,3,4,10] (by kernel_rfl) fun K hK=>?_
 simp +decide only[TF,↓reduceIte]
 refine hK _ _ ?_;clear hK K
 refine WP.sr [0,1,2,3,4,10,11] (by kernel_rfl) fun K hK=>?_
 simp +decide only[TF,↓reduceIte]
 refine hK _ _ ?_;clear hK K
 refine WP.block ?_
 refine WP.lp [0,4] (X:={z:Nat // z=0}) (fun x=>match x with| ⟨(z),_⟩=>[(1,.int .i64 0),(2,.int .i64 0),(3,.int .i64 0),(10,.bool true),(11,.bool true)]) (fun x=>match x with| ⟨(z),_⟩=>[]) (fun x=>match x with| ⟨(z),_⟩=>1) (by simp +decide only[W,↓reduceIte];rfl) ?_ ⟨(0),rfl⟩ ?_
 rotate_left
 · exact Weak.nil (by simp[St.get,lk,W,Le.refl,W]) (by simp[W])
 rintro ⟨z,hz⟩
 dsimp only
 simp only[List.cons_append,List.nil_append]
 subst hz
 refine WP.block ?_
 refine WP.sr [0,1,2,3,4,10,11,12] (by kernel_rfl) fun K hK=>?_
 simp +decide only[TF,↓reduceIte]
 refine hK _ _ ?_;clear hK K
 refine WP.seq ?_
 refine WP.sr [0,1,2,3,4,10,11,12,25] (by kernel_rfl) fun K hK=>?_
 simp +decide only[TF,↓reduceIte]
 refine hK _ _ ?_;clear hK K
 refine WP.cond (b:=true) (by rfl) (fun _=>?_) nofun
 refine WP.sr [] (by kernel_rfl) fun K hK=>?_
 simp +decide only[TF,↓reduceIte]
 refine aj.pure (ahy) rfl rfl (by simp[-List.map_take]) ?_
 simp +decide only[TF,↓reduceIte]
 refine hK _ _ ?_;clear hK K
 refine WP.ret ?_
 exact Ends.pure (.inr rfl) rfl (Le.of_eq (by simp +decide only[St.get])) (by simp)
theorem abQ:ak Pr 159 [.slice 0 true [] none,.fn (.func 160) [] []] (.aJ []):=by
 refine ak.W Tryz.func159 Tryz.ntmps159 ?_
 simp only[ay,Nat.zero_add]
 refine WP.S [0,1,4] fun _ z=>?_;simp +decide only[TF,↓reduceIte];apply z;clear z
 refine WP.R fun _ z=>?_
 simp +decide only[TF,↓reduceIte]
 refine aj.P (abP) rfl rfl ?_
 simp +decide only[TF,↓reduceIte]
 refine aj.P (aeI) rfl rfl ?_
 simp +decide only[TF,↓reduceIte]
 apply z;clear z
 exact Ends.P rfl (Le.of_eq (by simp +decide only[St.get]))
theorem Za:ak Pr 154 [.slice 0 true [] none,.fn (.func 157) [] []] (.int .i64 (-1)):=by
 refine ak.of_wp Tryz.func154 rfl (by kernel_rfl) Tryz.ntmps154 (by simp) ?_
 simp only[ay,Nat.zero_add]
 refine WP.sr [0,1] (by kernel_rfl) fun K hK=>?_
 simp +decide only[TF,↓reduceIte]
 refine hK _ _ ?_;clear hK K
 refine WP.seq ?_
 refine WP.sr [0,1,7,8] (by kernel_rfl) fun K hK=>?_
 simp +decide only[TF,↓reduceIte]
 refine hK _ _ ?_;clear hK K
 refine WP.block ?_
 refine WP.lp [0,1,7] (X:={z:Nat // z=0}) (fun x=>match x with| ⟨(z),_⟩=>[(8,.int .i64 0)]) (fun x=>match x with| ⟨(z),_⟩=>[]) (fun x=>match x with| ⟨(z),_⟩=>1) (by simp +decide only[W,↓reduceIte];rfl) ?_ ⟨(0),rfl⟩ ?_
 rotate_left
 · exact Weak.nil (by simp[St.get,lk,W,Le.refl,W]) (by simp[W])
 rintro ⟨z,hz⟩
 dsimp only
 simp only[List.cons_append,List.nil_append]
 subst hz
 refine WP.sr [0,1,7,8,9] (by kernel_rfl) fun K hK=>?_
 simp +decide only[TF,↓reduceIte]
 refine hK _ _ ?_;clear hK K
 refine WP.seq ?_
 refine WP.cond (b:=false) (by rfl) nofun (fun _=>?_)
 refine WP.exit ?_
 show WP _ _ _ _ _ _
 refine WP.sr [4] (by kernel_rfl) fun K hK=>?_
 simp +decide only[TF,↓reduceIte]
 refine hK _ _ ?_;clear hK K
 refine WP.ret ?_
 exact Ends.pure (.inr rfl) rfl (Le.of_eq (by simp +decide only[St.get,W,↓reduceIte])) (by simp)
theorem aeJ:ak Pr 156 [.slice 0 true [] none,.fn (.func 157) [] []] (.slice 0 true [] none):=by
 refine ak.W Tryz.func156 Tryz.ntmps156 ?_
 simp only[ay,Nat.zero_add]
 refine WP.S [0,1,4,5,12] fun _ z=>?_;simp +decide only[TF,↓reduceIte];apply z;clear z
 refine WP.S [0,1,4,5,12] fun _ z=>?_
 simp +decide only[TF,↓reduceIte]
 refine aj.P (Za) rfl rfl ?_
 simp +decide only[TF,↓reduceIte]
 apply z;clear z
 iterate 4 first|(refine WP.S [0,1,4,5,12] fun _ z=>?_;simp +decide only[TF,↓reduceIte];apply z;clear z)|refine WP.cT ?_|apply WP.seq
 apply WP.ret
 exact Ends.P rfl (Le.of_eq (by simp +decide only[St.get,W,↓reduceIte]))
theorem Qj (nl:Bool):ak Pr 96 [.slice 2 nl [] none] (.slice 0 true [] none):=by
 refine ak.of_wp Tryz.func96 rfl (by kernel_rfl) Tryz.ntmps96 (by simp) ?_
 simp only[ay]
 refine WP.sr [0] (by kernel_rfl) fun K hK=>?_
 simp +decide only[TF,↓reduceIte]
 refine hK _ _ ?_;clear hK K
 refine WP.sr [0,3] (by kernel_rfl) fun K hK=>?_
 simp +decide only[TF,↓reduceIte]
 refine hK _ _ ?_;clear hK K
 refine WP.seq ?_
 refine WP.sr [3,9,10,11] (by kernel_rfl) fun K hK=>?_
 simp +decide only[TF,↓reduceIte]
 refine hK _ _ ?_;clear hK K
 refine WP.block ?_
 refine WP.lp [9,10] (X:={z:Nat // z=0}) (fun x=>match x with| ⟨(z),_⟩=>[(3,.slice 0 true [] none),(11,.int .i64 0)]) (fun x=>match x with| ⟨(z),_⟩=>[]) (fun x=>match x with| ⟨(z),_⟩=>1) (by simp +decide only[W,↓reduceIte];rfl) ?_ ⟨(0),rfl⟩ ?_
 rotate_left
 · exact Weak.nil (by simp[St.get,lk,W,Le.refl,W]) (by simp[W])
 rintro ⟨z,hz⟩
 dsimp only
 simp only[List.cons_append,List.nil_append]
 subst hz
 refine WP.sr [3,9,10,11,12] (by kernel_rfl) fun K hK=>?_
 simp +decide only[TF,↓reduceIte]
 refine hK _ _ ?_;clear hK K
 refine WP.seq ?_
 refine WP.cond (b:=false) (by rfl) nofun (fun _=>?_)
 refine WP.exit ?_
 show WP _ _ _ _ _ _
 refine WP.sr [3] (by kernel_rfl) fun K hK=>?_
 simp +decide only[TF,↓reduceIte]
 refine aj.pure (aeJ) rfl rfl (by simp[-List.map_take]) ?_
 simp +decide only[TF,↓reduceIte]
 refine hK _ _ ?_;clear hK K
 refine WP.seq ?_
 refine WP.sr [3,46,47] (by kernel_rfl) fun K hK=>?_
 simp +decide only[TF,↓reduceIte]
 refine hK _ _ ?_;clear hK K
 refine WP.block ?_
 refine WP.lp [3,46] (X:={z:Nat // z=0}) (fun x=>match x with| ⟨(z),_⟩=>[(47,.int .i64 0)]) (fun x=>match x with| ⟨(z),_⟩=>[]) (fun x=>match x with| ⟨(z),_⟩=>1) (by simp +decide only[W,↓reduceIte];rfl) ?_ ⟨(0),rfl⟩ ?_
 rotate_left
 · exact Weak.nil (by simp[St.get,lk,W,Le.refl,W]) (by simp[W])
 rintro ⟨z,hz⟩
 dsimp only
 simp only[List.cons_append,List.nil_append]
 subst hz
 refine WP.sr [3,46,47,48] (by kernel_rfl) fun K hK=>?_
 simp +decide only[TF,↓reduceIte]
 refine hK _ _ ?_;clear hK K
 refine WP.seq ?_
 refine WP.cond (b:=false) (by rfl) nofun (fun _=>?_)
 refine WP.exit ?_
 show WP _ _ _ _ _ _
 refine WP.sr [3] (by kernel_rfl) fun K hK=>?_
 simp +decide only[TF,↓reduceIte]
 refine aj.pure (abQ) rfl rfl (by simp[-List.map_take]) ?_
 simp +decide only[TF,↓reduceIte]
 refine hK _ _ ?_;clear hK K
 refine WP.sr [2] (by kernel_rfl) fun K hK=>?_
 simp +decide only[TF,↓reduceIte]
 refine hK _ _ ?_;clear hK K
 refine WP.ret ?_
 exact Ends.pure (.inr rfl) rfl (by simp +decide only[St.get,W,↓reduceIte];first|exact Le.refl _|exact Le.nil _ _ _|exact Le.fg _) (by simp)
structure CkA (l:List At):Prop where
 val:∀a∈l,a.vals≠[]
 dup:∀a∈l,a.vals.Nodup
 names:(l.map fun a=>bg a.name).Nodup
 len:l.length≤32
 v16:∀a∈l,a.vals.length≤16
theorem Qk:iI []=[]:=by simp[iI]
theorem TU (l:List At)(nl:Bool)(hn:l.length≤1099511627776)(hnl:nl=true→l=[])(hl:∀a∈l,a.ok)(hc:CkA l):ak Pr 96 [.slice 2 nl (l.map At.cs) none] (.slice (if l=[] then 0 else 2) l.isEmpty ((iI l).map At.cs) none):=by
 by_cases h:l=[]
 · subst h;rw[Qk];exact Qj nl
 ·
  have:=Qi l nl hn hnl hl h hc.val hc.dup hc.names
  rw[if_neg h,show l.isEmpty=false by cases l <;> simp_all];exact this
theorem Ko:∀(pre l:List (List UInt8)),uO pre l=0→l.Nodup∧∀v∈l,v ∉ pre
 |pre,[],_=>⟨List.nodup_nil,by simp⟩
 |pre,v::l,h=>by
  simp only[uO] at h
  split at h
  ·cases h
  split at h
  ·cases h
  rename_i h1 h2
  obtain⟨q1,q2⟩:=Ko (pre++[v]) l h
  refine⟨List.nodup_cons.2 ⟨fun hm=>q2 v hm (by simp),q1⟩,fun x hx=>?_⟩
  rcases List.mem_cons.1 hx with rfl|hx
  ·intro hp;exact h2 (by simpa using hp)
  ·intro hp;exact q2 x hx (by simp[hp])
theorem abR {pre:List At}{a:At}(h:atE pre a=0):(∀b∈pre,bg a.name≠bg b.name)∧a.vals≠[]∧a.vals.length≤16∧a.vals.Nodup:=by
 unfold atE at h
 split at h
 ·cases h
 split at h
 ·cases h
 split at h
 ·cases h
 split at h
 ·cases h
 rename_i h1 h2 h3 h4
 refine⟨fun b hb e=>h2 (List.any_eq_true.2 ⟨b,hb,by simpa using e⟩),fun e=>h3 (by rw[e];rfl),by simp at h4;omega,(Ko [] _ h).1⟩
theorem yB:∀(pre l:List At),yP pre l=0→(l.map fun a=>bg a.name).Nodup∧∀a∈l,(∀b∈pre,bg a.name≠bg b.name)∧a.vals≠[]∧a.vals.length≤16∧a.vals.Nodup
 |pre,[],_=>⟨by simp,by simp⟩
 |pre,a::l,h=>by
  simp only[yP] at h
  split at h
  ·rename_i h1;exact absurd h h1
  rename_i h1
  have ha:=abR (Decidable.not_not.1 h1)
  obtain⟨q1,q2⟩:=yB (pre++[a]) l h
  refine⟨?_,fun b hb=>?_⟩
  ·rw[List.map_cons,List.nodup_cons]
   refine⟨fun hm=>?_,q1⟩
   obtain⟨b,hb,e⟩:=List.mem_map.1 hm
   exact (q2 b hb).1 a (by simp) e
  ·rcases List.mem_cons.1 hb with rfl|hb
   ·exact ha
   ·exact⟨fun c hc=>(q2 b hb).1 c (by simp[hc]),(q2 b hb).2⟩
theorem xw {l:List At}(h:eF l=0):CkA l:=by
 unfold eF at h
 split at h
 ·cases h
 rename_i h1
 obtain⟨q1,q2⟩:=yB [] l h
 exact⟨fun a ha=>(q2 a ha).2.1,fun a ha=>(q2 a ha).2.2.2,q1,by simp at h1;omega,fun a ha=>(q2 a ha).2.2.1⟩
def Gy (p:List (List UInt8))(a:At):List (List UInt8):=if decide ((a.vals.length:Int)>0)=true then m_ p (bg a.name) else p
def gq (l:List At):List (List UInt8):=l.foldl Gy []
def xA (s:List UInt8)(vs:List (List UInt8))(a:At):List (List UInt8):=if (bg a.name == s)=true then a.vals.foldl m_ vs else vs
def Gz (s:List UInt8)(l:List At):List (List UInt8):=l.foldl (xA s) []
def Zb (l:List At)(s:List UInt8):At:=⟨s,(Gz s l).isEmpty,Gz s l⟩
def Cb (l:List At):List At:=(gq l).map (Zb l)
theorem DY:∀(l o:List (List UInt8)),Asc o→Asc (l.foldl m_ o)
 | [],o,h=>h
 |x::l,o,h=>DY l _ (TG x h)
theorem yC:∀(l o:List (List UInt8)),Asc o→∀x,x∈l.foldl m_ o↔x∈l∨x∈o
 | [],o,h,x=>by simp
 |y::l,o,h,x=>by
  rw[List.foldl_cons,yC l _ (TG y h),abu h,List.mem_cons]
  constructor
  ·rintro (h|h|h)
   ·exact .inl (.inr h)
   ·exact .inl (.inl h)
   ·exact .inr h
  ·rintro ((h|h)|h)
   ·exact .inr (.inl h)
   ·exact .inl h
   ·exact .inr (.inr h)
theorem Kq {l:List (List UInt8)}(h:l.Nodup):l.foldl m_ []=bT l:=(tq h (DY l [] List.Pairwise.nil) fun x=>by rw[yC l [] List.Pairwise.nil];simp).symm
theorem Zc {a:At}(h:a.vals≠[])(p:List (List UInt8)):Gy p a=m_ p (bg a.name):=by
 unfold Gy
 rw[if_pos (by simp;exact List.length_pos_iff.2 h)]
theorem DZ:∀(l:List At) (p:List (List UInt8)),(∀a∈l,a.vals≠[])→l.foldl Gy p=(l.map fun a=>bg a.name).foldl m_ p
 | [],p,_=>rfl
 |a::l,p,h=>by rw[List.foldl_cons,Zc (h a (by simp)),List.map_cons,List.foldl_cons,DZ l _ fun b hb=>h b (by simp[hb])]
theorem Kr (s:List UInt8):∀(l:List At) (vs:List (List UInt8)),(∀a∈l,(bg a.name == s)=false)→l.foldl (xA s) vs=vs
 | [],vs,_=>rfl
 |a::l,vs,h=>by
  rw[List.foldl_cons]
  have:xA s vs a=vs:=by unfold xA;rw[h a (by simp)];rfl
  rw[this];exact Kr s l vs fun b hb=>h b (by simp[hb])
theorem Kt:∀(l:List At),(l.map fun a=>bg a.name).Nodup→∀a∈l,Gz (bg a.name) l=a.vals.foldl m_ []
 | [],_,a,ha=>by simp at ha
 |b::l,hn,a,ha=>by
  rw[List.map_cons,List.nodup_cons] at hn
  unfold Gz
  rw[List.foldl_cons]
  by_cases h:bg b.name=bg a.name
  ·have hab:a=b:=by
    rcases List.mem_cons.1 ha with q|q
    ·exact q
    ·exact absurd (List.mem_map.2 ⟨a,q,h.symm⟩) hn.1
   subst hab
   have:xA (bg a.name) [] a=a.vals.foldl m_ []:=by unfold xA;rw[if_pos (by simp)]
   rw[this]
   exact Kr _ l _ fun c hc=>beq_eq_false_iff_ne.2 fun e=>hn.1 (List.mem_map.2 ⟨c,hc,e⟩)
  ·have:xA (bg a.name) [] b=[]:=by unfold xA;rw[if_neg (by simpa using h)]
   rw[this]
   rcases List.mem_cons.1 ha with q|q
   ·exact absurd (by rw[q]) h
   ·exact Kt l hn.2 a q
theorem tV (l:List At):(iI l).Perm (l.map UH):=List.mergeSort_perm _ _
theorem Ou {l:List At}(hn:(l.map fun a=>bg a.name).Nodup):Asc ((iI l).map (·.name)):=by
 have hp:((iI l).map (·.name)).Perm (l.map fun a=>bg a.name):=by
  have:=(tV l).map (·.name)
  rwa [List.map_map] at this
 have hs:(iI l).Pairwise fun x y=>leA x y=true:=by
  refine List.pairwise_mergeSort (fun a b c h k=>?_) (fun a b=>?_) _
  ·unfold leA at *
   rw[Bool.not_eq_true'] at h k ⊢
   cases hca:Op.bytesLess c.name a.name
   ·rfl
   ·rcases qy b.name c.name with q|q|q
    ·have:=lZ _ _ _ q hca;rw[h] at this;cases this
    ·rw[q] at h;rw[h] at hca;cases hca
    ·rw[k] at q;cases q
  ·unfold leA
   cases hba:Op.bytesLess b.name a.name
   ·rfl
   ·rw[qA _ _ hba];rfl
 have hnd:((iI l).map (·.name)).Nodup:=hp.nodup_iff.2 hn
 show List.Pairwise _ _
 rw[List.pairwise_map]
 rw[List.Nodup,List.pairwise_map] at hnd
 refine List.Pairwise.imp₂ (fun a b h1 h2=>?_) hs hnd
 unfold leA at h1
 rw[Bool.not_eq_true'] at h1
 rcases qy a.name b.name with q|q|q
 ·exact q
 ·exact absurd q h2
 ·rw[h1] at q;cases q
theorem Ku {l:List At}(hc:CkA l):Cb l=iI l:=by
 have hN:gq l=(iI l).map (·.name):=by
  unfold gq
  rw[DZ l [] hc.val]
  refine P8 (DY _ [] List.Pairwise.nil) (Ou hc.names) fun x=>?_
  rw[yC _ [] List.Pairwise.nil,((tV l).map (·.name)).mem_iff,List.map_map]
  simp[Function.comp,UH]
 unfold Cb
 rw[hN,List.map_map]
 conv=>rhs;rw[← List.map_id (iI l)]
 refine List.map_congr_left fun a ha=>?_
 obtain⟨b,hb,rfl⟩:=List.mem_map.1 ((tV l).mem_iff.1 ha)
 simp only[Function.comp,id,Zb,UH]
 rw[Kt l hc.names b hb,Kq (hc.dup b hb)]
 congr 1
 cases hv:b.vals with
 |nil=>exact absurd hv (hc.val b hb)
 |cons x y=>exact abm
def TV (vs:List (List UInt8)):D:= .slice (if vs=[] then 0 else 1) vs.isEmpty (vs.map fun x=>[.str x]) none
theorem aeL:D.slice 0 true [] none=TV []:=by simp[TV]
theorem ahz (vs:List (List UInt8)):Le (TV vs) (.slice 1 vs.isEmpty (vs.map fun x=>[.str x]) none):=by
 unfold TV
 cases vs with
 |nil=>exact Le.nil _ _ _
 |cons a l=>exact Le.refl _
theorem Kv (s:List UInt8):∀(l o:List (List UInt8)) (d:Bool),(d=true→o≠[])→(l.foldl (cu s) (o,d)).2=true→(l.foldl (cu s) (o,d)).1≠[]
 | [],o,d,h,k=>h k
 |x::l,o,d,h,k=>by
  rw[List.foldl_cons] at k ⊢
  refine Kv s l _ _ ?_ k
  intro hd
  cases d
  ·cases hb:Op.bytesLess x s <;> simp[hb] at hd ⊢
   split <;> simp
  ·simp[cu] at hd ⊢
   split
   ·exact h rfl
   ·simp
theorem aeM (l:List (List UInt8))(s:List UInt8):m_ l s≠[]:=by
 unfold m_
 split
 ·exact Kv s l [] false nofun ‹_›
 ·simp
theorem aeN (l:List (List UInt8))(s:List UInt8):D.slice 1 (m_ l s).isEmpty ((m_ l s).map fun x=>[.str x]) none=TV (m_ l s):=by unfold TV;rw[if_neg (aeM l s)]
theorem ahA {vs:List (List UInt8)}(h:vs≠[]):TV vs= .slice 1 vs.isEmpty (vs.map fun x=>[.str x]) none:=by unfold TV;rw[if_neg h]
@[simp] theorem akL {S:Nat→Prop}(vs:List (List UInt8)):cZ S (TV vs)↔True:=by
 simp only[iff_true]
 exact .slice ((TM vs).2 trivial) (by simp)
@[simp] theorem alF (vs:List (List UInt8)):fg (TV vs)=TV vs:=by
 unfold TV;rfl
theorem abS {l:List At}(hc:CkA l){s:List UInt8}(hs:s∈gq l):Gz s l≠[]:=by
 unfold gq at hs
 rw[DZ l [] hc.val,yC _ [] List.Pairwise.nil] at hs
 obtain⟨a,ha,rfl⟩:=List.mem_map.1 (hs.resolve_right (by simp))
 rw[Kt l hc.names a ha,Kq (hc.dup a ha)]
 intro e
 have h1:=dL a.vals
 rw[e] at h1
 exact hc.val a ha (List.length_eq_zero_iff.1 h1.symm)
theorem aeO {l:List At}(hc:CkA l){s:List UInt8}(hs:s∈gq l):(Zb l s).cs=[.str s,TV (Gz s l)]:=by
 rw[ahA (abS hc hs)];rfl
theorem VN {l:List At}(hc:CkA l):(gq l).length≤32:=by
 have h:=congrArg List.length (Ku hc)
 rw[yA] at h
 simp only[Cb,List.length_map] at h
 rw[h];exact hc.len
theorem aO {S:Nat→Prop}(l:List At):(∀e∈l.map At.cs,∀d∈e,cZ S d)↔True:=by
 simp only[iff_true]
 intro e he d hd
 obtain⟨a,_,rfl⟩:=List.mem_map.1 he
 exact BQ a d hd
theorem aeP {S:Nat→Prop}(a:At):(∀d∈a.cs,cZ S d)↔True:=by
 simp only[iff_true]
 exact BQ a
end Go.Proofs
