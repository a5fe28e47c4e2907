import Derived.Test.YtekopfoidhhedaaGreatDoorG13
import Derived.Test.YtekopfoidhhedaaGreatDoorG15
import Derived.Test.YtekopfoidhhedaaGreatDoorG16
import Derived.Test.YtekopfoidhhedaaGreatDoorG14
import Derived.Test.YtekopfoidhhedaaGreatDoorG07
import Derived.Shelf.Strings.BuilderK
import Derived.Test.YtekopfoidhhedaaGreatDoorG08
set_option linter.unusedVariables false
set_option linter.unusedSimpArgs false
set_option linter.unnecessarySimpa false
namespace Go.Proofs
open Go Go.Id
theorem Yd (w:World):RowKit.Below w.heap.size w w.drew:=⟨rfl,rfl,rfl,ag4 _,fun _ _=>rfl⟩
theorem MF (s t:List UInt8):ay Pr 166 [.str s,.str t] (.str (Lib.trimPrefix s t)):=
 .str2 (dH Tryz.func166 (by kernel_rfl) (by kernel_rfl)) fun M w b c hb hc hI hn hM=>by
  refine (Tryz.strings_TrimPrefix b c w).mono ?_
  rintro e w' ⟨rfl,rfl⟩
  exact⟨_,rfl,.refl _ _,by rw[hb,hc];exact jS _⟩
theorem o9 (s:List UInt8)(n:Int):ay Pr 165 [.str s,.int .u8 n] (.int .i64 (Lib.indexByte s n.toNat.toUInt8)):=
 .X4 (dH Tryz.func165 (by kernel_rfl) (by kernel_rfl)) fun M w b hb hI hn hM=>by
  refine (Tryz.strings_IndexByte b n w).mono ?_
  rintro e w' ⟨rfl,rfl⟩
  exact⟨_,rfl,.refl _ _,by rw[hb];exact .int _ _⟩
theorem ad8 (s:List UInt8)(c:UInt8)(hc:c.toNat<128)(hs:s.length≤9223372036854775807):ay Pr 256 [.str s,.str [c]] (.str (Lib.trimB s c)):=
 .str2 (dH Tryz.func256 (by kernel_rfl) (by kernel_rfl)) fun M w b d hb hd hI hn hM=>by
  obtain⟨⟨l⟩⟩:=d
  simp only at hd
  subst hd
  refine (Tryz.strings_Trim_one b c hc w (by rw[abj,hb];exact hs)).mono ?_
  rintro e w' ⟨rfl,rfl|rfl⟩
  ·exact⟨_,rfl,.refl _ _,by rw[hb];exact jS _⟩
  ·exact⟨_,rfl,Yd _,by rw[hb];exact jS _⟩
def oN (s t:List UInt8):List (List UInt8):=(Lib.splitB ⟨t.toArray⟩ 0 (Lib.countB ⟨s.toArray⟩ ⟨t.toArray⟩) ⟨s.toArray⟩).map (·.data.toList)
def Ji (s:List UInt8):D:=
 match Lib.atoiAll s with
 | .ok v=> .aQ [.int .i64 v,.aK]
 | .range=> .aQ [.int .i64 (Lib.atoiSat s),.iface 256 .junk]
 | _=> .aQ [.int .i64 0,.iface 256 .junk]
theorem J3 {M:Nat→Nat→Prop}{γ:Nat→Option G}{w:World}{a b:D}{x y:Value}(h1:Rep M γ w a x)(h2:Rep M γ w b y):Rep M γ w (.aQ [a,b]) (.tuple #[x,y]):=
 .aQ rfl fun i d v q1 q2=>by
  match i with
  | 0=>simp at q1 q2;subst q1;subst q2;exact h1
  | 1=>simp at q1 q2;subst q1;subst q2;exact h2
  |i+2=>simp at q1
theorem vg (s:List UInt8)(hs:s.length≤281474976710656):ay Pr 167 [.str s] (Ji s):=
 .str1 (dH Tryz.func167 (by kernel_rfl) (by kernel_rfl)) fun M w b hb hI hn hM=>by
  obtain⟨_,_,⟨t1,p1,h1⟩,⟨t2,p2,h2⟩,_⟩:=hI
  subst hb
  have hs':b.size≤281474976710656:=hs
  unfold Ji
  cases h:Lib.atoiAll b.data.toList with
  |ok v=>
   refine (Tryz.strconv_Atoi_ok b (by omega) v h w).mono ?_
   rintro e w' ⟨rfl,rfl | ⟨t,rfl⟩⟩
   ·exact⟨_,rfl,.refl _ _,J3 (.int _ _) .aK⟩
   ·exact⟨_,rfl,Lib.bytesWorld_below _ _ _,J3 (.int _ _) .aK⟩
  |range=>
   refine (Tryz.strconv_Atoi_range b hs' h _ w h2 (.inr ⟨_,_,rfl⟩)).mono ?_
   rintro e w' ⟨N,rfl,_,_,hbl⟩
   exact⟨_,rfl,hbl,J3 (.int _ _) (.iface (.junk _))⟩
  | _=>
   refine (Any.strconv_Atoi_syntax Tryz.laysC172 b hs' h _ w h1 (.inr ⟨_,_,rfl⟩)).mono ?_
   rintro e w' ⟨N,rfl,_,_,hbl⟩
   exact⟨_,rfl,hbl,J3 (.int _ _) (.iface (.junk _))⟩
theorem below_grow (w:World)(k:Nat)(os:Array Obj):RowKit.Below w.heap.size w (Sort.grow (w.drewN k) os):=
 ⟨rfl,rfl,rfl,by simp only[Sort.grow,Array.size_append];exact Nat.le_add_right _ _,fun k hk=>by simp only[Sort.grow];exact Array.getElem?_append_left hk⟩
theorem Vu (n:Int)(h0:-9223372036854775808≤n)(h1:n≤9223372036854775807):ay Pr 80 [.int .i64 n] (.str (Lib.itoa n)):=
 .amB (dH Tryz.func80 (by kernel_rfl) (by kernel_rfl)) fun M w hI hn hM=>by
  refine (Tryz.strconv_Itoa n h0 h1 w hI.2.1).mono ?_
  rintro e w' ⟨rfl,k,os,rfl⟩
  exact⟨_,rfl,below_grow w k os,jS _⟩
theorem Vw (ls:List (List UInt8))(nil:Bool)(t:List UInt8)(hn:ls.length≤140737488355328)(hl:(Lib.join ls t).length≤140737488355328):ay Pr 161 [.slice 1 nil (ls.map fun s=>[.str s]) none,.str t] (.str (Lib.join ls t)):=by
 refine .quiet (dH Tryz.func161 (by kernel_rfl) (by kernel_rfl)) fun M w vs hI hnn hlen hM hr=>?_
 match vs,hlen with
 | [v,v'],_=>
  obtain⟨c,rfl,rfl⟩:=tH (hr 1 _ _ rfl rfl)
  have h0:=hr 0 _ _ rfl rfl
  rcases aZ h0 with⟨rfl,hnil,_⟩ | ⟨a,cap,us,rfl,_,hspot,hvs,hcap,hsz,hc,hrr,_⟩
  ·have:ls=[]:=by simpa using hnil
   subst this
   refine (Tryz.strings_Join_none none 0 c w).mono ?_
   rintro e w' ⟨rfl,rfl⟩
   exact⟨_,rfl,.refl _ _,jS []⟩
  ·by_cases hls:ls=[]
   ·subst hls
    refine (Tryz.strings_Join_none (some a) cap c w).mono ?_
    rintro e w' ⟨rfl,rfl⟩
    exact⟨_,rfl,.refl _ _,jS []⟩
   obtain⟨bk,o,sp⟩:=a
   have hspot:=hspot (by simpa using hls)
   simp only at hspot
   subst hspot
   simp only[ac',aos] at hvs hcap
   have hget:∀(j:Nat) s,ls[j]?=some s→us[j]?=some (.string ⟨s.toArray⟩):=by
    intro j s hs
    have hlt:j<us.length:=by rw[hvs];exact (acR.1 hs).1
    have h3:=hrr j 0 [.str s] (.str s) us[j] (by simp[hs]) rfl (by simp[hlt])
    obtain⟨b,hb,hb2⟩:=tH h3
    rw[abt hlt,hb,← hb2]
   ·have hmm:(ls.map fun s=>(⟨s.toArray⟩:ByteArray)).map (·.data.toList)=ls:=by rw[List.map_map];exact amE ls
    have hcells:∀(j:Nat) x,(ls.map fun s=>(⟨s.toArray⟩:ByteArray))[j]?=some x→w.cell? ⟨bk,o+j,none⟩=some (.string x):=by
     intro j x hx
     rw[adw,abR] at hx
     obtain⟨s,hs,rfl⟩:=hx
     exact (hc j _ (hget j s hs)).1
    have hbk:bk<w.heap.size:=by
     obtain⟨s,hs⟩:∃s,ls[0]?=some s:=⟨_,abt (akT.2 hls)⟩
     exact cell_lt (hc 0 _ (hget 0 s hs)).1
    have:=Tryz.strings_Join bk o cap (ls.map fun s=>(⟨s.toArray⟩:ByteArray)) c w hcells hbk (by simpa using hn) (by simpa using hcap) (by rw[hmm];exact hl)
    rw[hmm] at this
    simp only[ac'] at this ⊢
    refine this.mono ?_
    rintro e w' ⟨rfl,hbl⟩
    exact⟨_,rfl,hbl,jS _⟩
set_option maxRecDepth 10000
def ixL (s:List UInt8):List (List UInt8)→Int→Int
 | [],_=>-1
 |x::l,i=>if s == x then i else ixL s l (i+1)
theorem ZR (s:List UInt8):∀(l:List (List UInt8)) (i:Int),0≤i→decide (ixL s l i≥0)=l.contains s
 | [],i,_=>by simp[ixL]
 |x::l,i,hi=>by
  have ih:=ZR s l (i+1) (by omega)
  simp only[ixL,List.contains_cons]
  by_cases h:x=s
  ·subst h;simp;omega
  ·
   have h':(s == x)=false:=by simpa using fun e=>h e.symm
   simp only[h',ag8,if_false,Bool.false_or]
   exact ih
theorem ad9 (s:List UInt8)(l:List (List UInt8)):decide (0≤ixL s l 0)=l.contains s:=ZR s l 0 (Int.le_refl 0)
theorem any_eq (s:List UInt8):∀l:List (List UInt8),l.any (fun x=>x == s)=l.contains s
 | []=>rfl
 |x::l=>by
  simp only[apn,List.contains_cons,any_eq s l]
  by_cases h:x=s
  ·subst h;simp
  ·
   have h1:(x == s)=false:=by simpa using h
   have h2:(s == x)=false:=by simpa using fun e=>h e.symm
   rw[h1,h2]
def aN (n:Int):Int:=if n<0 then 0 else if 1099511627776<n then 1099511627776 else n
theorem Ye (n:Int):0≤aN n:=by unfold aN;split <;> (try split) <;> omega
theorem Yf (n:Int):aN n≤1099511627776:=by unfold aN;split <;> (try split) <;> omega
theorem ahE (n:Int):aN (aN n)=aN n:=by
 have:=Ye n;have:=Yf n
 unfold aN at *;repeat' split <;> (try omega)
theorem akW (s:List UInt8)(hs:s.length≤140737488355328):ay Pr 225 [.str s] (.str (Lib.trimB s 32)):=by
 refine ay.W Tryz.func225 Tryz.ntmps225 ?_
 simp only[aT]
 refine aG 1 [0,2] ?_
 refine WP.S [0,2] fun _ z=>?_
 simp +decide only[TF,↓reduceIte]
 refine aj.P (ad8 _ 32 (by decide) (by omega)) rfl rfl ?_
 simp +decide only[TF,↓reduceIte]
 apply z;clear z
 apply WP.ret
 exact Ends.P rfl (Le.of_eq (by simp +decide only[St.get,W,↓reduceIte]))
abbrev tY:List Nat:=[0,2,4,6,7,8,15]
theorem Tc (s:List UInt8)(hs:s.length≤140737488355328):ay Pr 178 [.str s] (.bool (b_ s)):=by
 refine ay.W Tryz.func178 Tryz.ntmps178 ?_
 simp only[aT]
 refine aG 4 tY ?_
 refine WP.lp [0,6] (X:={k:Nat // k≤s.length∧b_ s=((s.drop k).all (fun c=>tX c.toNat) && !(s == []) && decide ((s.length:Int)≤256) && endsB s)}) (fun x=>match x with| ⟨(k),_⟩=>[]) (fun x=>match x with| ⟨(k),_⟩=>[(0,.iter s k)]) (fun x=>match x with| ⟨(k),_⟩=>s.length - k) (by simp +decide only[W,↓reduceIte];rfl) ?_ ⟨(0),⟨ada _,by simp[b_]⟩⟩ ?_
 rotate_left
 ·exact Weak.frame (by simp[St.get,lk,W,Le.refl])
 rintro ⟨k,hk,hI⟩
 dsimp only
 simp only[abT]
 rcases abu s k hk with hge | ⟨hlt,hb,hd⟩ | ⟨hlt,hd1,hd2,hd⟩
 ·have hnl:¬k<s.length:=by omega
  rw[dR hge] at hI
  simp only[amn,al5] at hI
  refine aJ 4 tY hnl ?_
  refine WP.S tY fun _ z=>?_
  refine ah.take 3 fun J hJ=>?_
  simp +decide only[TF,↓reduceIte]
  refine hJ _ _ ?_;clear hJ J
  refine ah.part 18 rfl (fun q1=>?_) (fun q1=>?_)
  ·refine ah.take 5 fun J hJ=>?_
   simp +decide only[TF,q1,↓reduceIte]
   refine hJ _ _ ?_;clear hJ J
   refine ah.part 23 rfl (fun q2=>?_) (fun q2=>?_)
   ·have hne:s≠[]:=by intro e;subst e;simp_all
    have ht:=Yc s hne
    simp +decide only[TF,q2,↓reduceIte]
    refine aj.P (akW _ (by assumption)) rfl rfl ?_
    simp +decide only[TF,ht,↓reduceIte]
    apply z;clear z
    apply WP.ret
    exact Ends.P rfl (Le.of_eq (by simp_all[St.get,W,b_,tX]))
   simp +decide only[TF,q2,↓reduceIte]
   apply z;clear z
   apply WP.ret
   exact Ends.P rfl (Le.of_eq (by simp +decide only[St.get,W,b_,tX,q1,q2,↓reduceIte]))
  simp +decide only[TF,q1,↓reduceIte]
  apply z;clear z
  apply WP.ret
  exact Ends.P rfl (Le.of_eq (by simp +decide only[St.get,W,b_,tX,q1,↓reduceIte]))
 ·rw[hd] at hI
  have hb1:decide ((((jw s k).1:Nat):Int)<32)=false:=by simp;omega
  have hb2:decide ((((jw s k).1:Nat):Int)>126)=true:=by simp;omega
  refine oC 9 tY hlt hb1 hb2 ?_
  apply WP.ret
  exact Ends.P rfl (Le.of_eq (by simp_all[St.get,W,b_,tX]))
 rw[hd] at hI
 refine oC 6 tY hlt hd1 hd2 ?_
 refine WP.S tY fun _ z=>?_
 refine ah.take 3 fun J hJ=>?_
 simp +decide only[TF,↓reduceIte]
 refine hJ _ _ ?_;clear hJ J
 refine ah.part 12 rfl (fun q3=>?_) (fun q3=>?_)
 ·simp +decide only[TF,q3,↓reduceIte]
  apply z;clear z
  refine aG 2 tY ?_
  apply WP.ret
  exact Ends.P rfl (Le.of_eq (by first|(simp +decide only[St.get,W,b_,tX,↓reduceIte];done)|(simp[St.get,W,b_,tX];done)|(simp_all[St.get,W,b_,tX];done)|(simp_all[St.get,W,b_,tX];intros;first|omega|(rw[agZ];simp;try omega);done)))
 simp +decide only[TF,q3,↓reduceIte]
 apply z;clear z
 refine WP.cond rfl (fun q4=>?_) (fun q4=>?_)
 ·refine aJ 1 tY q4 ?_
  apply WP.ret
  exact Ends.P rfl (Le.of_eq (by first|(simp +decide only[St.get,W,b_,tX,↓reduceIte];done)|(simp[St.get,W,b_,tX];done)|(simp_all[St.get,W,b_,tX];done)|(simp_all[St.get,W,b_,tX];intros;first|omega|(rw[agZ];simp;try omega);done)))
 apply WP.skip
 show ∃y,_∧Weak _ _ _
 refine⟨⟨k+1,?_⟩,?_,?_⟩
 ·exact⟨by omega,by simp_all[tX]⟩
 ·dsimp only;omega
 exact Weak.store (by simp[St.get,lk,W,Le.refl]) (by simp[lk]) (by simp[lk]) (by simp[aB]) (by simp)
abbrev lM:List Nat:=[0,2,3,24,28]
theorem zW (s:List UInt8)(hs:s.length≤140737488355328):ay Pr 60 [.str s] (.bool (b_ s)):=by
 refine gK Tryz.func60 Tryz.ntmps60 ?_
 refine aG 2 lM ?_
 refine WP.S lM fun _ z=>?_
 refine ah.take 4 fun J hJ=>?_
 simp +decide only[TF,↓reduceIte]
 refine hJ _ _ ?_;clear hJ J
 refine ah.part 7 rfl (fun q1=>?_) (fun q1=>?_)
 ·have hz:s=[]:=by cases s with|nil=>rfl|cons=>(simp at q1;try omega)
  simp +decide only[TF,q1,↓reduceIte]
  apply z;clear z
  refine aG 2 lM ?_
  apply WP.ret
  exact Ends.P rfl (Le.of_eq (by simp_all[St.get,W,b_,endsB,tX]))
 have hne:0<s.length:=by have:=of_decide_eq_false q1;omega
 have h0:=kU hne
 have h0c:=zV hne
 have hnn:(s == [])=false:=by cases s <;> simp at hne ⊢
 refine ah.take 5 fun J hJ=>?_
 simp +decide only[TF,q1,↓reduceIte]
 refine hJ _ _ ?_;clear hJ J
 refine ah.part 12 rfl (fun q2=>?_) (fun q2=>?_)
 ·simp +decide only[TF,q2,↓reduceIte]
  apply z;clear z
  refine aG 2 lM ?_
  apply WP.ret
  exact zV4 @b_.eq_def @endsB.eq_def @tX.eq_def h0c
 refine ah.take 5 fun J hJ=>?_
 simp +decide only[TF,h0,q2,↓reduceIte]
 refine hJ _ _ ?_;clear hJ J
 refine ah.part 17 rfl (fun q3=>?_) (fun q3=>?_)
 ·simp +decide only[TF,q3,↓reduceIte]
  apply z;clear z
  refine aG 2 lM ?_
  apply WP.ret
  exact zP5 @b_.eq_def @endsB.eq_def @tX.eq_def h0c q3
 have hw:=ad3 hne hs
 have hl:=kU (show s.length - 1<s.length by omega)
 have hlc:=zV (show s.length - 1<s.length by omega)
 simp +decide only[TF,q3,hw,hl,↓reduceIte]
 apply z;clear z
 refine WP.cond rfl (fun q4=>?_) (fun q4=>?_)
 ·refine aJ 1 lM q4 ?_
  apply WP.ret
  exact Ends.P rfl (Le.of_eq (by simp +decide only[St.get,W,b_,endsB,tX,h0c,q3,hlc,q4,↓reduceIte]))
 refine aJ 4 [0,3] q4 ?_
 refine WP.lp [0] (X:={k:Nat // k≤s.length∧b_ s=(s.drop k).all (fun c=>tX c.toNat)}) (fun x=>match x with| ⟨(k),_⟩=>[(3,.int .i64 k)]) (fun x=>match x with| ⟨(k),_⟩=>[]) (fun x=>match x with| ⟨(k),_⟩=>s.length - k) (by simp +decide only[W,↓reduceIte];rfl) ?_ ⟨(0),⟨ada _,by have hle:decide ((s.length:Int)≤256)=true:=(by simp at q2 ⊢;omega);simp only[aoY,b_,endsB,h0c,hlc,hnn,q3,q4,hle,apa,Bool.and_true]⟩⟩ ?_
 rotate_left
 ·exact OC
 rintro ⟨k,hk,hI⟩
 dsimp only
 simp only[abS,abT]
 refine aG 2 lM ?_
 refine WP.cond rfl (fun q5=>?_) (fun q5=>?_)
 ·have hlt:=aO q5
  have hg:=kU hlt
  rw[bZ hlt] at hI
  simp only[alf] at hI
  refine aG 3 [] ?_
  refine WP.sm [0,3] 40 (.bool (!(tX s[k].toNat))) (by kernel_rfl) (fun K hK=>?_) ?_
  ·refine ah.take 5 fun J hJ=>?_
   simp +decide only[TF,q5,hg,↓reduceIte]
   refine hJ _ _ ?_;clear hJ J
   refine ah.part 35 rfl (fun q6=>?_) (fun q6=>?_)
   ·simp +decide only[TF,q6,↓reduceIte]
    exact hK _ _ (by simp[St.get,lk,W]) rfl (Le.of_eq (by simp_all[St.get,lk,W,LN,tX]))
   simp +decide only[TF,hg,q6,↓reduceIte]
   exact hK _ _ (by simp[St.get,lk,W]) rfl (Le.of_eq (by first|(simp[St.get,lk,tX];done)|(simp_all[St.get,lk,W,LN,tX];done)|(simp_all[St.get,lk,W,LN,tX];rw[agZ];simp;try omega;done)))
  refine WP.cond rfl (fun q7=>?_) (fun q7=>?_)
  ·refine jd 1 lM q5 q7 ?_
   apply WP.ret
   exact Ends.P rfl (Le.of_eq (by first|(simp +decide only[St.get,W,b_,endsB,tX,h0c,q3,hlc,q4,↓reduceIte];done)|(simp[St.get,W,b_,endsB,tX,h0c,q3,hlc,q4];done)|(simp_all[St.get,W,LN,b_,endsB,tX];done)|(simp_all[St.get,W,LN,b_,endsB,tX];intros;first|omega|(rw[agZ];simp;try omega);done)))
  refine jd 2 [] q5 q7 ?_
  show ∃y,_∧Weak _ _ _
  refine⟨⟨k+1,?_⟩,?_,Weak.nil ?_ ?_⟩
  ·exact⟨by omega,by first|(simpa [q1,h0,h0c,q2,q3,hw,hl,hlc,q4,q5,hg,q7] using hI)|(simp_all;done)⟩
  ·dsimp only;omega
  ·simp[St.get,lk,Le.refl,aU hlt hs]
  simp[W]
 have hge:=aP q5
 rw[dR hge] at hI
 simp only[amn] at hI
 refine aJ 2 lM q5 ?_
 apply WP.ret
 exact Ends.P rfl (Le.of_eq (by simp_all[St.get,W,LN,b_,endsB,tX]))
theorem vk (n:Int):ay Pr 123 [.int .i64 n] (.int .i64 (aN n)):=by
 refine gK Tryz.func123 Tryz.ntmps123 ?_
 refine aG 2 [0,2] ?_
 apply WP.ret
 exact Ends.P rfl (Le.of_eq (by simp[St.get,W,aN];repeat' split <;> (try omega)))
theorem iT (n:Int):ay Pr 188 [.int .i64 n] (.int .i64 (aN n)):=by
 refine gK Tryz.func188 Tryz.ntmps188 ?_
 refine aG 2 [0,2] ?_
 apply WP.ret
 exact Ends.P rfl (Le.of_eq (by simp[St.get,W,aN];repeat' split <;> (try omega)))
end Go.Proofs
namespace Go.Proofs
open Go.Shelf Go.RowKit
variable {P:Program} {ρ:Ren}
set_option maxHeartbeats 2000000 in
set_option maxRecDepth 100000 in
theorem FN (L:Lays.n169 P ρ)(X:Builder.Extra P ρ)(b g cap:Nat)(l:List UInt8)(cur:Array Value)(w:World)(hc1:w.cell? ⟨b,1,none⟩=some (.slice (some ⟨g,0,none⟩) l.length cap))
  (hg:w.heap[g]?=some (.cells cur (ρ.t 5) (0,0))) (hnc:l.length≤cap) (hcm:cap≤maxLen) (hcs:cur.size=cap * 1) (htake:cur.toList.take l.length=Lib.byteCells l) (h0:l≠[]):
  Calls P (ρ.f 169) #[.pointer (some ⟨b,0,none⟩)] w fun e w'=>e= .returned (.string ⟨l.toArray⟩)∧w'=w.drew.freeze ⟨g,0,none⟩ l.length:=by
 have hl0:l.length≠0:=by simpa using h0
 have c1:w.drew.cell? ⟨b,1,none⟩=some (.slice (some ⟨g,0,none⟩) l.length cap):=hc1
 have hSD:(Builtin.unsafeSliceData_ #[(ρ.t 37)] (ρ.t 127) #[.slice (some ⟨g,0,none⟩) l.length cap]).run P w.drew= .ok (.pointer (some ⟨g,0,none⟩)) w.drew:=
  Lib.run_unsafeSliceData_row _ _ _ _ _ _ (by omega)
 have hUS:(Builtin.unsafeString_ #[(ρ.t 127),(ρ.t 3)] (ρ.t 9) #[.pointer (some ⟨g,0,none⟩),.int .i64 l.length]).run P w.drew= .ok (.string ⟨l.toArray⟩) (w.drew.freeze ⟨g,0,none⟩ l.length):=by
  refine Lib.run_unsafeString_row w.drew (ρ.t 127) (ρ.t 3) (ρ.t 9) (ρ.t 5) L.t127 X.cellsByte g cur.size (by have hg':w.drew.heap[g]?=some (.cells cur (ρ.t 5) (0,0)):=hg;simp[World.shape?,hg']) l h0 (by omega) (by unfold maxLen at hcm;omega) ?_
  intro j x hx
  have e1:(Lib.byteCells l)[j]?=some (.int .u8 x.toNat):=by simp[Lib.byteCells,hx]
  rw[← htake,ag3] at e1
  split at e1
  ·have hg':w.drew.heap[g]?=some (.cells cur (ρ.t 5) (0,0)):=hg
   rw[Addr.add_lit,ade,Lib.cell_of_heap hg']
   simpa using e1
  ·cases e1
 have mixed:=L.mixed
 have t72:=L.t72;have a72:=L.a72;have z72:=L.z72;have v72:=L.v72;have u72:=run_underlying L.t72
 have t70:=L.t70;have a70:=L.a70;have z70:=L.z70;have v70:=L.v70;have u70:=run_underlying L.t70
 have t37:=L.t37;have a37:=L.a37;have z37:=L.z37;have v37:=L.v37;have u37:=run_underlying L.t37
 have t127:=L.t127;have a127:=L.a127;have z127:=L.z127;have v127:=L.v127;have u127:=run_underlying L.t127
 have t3:=L.t3;have a3:=L.a3;have z3:=L.z3;have v3:=L.v3;have u3:=run_underlying L.t3
 have t9:=L.t9;have a9:=L.a9;have z9:=L.z9;have v9:=L.v9;have u9:=run_underlying L.t9
 have t5:=X.t5;have a5:=X.a5;have z5:=X.z5;have v5:=X.v5;have u5:=run_underlying X.t5
 go_enter L.f169,Body.n169_ntmps ρ
 go_wp2
 go_region_o
 all_goals (go_wp2;go_ret;exact⟨rfl,rfl⟩)
set_option maxHeartbeats 2000000 in
set_option maxRecDepth 100000 in
theorem MG (L:Lays.n169 P ρ)(X:Builder.Extra P ρ)(b:Nat)(w:World)(hc1:w.cell? ⟨b,1,none⟩=some (.slice none 0 0)):
  Calls P (ρ.f 169) #[.pointer (some ⟨b,0,none⟩)] w fun e w'=>e= .returned (.string ⟨#[]⟩)∧w'=w.drew:=by
 have hUS:=Any.unsafeString_none L X
 have c1:w.drew.cell? ⟨b,1,none⟩=some (.slice none 0 0):=hc1
 have hSD:(Builtin.unsafeSliceData_ #[(ρ.t 37)] (ρ.t 127) #[.slice none 0 0]).run P w.drew= .ok (.pointer none) w.drew:=rfl
 have mixed:=L.mixed
 have t72:=L.t72;have a72:=L.a72;have z72:=L.z72;have v72:=L.v72;have u72:=run_underlying L.t72
 have t70:=L.t70;have a70:=L.a70;have z70:=L.z70;have v70:=L.v70;have u70:=run_underlying L.t70
 have t37:=L.t37;have a37:=L.a37;have z37:=L.z37;have v37:=L.v37;have u37:=run_underlying L.t37
 have t127:=L.t127;have a127:=L.a127;have z127:=L.z127;have v127:=L.v127;have u127:=run_underlying L.t127
 have t3:=L.t3;have a3:=L.a3;have z3:=L.z3;have v3:=L.v3;have u3:=run_underlying L.t3
 have t9:=L.t9;have a9:=L.a9;have z9:=L.z9;have v9:=L.v9;have u9:=run_underlying L.t9
 have t5:=X.t5;have a5:=X.a5;have z5:=X.z5;have v5:=X.v5;have u5:=run_underlying X.t5
 go_enter L.f169,Body.n169_ntmps ρ
 go_wp2
 go_region_o
 all_goals (go_wp2;go_ret;exact⟨rfl,rfl⟩)
def Tryz.ren240:Ren:=⟨fun | 240=>151 | 276=>210|n=>n,fun | 72=>144 | 70=>141 | 37=>142 | 164=>229|n=>n,fun n=>n⟩
theorem Tryz.lays240:Lays.n240 Tryz.prog Tryz.ren240 where
 mixed:=by kernel_rfl
 f240:=by kernel_rfl
 f276:=by kernel_rfl
 t0:=Tryz.underlying0
 a0:=Tryz.isAgg0
 z0:=Tryz.sizeOf0
 v0:=Tryz.zeroValue0
 t4:=Tryz.underlying4
 a4:=Tryz.isAgg4
 z4:=Tryz.sizeOf4
 v4:=Tryz.zeroValue4
 t9:=Tryz.underlying9
 a9:=Tryz.isAgg9
 z9:=Tryz.sizeOf9
 v9:=Tryz.zeroValue9
 t20:=Tryz.underlying20
 a20:=Tryz.isAgg20
 z20:=Tryz.sizeOf20
 v20:=Tryz.zeroValue20
 t70:=Tryz.underlying141
 a70:=Tryz.isAgg141
 z70:=Tryz.sizeOf141
 v70:=Tryz.zeroValue141
 t72:=Tryz.underlying144
 a72:=Tryz.isAgg144
 z72:=Tryz.sizeOf144
 v72:=Tryz.zeroValue144
 t164:=Tryz.underlying229
 a164:=Tryz.isAgg229
 z164:=Tryz.sizeOf229
 v164:=Tryz.zeroValue229
theorem Tryz.Builder_X72_240:Builder.X72 Tryz.prog Tryz.ren240 where
 sizeBuilder:=by kernel_rfl
 liesBuilder:=by kernel_rfl
open Go.Id in
theorem pX {M:Nat→Nat→Prop}{γ:Nat→Option G}{w:World}{b off B:Nat}{v:Value}(h:Rep M γ w (.ref b off) v)(hg:γ b=some (.box B)):v= .pointer (some ⟨B,off,none⟩):=by
 cases h with
 |ref hγ=>rcases hγ with hγ | ⟨_,_,hγ⟩|hγ <;> rw[hg] at hγ <;> cases hγ <;> rfl
open Go.Id in
theorem MH (b:Nat)(x:D)(rest:List (Nat × bf)):aF Pr 151 [.ref b 0] ((b,.box 144 [.aV,x])::rest) (.aQ []) ((b,.box 144 [.ref b 0,x])::rest):=
 aF.wrote (cs:=[.aV,x]) 0 (by simp) (.ref b 0) (dH Tryz.func151 (by kernel_rfl) (by kernel_rfl)) fun M γ w vs B us fz hst hl hr hg hB hlen h1 hrr=>by
  match vs,hl with
  | [v],_=>
   obtain rfl:=pX (hr 0 _ _ rfl rfl) hg
   have hlt:0<us.size:=by rw[hlen];simp
   have hu:us[0]?=some us[0]:=adr hlt
   have hp:us[0]= .pointer none:=by
    have:=hrr 0 _ _ rfl hu
    generalize us[0]=u0 at this
    cases this;rfl
   rw[hp] at hu
   have h0:w.cell? ⟨B,0,none⟩=some (.pointer none):=by rw[cell_of_row w B 0 us 144 fz hB];exact hu
   have hsh:w.shape? B=some (144,2):=by simp[World.shape?,hB,hlen]
   refine (Any.Builder_copyCheck_fresh Tryz.lays240 Tryz.Builder_X72_240 B w h0 hsh (h1 0 _ hu).2).mono ?_
   rintro e w' ⟨rfl,rfl⟩
   exact⟨_,_,rfl,rfl,rfl,.ref (.inl hg),.aQ rfl (by simp)⟩
open Go.Id in
theorem OZ (b:Nat)(x:D)(rest:List (Nat × bf)):aF Pr 151 [.ref b 0] ((b,.box 144 [.ref b 0,x])::rest) (.aQ []) ((b,.box 144 [.ref b 0,x])::rest):=
 aF.same (dH Tryz.func151 (by kernel_rfl) (by kernel_rfl)) fun M γ w vs hst hl hr=>by
  match vs,hl with
  | [v],_=>
   have hlk:lk ((b,bf.box 144 [.ref b 0,x])::rest) b=some (.box 144 [.ref b 0,x]):=by simp[lk]
   obtain⟨g,h2,h3⟩:=hst.hit hlk
   cases h3 with
   | @box _ B us _ fz hB hlen h1 hrr=>
    obtain rfl:=pX (hr 0 _ _ rfl rfl) h2
    have hlt:0<us.size:=by rw[hlen];simp
    have hu:us[0]?=some us[0]:=adr hlt
    have hp:us[0]= .pointer (some ⟨B,0,none⟩):=pX (hrr 0 _ _ rfl hu) h2
    rw[hp] at hu
    have h0:w.cell? ⟨B,0,none⟩=some (.pointer (some ⟨B,0,none⟩)):=by rw[cell_of_row w B 0 us 144 fz hB];exact hu
    refine (Any.Builder_copyCheck_used Tryz.lays240 Tryz.Builder_X72_240 B w h0).mono ?_
    rintro e w' ⟨rfl,rfl⟩
    exact⟨_,rfl,rfl,.aQ rfl (by simp)⟩
end Go.Proofs
namespace Go.Proofs
open Go Go.Id
theorem Vx (w:World){B n:Nat}{vs:Array Value}{e:TypeId}{fz:Nat × Nat}(hB:w.heap[B]?=some (.cells vs e fz)):∃fz',(w.freeze ⟨B,0,none⟩ n).heap[B]?=some (.cells vs e fz'):=by
 unfold World.freeze
 split
 ·exact⟨fz,hB⟩
 ·obtain⟨lo,hi⟩:=fz
  exact⟨_,by simp[amk,hB];rfl⟩
theorem DU (w:World){B k n:Nat}(h:k≠B):(w.freeze ⟨B,0,none⟩ n).heap[k]?=w.heap[k]?:=by
 unfold World.freeze
 split
 ·rfl
 ·simp[amk,Ne.symm h]
theorem Vy (w:World)(B n:Nat):(w.freeze ⟨B,0,none⟩ n).heap.size=w.heap.size:=by
 unfold World.freeze
 split <;> simp
theorem Yg (b t:Nat)(hbt:b≠t)(p:D)(l:List UInt8)(h0:l≠[]):
  aF Pr 98 [.ref b 0] [(b,.box 144 [p,.slice 1 false (fK l) (some t)]),(t,.aI 5 1 l.length)] (.str l) [(b,.box 144 [p,.slice 1 false (fK l) (some t)]),(t,.dead)]:=by
 refine⟨dH Tryz.func98 (by kernel_rfl) (by kernel_rfl),fun M γ w vs hst hl hr=>?_⟩
 match vs,hl with
 | [v],_=>
  have hlb:lk [(b,bf.box 144 [p,.slice 1 false (fK l) (some t)]),(t,bf.aI 5 1 l.length)] b=some (.box 144 [p,.slice 1 false (fK l) (some t)]):=by simp[lk]
  have hlt:lk [(b,bf.box 144 [p,.slice 1 false (fK l) (some t)]),(t,bf.aI 5 1 l.length)] t=some (.aI 5 1 l.length):=by simp[lk,Ne.symm hbt]
  obtain⟨gb,g1,g2⟩:=hst.hit hlb
  obtain⟨gt,g3,g4⟩:=hst.hit hlt
  cases g2 with
  | @box _ B us _ fz hB hlen h1 hrr=>
  cases g4 with
  | @aI _ _ _ tv xs ho=>
   obtain rfl:=pX (hr 0 _ _ rfl rfl) g1
   have hlt1:1<us.size:=by rw[hlen];simp
   have hu:us[1]?=some us[1]:=adr hlt1
   have hru:=hrr 1 _ _ rfl hu
   have hu0:(fK l).length=l.length:=by rw[fK,ac']
   rcases aZ hru with⟨_,hn,_⟩ | ⟨a,cap,cs,hua,_,hspot,hvs,hcap,hsz,hc,hcr,htip⟩
   ·exact absurd (by simpa [fK] using hn) h0
   ·obtain⟨_,_,v',n',q1,q2,q3⟩:=htip t rfl
    rw[g3] at q1
    simp only[abr,G.aI.injEq] at q1
    obtain⟨_,_,rfl,rfl⟩:=q1
    have hv:=q3 hu0
    have aqv:0<l.length:=akT.2 h0
    rcases ho.2 with⟨_,hz⟩ | ⟨g,cap',cur,htv,_,hg,hnc,hcm,hcs,htake⟩
    ·omega
    ·have hcell1:w.cell? ⟨B,1,none⟩=some (.slice (some ⟨g,0,none⟩) l.length cap'):=by
      rw[cell_of_row w B 1 us 144 fz hB,hu,hua,hv,htv]
     have ha:a=⟨g,0,none⟩:=by
      have e1:=hv.trans htv
      simpa using (Value.slice.inj e1).1
     subst ha
     have hcur:cur.toList.take l.length=Lib.byteCells l:=by
      apply List.ext_getElem?
      intro j
      rw[ag3]
      simp only[Lib.byteCells,adw]
      by_cases hj:j<l.length
      ·rw[if_pos hj,abt hj]
       have hjc:j<cs.length:=by rw[hvs,hu0];omega
       have h3:=hc j _ (abt hjc)
       have h4:=hcr j 0 [.int .u8 l[j].toNat] (.int .u8 l[j].toNat) cs[j] (by simp[fK,hj]) rfl (by simp[hjc])
       have h5:=SQ h4
       have h6:=h3.1
       simp only[ade] at h6
       rw[cell_of_row w g j cur 5 _ hg,h5] at h6
       rw[akA,h6];rfl
      ·rw[if_neg hj,al_ (by omega)];rfl
     refine (FN Tryz.lays169 Tryz.Builder_Extra_169 B g cap' l cur w hcell1 hg hnc hcm hcs hcur h0).mono ?_
     rintro e w' ⟨rfl,rfl⟩
     obtain⟨fz',hg'⟩:=Vx (n:=l.length) w.drew (B:=g) hg
     have hother:∀k,k≠g→(w.drew.freeze ⟨g,0,none⟩ l.length).heap[k]?=w.heap[k]?:=fun k hk=>DU w.drew hk
     have hsize:(w.drew.freeze ⟨g,0,none⟩ l.length).heap.size=w.heap.size:=Vy w.drew g l.length
     have hparts:(w.drew.freeze ⟨g,0,none⟩ l.length).os=w.os∧(w.drew.freeze ⟨g,0,none⟩ l.length).tape=w.tape∧(w.drew.freeze ⟨g,0,none⟩ l.length).output=w.output:=by
      unfold World.freeze
      split <;> exact⟨rfl,rfl,rfl⟩
     have hgb:(G.aI 1 5 tv l.length).block=some g:=by rw[htv];rfl
     have hev:aW (aA (Pr.base M) γ) γ w (aA (Pr.base M) γ) γ (w.drew.freeze ⟨g,0,none⟩ l.length):=by
      refine⟨hparts.1,hparts.2.1,hparts.2.2,by omega,fun B' o x hn hx=>?_,fun _ _ h _=>h,fun _ g h=>⟨g,h,G.le_refl g⟩,fun B' _ hn=>hother B' (fun e=>hn t _ g3 (by rw[e];exact hgb)),fun i gi _ h h' _=>⟨i,gi,h,h'⟩⟩
      by_cases hB':B'=g
      ·subst hB'
       rw[cell_of_row _ B' o cur 5 _ hg'] ;rw[cell_of_row w B' o cur 5 _ hg] at hx;exact hx
      ·rw[World.cell?_of_block (w:=w) (w':=w.drew.freeze ⟨g,0,none⟩ l.length) (by simpa using hother B' hB')];exact hx
     have nO:upd γ t (some (.aI 1 5 tv l.length))=γ:=by funext i;by_cases hi:i=t <;> simp[upd,hi,g3]
     have hst':=hst.change t .dead (.aI 1 5 tv l.length) (w.drew.freeze ⟨g,0,none⟩ l.length) (by rw[nO];exact hev) (fun i gi B2 hi hgi AA=>hother B2 (fun e=>hi (hst.dist i t gi _ B2 hgi g3 AA (by rw[e];exact hgb)))) (fun B' hB'=> .inr ⟨_,g3,hB'⟩) (.dead fun B' hB'=>by rw[hsize];exact (ho.lt B' hB').2)
     have hσ:upd (lk [(b,bf.box 144 [p,.slice 1 false (fK l) (some t)]),(t,bf.aI 5 1 l.length)]) t (some .dead)=lk [(b,bf.box 144 [p,.slice 1 false (fK l) (some t)]),(t,.dead)]:=by
      funext i
      by_cases hi:i=t
      ·subst hi;simp[upd,lk,Ne.symm hbt]
      ·simp[upd,lk,hi]
     rw[nO,hσ] at hst'
     exact⟨_,γ,rfl,hst',hev,jS l⟩
theorem JG (b:Nat)(p:D)(sz:Nat)(aI:Option Nat)(rest:List (Nat × bf)):
  aF Pr 98 [.ref b 0] ((b,.box 144 [p,.slice sz true [] aI])::rest) (.str []) ((b,.box 144 [p,.slice sz true [] aI])::rest):=
 aF.drew (dH Tryz.func98 (by kernel_rfl) (by kernel_rfl)) fun M γ w vs hst hl hr=>by
  match vs,hl with
  | [v],_=>
   have hlk:lk ((b,bf.box 144 [p,.slice sz true [] aI])::rest) b=some (.box 144 [p,.slice sz true [] aI]):=by simp[lk]
   obtain⟨g,h2,h3⟩:=hst.hit hlk
   cases h3 with
   | @box _ B us _ fz hB hlen h1 hrr=>
    obtain rfl:=pX (hr 0 _ _ rfl rfl) h2
    have hlt:1<us.size:=by rw[hlen];simp
    have hu:us[1]?=some us[1]:=adr hlt
    have hp:us[1]= .slice none 0 0:=by
     have:=hrr 1 _ _ rfl hu
     generalize us[1]=u0 at this
     cases this;rfl
    rw[hp] at hu
    have h0:w.cell? ⟨B,1,none⟩=some (.slice none 0 0):=by rw[cell_of_row w B 1 us 144 fz hB];exact hu
    refine (MG Tryz.lays169 Tryz.Builder_Extra_169 B w h0).mono ?_
    rintro e w' ⟨rfl,rfl⟩
    exact⟨_,rfl,rfl,jS []⟩
set_option maxRecDepth 10000
theorem ad_ (l:List UInt8)(c:UInt8):fK (l++[c])=fK l++[[.int .u8 c.toNat]]:=by simp[fK]
theorem ahF (l m:List UInt8):fK (l++m)=fK l++fK m:=by simp[fK]
theorem vw (l:List UInt8)(c:UInt8):fK l++[[.int .u8 c.toNat]]=fK (l++[c]):=(ad_ l c).symm
theorem aea (l m:List UInt8):fK l++fK m=fK (l++m):=(ahF l m).symm
theorem fG (l:List UInt8):(fK l).length=l.length:=by simp[fK]
theorem o_ (l:List UInt8):(fK l=[])=(l=[]):=by cases l <;> simp[fK]
theorem Td (f:Nat→Nat)(l:List UInt8):oz f (fK l)=fK l:=by
 rw[kN]
 simp[fK,bK]
def pY (a:Bool)(b:Nat):D:=if a then .aV else .ref b 0
@[simp] theorem aoG {S:Nat→Prop}(a:Bool)(b:Nat):bY S (pY a b)↔(a=true∨S b):=by cases a <;> simp[pY]
theorem Tf (f:Nat→Nat)(a:Bool)(b:Nat):bK f (pY a b)=pY a (f b):=by cases a <;> simp[pY,bK]
theorem qY (b:Nat):pY false b= .ref b 0:=rfl
theorem Vz (b:Nat):pY true b= .aV:=rfl
theorem MJ (b:Nat)(a:Bool)(x:D)(rest:List (Nat × bf)):aF Pr 151 [.ref b 0] ((b,.box 144 [pY a b,x])::rest) (.aQ []) ((b,.box 144 [.ref b 0,x])::rest):=by
 cases a
 ·exact OZ b x rest
 ·exact MH b x rest
@[simp] theorem fZ {S:Nat→Prop}(l:List UInt8):(∀e∈fK l,∀d∈e,bY S d)↔True:=by
 simp only[iff_true]
 intro e he d hd
 simp only[fK,List.mem_map] at he
 obtain⟨c,_,rfl⟩:=he
 simp at hd;subst hd;simp
def apt (l:List UInt8):bf:=if l=[] then .aI 5 1 0 else .dead
theorem Ti (b t:Nat)(h:b≠t)(p:D)(l:List UInt8):aF Pr 98 [.ref b 0] [(b,.box 144 [p,.slice 1 l.isEmpty (fK l) (some t)]),(t,.aI 5 1 l.length)] (.str l) [(b,.box 144 [p,.slice 1 l.isEmpty (fK l) (some t)]),(t,apt l)]:=by
 cases l with
 |nil=>exact JG b p 1 (some t) [(t,.aI 5 1 0)]
 |cons c l=>exact Yg b t h p (c::l) (by simp)
theorem am5 (a nl:Bool)(l:List UInt8)(c:UInt8)(hl:l.length<140737488355328):aF Pr 153 [.ref 0 0,.int .u8 c.toNat] [(0,.box 144 [pY a 0,.slice 1 nl (fK l) (some 1)]),(1,.aI 5 1 l.length)] (.aK) [(0,.box 144 [.ref 0 0,.slice 1 false (fK (l++[c])) (some 1)]),(1,.aI 5 1 (l.length+1))]:=by
 refine qX Tryz.func153 Tryz.ntmps153 ?_
 refine aJ 2 [0,1,4] (MJ 0 a (.slice 1 nl (fK l) (some 1)) [(1,.aI 5 1 l.length)]) ?_
 refine WP.S [0,1,4] fun _ z=>?_
 simp +decide only[TF,fG,o_,vw,↓reduceIte]
 refine⟨⟨by simp[fG];omega,by simp[fG];omega⟩,?_⟩
 apply z;clear z
 refine aG 1 [0,1,4] ?_
 apply WP.ret
 exact ZN
abbrev QD:List Nat:=[0,1,4,5]
theorem am6 (a nl:Bool)(l s:List UInt8)(hl:l.length+s.length≤140737488355328):aF Pr 93 [.ref 0 0,.str s] [(0,.box 144 [pY a 0,.slice 1 nl (fK l) (some 1)]),(1,.aI 5 1 l.length)] (.aQ [.int .i64 s.length,.aK]) [(0,.box 144 [.ref 0 0,.slice 1 (nl && s.isEmpty) (fK (l++s)) (some 1)]),(1,.aI 5 1 (l.length+s.length))]:=by
 refine qX Tryz.func93 Tryz.ntmps93 ?_
 rcases Classical.em (s=[]) with hz|hz
 ·subst hz
  refine aJ 2 QD (MJ 0 a (.slice 1 nl (fK l) (some 1)) [(1,.aI 5 1 l.length)]) ?_
  refine WP.S QD fun _ z=>?_
  simp +decide only[TF,o_,↓reduceIte]
  try refine⟨⟨by simp[fG];omega,by simp[fG];omega⟩,?_⟩
  apply z;clear z
  refine aG 1 QD ?_
  apply WP.ret
  exact zT0
 refine aJ 2 QD (MJ 0 a (.slice 1 nl (fK l) (some 1)) [(1,.aI 5 1 l.length)]) ?_
 refine WP.S QD fun _ z=>?_
 simp +decide only[TF,hz,fG,o_,aea,↓reduceIte]
 try refine⟨⟨by simp[fG];omega,by simp[fG];omega⟩,?_⟩
 apply z;clear z
 refine aG 1 QD ?_
 apply WP.ret
 exact zT1 hz
theorem FP (b t:Nat)(h:b≠t)(a nl:Bool)(l:List UInt8)(c:UInt8)(hl:l.length<140737488355328):aF Pr 153 [.ref b 0,.int .u8 c.toNat] [(b,.box 144 [pY a b,.slice 1 nl (fK l) (some t)]),(t,.aI 5 1 l.length)] .aK
 [(b,.box 144 [.ref b 0,.slice 1 false (fK (l++[c])) (some t)]),(t,.aI 5 1 (l.length+1))]:=by
 obtain⟨f,g,h1,h2⟩:=lg [b,t] (by simp[h])
 have:=aF.rename h1 (am5 a nl l c hl)
 have f0:f 0=b:=h2 0 b rfl
 have f1:f 1=t:=h2 1 t rfl
 simpa [kC,lU,bK,iG,Td,f0,f1,Tf] using this
theorem akX (b t:Nat)(h:b≠t)(a nl:Bool)(l s:List UInt8)(hl:l.length+s.length≤140737488355328):aF Pr 93 [.ref b 0,.str s] [(b,.box 144 [pY a b,.slice 1 nl (fK l) (some t)]),(t,.aI 5 1 l.length)] (.aQ [.int .i64 s.length,.aK])
 [(b,.box 144 [.ref b 0,.slice 1 (nl && s.isEmpty) (fK (l++s)) (some t)]),(t,.aI 5 1 (l.length+s.length))]:=by
 obtain⟨f,g,h1,h2⟩:=lg [b,t] (by simp[h])
 have:=aF.rename h1 (am6 a nl l s hl)
 have f0:f 0=b:=h2 0 b rfl
 have f1:f 1=t:=h2 1 t rfl
 simpa [kC,lU,bK,iG,Td,f0,f1,Tf] using this
theorem FQ {p:UInt8→Prop}(h:∀n,n<256→p (UInt8.ofNat n))(c:UInt8):p c:=by
 have:=h c.toNat c.toNat_lt
 rwa [UInt8.ofNat_toNat] at this
def hexL:List UInt8:=[48,49,50,51,52,53,54,55,56,57,65,66,67,68,69,70]
def hexD (n:Nat):UInt8:=hexL.getD n 0
theorem Yh (n:Nat)(h:n<16):([48,49,50,51,52,53,54,55,56,57,65,66,67,68,69,70]:List UInt8)[n]?=some (hexD n):=by
 revert n;decide +kernel
theorem ajF (c:UInt8):([48,49,50,51,52,53,54,55,56,57,65,66,67,68,69,70]:List UInt8)[c.toNat / 16]?=some (hexD (c.toNat / 16)):=Yh _ (by have:=c.toNat_lt;omega)
theorem ajG (c:UInt8):([48,49,50,51,52,53,54,55,56,57,65,66,67,68,69,70]:List UInt8)[c.toNat % 16]?=some (hexD (c.toNat % 16)):=Yh _ (by omega)
theorem apu (c:UInt8):(c.toNat:Int).fdiv (2 ^ (min 4 (IntKind.bits .u8)))=((c.toNat / 16:Nat):Int):=by
 show (c.toNat:Int).fdiv 16=_
 rw[Int.fdiv_eq_ediv_of_nonneg _ (by omega)];omega
theorem ahG (n:Nat)(h:n<256):IntKind.wrap .u8 ((BitVec.ofInt (IntKind.bits .u8) (n:Int) &&& BitVec.ofInt (IntKind.bits .u8) 15).toNat:Int)=((n % 16:Nat):Int):=by
 revert n;decide +kernel
theorem am7 (c:UInt8):IntKind.wrap .u8 ((BitVec.ofInt (IntKind.bits .u8) (c.toNat:Int) &&& BitVec.ofInt (IntKind.bits .u8) 15).toNat:Int)=((c.toNat % 16:Nat):Int):=ahG _ c.toNat_lt
theorem am8 (c:UInt8):IntKind.wrap .u8 ((c.toNat:Int).tdiv 16)=((c.toNat / 16:Nat):Int):=by
 have:=c.toNat_lt
 have e:(c.toNat:Int).tdiv 16=((c.toNat / 16:Nat):Int):=by rw[Int.tdiv_eq_ediv_of_nonneg (by omega)];omega
 rw[e,wrap_u8 (by omega) (by omega)]
theorem am9 (c:UInt8):(c.toNat:Int).tmod 16=((c.toNat % 16:Nat):Int):=by
 rw[amg (by omega)];omega
def xE (c:UInt8):List UInt8:=if fJ c.toNat then [c] else [37,hexD (c.toNat / 16),hexD (c.toNat % 16)]
def aC (s:List UInt8):List UInt8:=s.flatMap xE
theorem aeb (c:UInt8):(xE c).length≤3:=by unfold xE;split <;> simp
theorem qc:∀s:List UInt8,(aC s).length≤3 * s.length
 | []=>by simp[aC]
 |c::s=>by
  have h1:=aeb c
  have h2:=qc s
  simp only[aC,anw,abf,abN] at h2 ⊢
  omega
theorem Bz (s:List UInt8)(k:Nat)(h:k≤s.length):(aC (s.take k)).length≤3 * k:=by
 have:=qc (s.take k)
 rw[adg] at this
 omega
theorem QE (s:List UInt8)(k:Nat)(h:k<s.length):aC (s.take (k+1))=aC (s.take k)++xE s[k]:=by
 rw[G8 h];simp only[aC,List.flatMap_append,anw,List.flatMap_nil,akz]
theorem MN (s:List UInt8)(k:Nat)(h:k<s.length)(hp:fJ s[k].toNat=true):aC (s.take (k+1))=aC (s.take k)++[s[k]]:=by
 rw[QE s k h,xE,if_pos hp]
theorem VA (s:List UInt8)(k:Nat)(h:k<s.length)(hp:fJ s[k].toNat=false):aC (s.take (k+1))=aC (s.take k)++[37,hexD (s[k].toNat / 16),hexD (s[k].toNat % 16)]:=by
 rw[QE s k h,xE,hp];rfl
def gW (c:UInt8):Int:=Lib.indexByte hexL c
theorem tZ (c:UInt8):-1≤gW c∧gW c<16:=by
 revert c;exact FQ (by decide +kernel)
def DV (c:UInt8):List UInt8→Int→Int
 | [],_=>-1
 |x::l,i=>if ((x.toNat:Int) == (c.toNat:Int))=true then i else DV c l (i+1)
theorem Yi (c:UInt8):DV c hexL 0=gW c:=by
 revert c;exact FQ (by decide +kernel)
theorem am_ (a b:Nat)(ha:a<16)(hb:b<16):IntKind.wrap .u8 (IntKind.wrap .i64 ((BitVec.ofInt (IntKind.bits .i64) (IntKind.wrap .i64 (((a:Nat):Int) * 2 ^ (min 4 (IntKind.bits .i64)))) ||| BitVec.ofInt (IntKind.bits .i64) (b:Int)).toNat:Int))=((a * 16+b:Nat):Int):=by
 have:∀a:Nat,a<16→∀b:Nat,b<16→IntKind.wrap .u8 (IntKind.wrap .i64 ((BitVec.ofInt (IntKind.bits .i64) (IntKind.wrap .i64 (((a:Nat):Int) * 2 ^ (min 4 (IntKind.bits .i64)))) ||| BitVec.ofInt (IntKind.bits .i64) (b:Int)).toNat:Int))=((a * 16+b:Nat):Int):=by decide +kernel
 exact this a ha b hb
def qM (h l:UInt8):UInt8:=UInt8.ofNat ((gW h).toNat * 16+(gW l).toNat)
theorem MO (h l:UInt8)(h1:0≤gW h)(h2:0≤gW l):((qM h l).toNat:Int)=gW h * 16+gW l:=by
 have:=tZ h;have:=tZ l
 unfold qM
 rw[UInt8.toNat_ofNat_of_lt' (by show _<256;omega)]
 omega
theorem ahH (h l:UInt8)(h1:0≤gW h)(h2:0≤gW l):IntKind.wrap .u8 (IntKind.wrap .i64 ((BitVec.ofInt (IntKind.bits .i64) (IntKind.wrap .i64 (gW h * 2 ^ (min 4 (IntKind.bits .i64)))) ||| BitVec.ofInt (IntKind.bits .i64) (gW l)).toNat:Int))=((qM h l).toNat:Int):=by
 have a1:=tZ h;have a2:=tZ l
 rw[MO h l h1 h2]
 have:=am_ (gW h).toNat (gW l).toNat (by omega) (by omega)
 rw[Int.toNat_of_nonneg h1,Int.toNat_of_nonneg h2] at this
 rw[this];omega
theorem aec (h l:UInt8)(h1:0≤gW h)(h2:0≤gW l):IntKind.wrap .u8 (IntKind.wrap .i64 (IntKind.wrap .i64 (16 * gW h)+gW l))=((qM h l).toNat:Int):=by
 have a1:=tZ h;have a2:=tZ l
 rw[MO h l h1 h2,wrap_i64 (n:=16 * gW h) (by omega) (by omega),wrap_i64 (by omega) (by omega),wrap_u8 (by omega) (by omega)]
 omega
def sO:List UInt8→Option (List UInt8)
 | []=>some []
 |c::t=>
  if fJ c.toNat then (sO t).map (c::·)
  else if c=37 then
   match t with
   |h::l::r=>if gW h<0∨gW l<0∨fJ (qM h l).toNat=true then none else (sO r).map (qM h l::·)
   | _=>none
  else none
def Yj:List UInt8→Option (List UInt8)
 | []=>some []
 |c::t=>
  if c=37 then
   match t with
   |h::l::r=>if gW h<0∨gW l<0 then none else (Yj r).map (qM h l::·)
   | _=>none
  else (Yj t).map (c::·)
def DW (t:List UInt8):Option (List UInt8):=
 match t with
 |h::l::r=>if gW h<0∨gW l<0∨fJ (qM h l).toNat=true then none else (sO r).map (qM h l::·)
 | _=>none
def yK (t:List UInt8):Option (List UInt8):=
 match t with
 |h::l::r=>if gW h<0∨gW l<0 then none else (Yj r).map (qM h l::·)
 | _=>none
theorem vC (c:UInt8)(t:List UInt8):sO (c::t)=if fJ c.toNat then (sO t).map (c::·) else if c=37 then DW t else none:=by
 match t with
 | []=>rw[sO];rfl
 | [h]=>rw[sO];rfl;simp
 |h::l::r=>rw[sO];rfl
theorem DX (c:UInt8)(t:List UInt8):Yj (c::t)=if c=37 then yK t else (Yj t).map (c::·):=by
 match t with
 | []=>rw[Yj];rfl
 | [h]=>rw[Yj];rfl;simp
 |h::l::r=>rw[Yj];rfl
def GU (o:Option (List UInt8)):D:=
 match o with
 |some l=> .aQ [.str l,.int .i64 0]
 |none=> .aQ [.str [],.int .i64 4]
def O1 (s:List UInt8):D:=
 match Yj s with
 |some l=>if aC l == s then .aQ [.str l,.int .i64 0] else .aQ [.str [],.int .i64 4]
 |none=> .aQ [.str [],.int .i64 4]
@[simp] theorem aoH {S:Nat→Prop}(o:Option (List UInt8)):bY S (GU o):=by cases o <;> simp[GU]
@[simp] theorem am' {S:Nat→Prop}(s:List UInt8):bY S (O1 s):=by unfold O1;split <;> (try split) <;> simp
theorem ZT:fJ ((37:UInt8).toNat:Int)=false:=by decide
theorem zX:∀n,n<16→gW (hexD n)=n:=by decide +kernel
theorem QF (c:UInt8):0≤gW c→hexD (gW c).toNat=c:=by
 revert c;exact FQ (by decide +kernel)
theorem abw (h l:UInt8)(h1:0≤gW h)(h2:0≤gW l)(hp:fJ (qM h l).toNat=false):xE (qM h l)=[37,h,l]:=by
 have a1:=tZ h;have a2:=tZ l
 have e:=MO h l h1 h2
 unfold xE
 rw[hp]
 have e1:(qM h l).toNat / 16=(gW h).toNat:=by omega
 have e2:(qM h l).toNat % 16=(gW l).toNat:=by omega
 rw[e1,e2,QF h h1,QF l h2];rfl
theorem t_:∀(n:Nat) (s:List UInt8),s.length≤n→∀l,sO s=some l↔(Yj s=some l∧aC l=s)
 |n,[],_,l=>by
  simp only[sO,Yj,abr]
  constructor
  ·rintro rfl;exact⟨rfl,rfl⟩
  ·exact fun h=>h.1
 | 0,c::t,h,l=>by simp at h
 |n+1,c::t,hn,l=>by
  simp only[abN] at hn
  by_cases hp:fJ c.toNat=true
  ·have hc:¬c=37:=fun e=>by subst e;rw[ZT] at hp;cases hp
   simp only[vC,DX,hp,if_true,hc,if_false,abR]
   constructor
   ·rintro ⟨m,hm,rfl⟩
    obtain⟨h1,h2⟩:=(t_ n t (by omega) m).1 hm
    exact⟨⟨m,h1,rfl⟩,by simp only[aC,anw,xE,hp,if_true] at h2 ⊢;rw[h2];rfl⟩
   ·rintro ⟨⟨m,hm,rfl⟩,he⟩
    refine⟨m,(t_ n t (by omega) m).2 ⟨hm,?_⟩,rfl⟩
    simp only[aC,anw,xE,hp,if_true,aoj,apm,true_and] at he
    exact he
  ·simp only[apK] at hp
   by_cases hc:c=37
   ·subst hc
    simp only[vC,DX,ZT,ag8,if_false,if_true]
    match t,hn with
    | [],_=>simp[DW,yK]
    | [h],_=>simp[DW,yK]
    |h::k::r,hn=>
     simp only[abN] at hn
     by_cases hh:gW h<0∨gW k<0
     ·have:gW h<0∨gW k<0∨fJ (qM h k).toNat=true:=hh.elim .inl (fun x=> .inr (.inl x))
      simp[DW,yK,hh,this]
     ·have h1:0≤gW h:=by omega
      have h2:0≤gW k:=by omega
      by_cases hb:fJ (qM h k).toNat=true
      ·have:gW h<0∨gW k<0∨fJ (qM h k).toNat=true:= .inr (.inr hb)
       simp only[DW,yK,this,if_true,hh,if_false,abR,reduceCtorEq,false_iff]
       rintro ⟨⟨m,hm,rfl⟩,he⟩
       simp only[aC,anw,xE,hb,if_true,aoj,apm] at he
       rw[he.1,ZT] at hb;cases hb
      ·have hn2:¬(gW h<0∨gW k<0∨fJ (qM h k).toNat=true):=by
        rintro (q|q|q)
        ·omega
        ·omega
        ·exact hb q
       simp only[apK] at hb
       simp only[DW,yK,hn2,if_false,hh,abR]
       have hx:=abw h k h1 h2 hb
       constructor
       ·rintro ⟨m,hm,rfl⟩
        obtain⟨q1,q2⟩:=(t_ n r (by omega) m).1 hm
        exact⟨⟨m,q1,rfl⟩,by simp only[aC,anw,hx] at q2 ⊢;rw[q2];rfl⟩
       ·rintro ⟨⟨m,hm,rfl⟩,he⟩
        refine⟨m,(t_ n r (by omega) m).2 ⟨hm,?_⟩,rfl⟩
        simp only[aC,anw,hx,abS,abT,apm,true_and] at he
        exact he
   ·simp only[vC,DX,hp,ag8,if_false,hc,abR,reduceCtorEq,false_iff]
    rintro ⟨⟨m,hm,rfl⟩,he⟩
    simp only[aC,anw,xE,hp,ag8,if_false,abS,apm] at he
    exact hc he.1.symm
theorem ahI (s:List UInt8):O1 s=GU (sO s):=by
 unfold O1 GU
 cases hr:Yj s with
 |none=>
  cases hb:sO s with
  |none=>rfl
  |some l=>rw[((t_ _ s (ag4 _) l).1 hb).1] at hr;cases hr
 |some m=>
  simp only
  by_cases he:aC m=s
  ·rw[(t_ _ s (ag4 _) m).2 ⟨hr,he⟩,he];simp
  ·cases hb:sO s with
   |none=>simp[he]
   |some l=>
    obtain⟨q1,q2⟩:=(t_ _ s (ag4 _) l).1 hb
    rw[hr] at q1;cases q1;exact absurd q2 he
end Go.Proofs
