import Derived.Test.YtekopfoidhhedaaGreatDoorG04
import Derived.Test.YtekopfoidhhedaaGreatDoorG05
import Derived.Test.YtekopfoidhhedaaGreatDoorG06
import Derived.Test.YtekopfoidhhedaaGreatDoorG02
import Derived.Shelf.Strings.BuilderK
import Derived.Lib.AtoiAll
import Derived.Lib.ItoaNum
import Derived.Lib.Strings
set_option linter.unusedVariables false
set_option linter.unusedSimpArgs false
set_option linter.unnecessarySimpa false
namespace Go.Proofs
open Go Go.Id
theorem Va (w:World):RowKit.Below w.heap.size w w.drew:=⟨rfl,rfl,rfl,Nat.le_refl _,fun _ _=>rfl⟩
theorem Jz (s t:List UInt8):ak Pr 166 [.str s,.str t] (.str (Lib.trimPrefix s t)):=
 .str2 (dF Tryz.func166 (by kernel_rfl) (by kernel_rfl)) fun M w b c hb hc hI hn hM=>by
  refine (Tryz.strings_TrimPrefix b c w).mono ?_
  rintro e w' ⟨rfl,rfl⟩
  exact⟨_,rfl,.refl _ _,by rw[hb,hc];exact ji _⟩
theorem nH (s:List UInt8)(n:Int):ak Pr 165 [.str s,.int .u8 n] (.int .i64 (Lib.indexByte s n.toNat.toUInt8)):=
 .U3 (dF Tryz.func165 (by kernel_rfl) (by kernel_rfl)) fun M w b hb hI hn hM=>by
  refine (Tryz.strings_IndexByte b n w).mono ?_
  rintro e w' ⟨rfl,rfl⟩
  exact⟨_,rfl,.refl _ _,by rw[hb];exact .int _ _⟩
theorem aaB (s:List UInt8)(c:UInt8)(hc:c.toNat<128)(hs:s.length≤9223372036854775807):ak Pr 256 [.str s,.str [c]] (.str (Lib.trimB s c)):=
 .str2 (dF Tryz.func256 (by kernel_rfl) (by kernel_rfl)) fun M w b d hb hd hI hn hM=>by
  obtain⟨⟨l⟩⟩:=d
  simp only at hd
  subst hd
  refine (Tryz.strings_Trim_one b c hc w (by rw[Yl,hb];exact hs)).mono ?_
  rintro e w' ⟨rfl,rfl|rfl⟩
  ·exact⟨_,rfl,.refl _ _,by rw[hb];exact ji _⟩
  ·exact⟨_,rfl,Va _,by rw[hb];exact ji _⟩
def mX (s t:List UInt8):List (List UInt8):=(Lib.splitB ⟨t.toArray⟩ 0 (Lib.countB ⟨s.toArray⟩ ⟨t.toArray⟩) ⟨s.toArray⟩).map (·.data.toList)
def Gp (s:List UInt8):D:=
 match Lib.atoiAll s with
 | .ok v=> .aJ [.int .i64 v,.aI]
 | .range=> .aJ [.int .i64 (Lib.atoiSat s),.iface 256 .junk]
 | _=> .aJ [.int .i64 0,.iface 256 .junk]
theorem Hy {M:Nat→Nat→Prop}{γ:Nat→Option G}{w:World}{a b:D}{x y:Value}(h1:Rep M γ w a x)(h2:Rep M γ w b y):Rep M γ w (.aJ [a,b]) (.tuple #[x,y]):=
 .aJ rfl fun i d v q1 q2=>by
  match i with
  | 0=>simp at q1 q2;subst q1;subst q2;exact h1
  | 1=>simp at q1 q2;subst q1;subst q2;exact h2
  |i+2=>simp at q1
theorem sK (s:List UInt8)(hs:s.length≤281474976710656):ak Pr 167 [.str s] (Gp s):=
 .str1 (dF Tryz.func167 (by kernel_rfl) (by kernel_rfl)) fun M w b hb hI hn hM=>by
  obtain⟨_,_,⟨t1,p1,h1⟩,⟨t2,p2,h2⟩,_⟩:=hI
  subst hb
  have hs':b.size≤281474976710656:=hs
  unfold Gp
  cases h:Lib.atoiAll b.data.toList with
  |ok v=>
   refine (Tryz.strconv_Atoi_ok b (by omega) v h w).mono ?_
   rintro e w' ⟨rfl,rfl | ⟨t,rfl⟩⟩
   ·exact⟨_,rfl,.refl _ _,Hy (.int _ _) .aI⟩
   ·exact⟨_,rfl,Lib.bytesWorld_below _ _ _,Hy (.int _ _) .aI⟩
  |range=>
   refine (Tryz.strconv_Atoi_range b hs' h _ w h2 (.inr ⟨_,_,rfl⟩)).mono ?_
   rintro e w' ⟨N,rfl,_,_,hbl⟩
   exact⟨_,rfl,hbl,Hy (.int _ _) (.iface (.junk _))⟩
  | _=>
   refine (Any.strconv_Atoi_syntax Tryz.laysC172 b hs' h _ w h1 (.inr ⟨_,_,rfl⟩)).mono ?_
   rintro e w' ⟨N,rfl,_,_,hbl⟩
   exact⟨_,rfl,hbl,Hy (.int _ _) (.iface (.junk _))⟩
theorem below_grow (w:World)(k:Nat)(os:Array Obj):RowKit.Below w.heap.size w (Sort.grow (w.drewN k) os):=
 ⟨rfl,rfl,rfl,by simp only[Sort.grow,Array.size_append];exact Nat.le_add_right _ _,fun k hk=>by simp only[Sort.grow];exact Array.getElem?_append_left hk⟩
theorem RX (n:Int)(h0:-9223372036854775808≤n)(h1:n≤9223372036854775807):ak Pr 80 [.int .i64 n] (.str (Lib.itoa n)):=
 .aiA (dF Tryz.func80 (by kernel_rfl) (by kernel_rfl)) fun M w hI hn hM=>by
  refine (Tryz.strconv_Itoa n h0 h1 w hI.2.1).mono ?_
  rintro e w' ⟨rfl,k,os,rfl⟩
  exact⟨_,rfl,below_grow w k os,ji _⟩
theorem RY (ls:List (List UInt8))(nil:Bool)(t:List UInt8)(hn:ls.length≤140737488355328)(hl:(Lib.join ls t).length≤140737488355328):ak Pr 161 [.slice 1 nil (ls.map fun s=>[.str s]) none,.str t] (.str (Lib.join ls t)):=by
 refine .quiet (dF Tryz.func161 (by kernel_rfl) (by kernel_rfl)) fun M w vs hI hnn hlen hM hr=>?_
 match vs,hlen with
 | [v,v'],_=>
  obtain⟨c,rfl,rfl⟩:=qP (hr 1 _ _ rfl rfl)
  have h0:=hr 0 _ _ rfl rfl
  rcases aW h0 with⟨rfl,hnil,_⟩ | ⟨a,cap,us,rfl,_,hspot,hvs,hcap,hsz,hc,hrr,_⟩
  ·have:ls=[]:=by simpa using hnil
   subst this
   refine (Tryz.strings_Join_none none 0 c w).mono ?_
   rintro e w' ⟨rfl,rfl⟩
   exact⟨_,rfl,.refl _ _,ji []⟩
  ·by_cases hls:ls=[]
   ·subst hls
    refine (Tryz.strings_Join_none (some a) cap c w).mono ?_
    rintro e w' ⟨rfl,rfl⟩
    exact⟨_,rfl,.refl _ _,ji []⟩
   obtain⟨bk,o,sp⟩:=a
   have hspot:=hspot (by simpa using hls)
   simp only at hspot
   subst hspot
   simp only[List.length_map,Nat.mul_one] at hvs hcap
   have hget:∀(j:Nat) s,ls[j]?=some s→us[j]?=some (.string ⟨s.toArray⟩):=by
    intro j s hs
    have hlt:j<us.length:=by rw[hvs];exact (List.getElem?_eq_some_iff.1 hs).1
    have h3:=hrr j 0 [.str s] (.str s) us[j] (by simp[hs]) rfl (by simp[hlt])
    obtain⟨b,hb,hb2⟩:=qP h3
    rw[List.getElem?_eq_getElem hlt,hb,← hb2]
   ·have hmm:(ls.map fun s=>(⟨s.toArray⟩:ByteArray)).map (·.data.toList)=ls:=by rw[List.map_map];exact List.map_id ls
    have hcells:∀(j:Nat) x,(ls.map fun s=>(⟨s.toArray⟩:ByteArray))[j]?=some x→w.cell? ⟨bk,o+j,none⟩=some (.string x):=by
     intro j x hx
     rw[List.getElem?_map,Option.map_eq_some_iff] at hx
     obtain⟨s,hs,rfl⟩:=hx
     exact (hc j _ (hget j s hs)).1
    have hbk:bk<w.heap.size:=by
     obtain⟨s,hs⟩:∃s,ls[0]?=some s:=⟨_,List.getElem?_eq_getElem (List.length_pos_iff.2 hls)⟩
     exact cell_lt (hc 0 _ (hget 0 s hs)).1
    have:=Tryz.strings_Join bk o cap (ls.map fun s=>(⟨s.toArray⟩:ByteArray)) c w hcells hbk (by simpa using hn) (by simpa using hcap) (by rw[hmm];exact hl)
    rw[hmm] at this
    simp only[List.length_map] at this ⊢
    refine this.mono ?_
    rintro e w' ⟨rfl,hbl⟩
    exact⟨_,rfl,hbl,ji _⟩
set_option maxRecDepth 10000
def ixL (s:List UInt8):List (List UInt8)→Int→Int
 | [],_=>-1
 |x::l,i=>if s == x then i else ixL s l (i+1)
theorem WV (s:List UInt8):∀(l:List (List UInt8)) (i:Int),0≤i→decide (ixL s l i≥0)=l.contains s
 | [],i,_=>by simp[ixL]
 |x::l,i,hi=>by
  have ih:=WV s l (i+1) (by omega)
  simp only[ixL,List.contains_cons]
  by_cases h:x=s
  ·subst h;simp;omega
  ·
   have h':(s == x)=false:=by simpa using fun e=>h e.symm
   simp only[h',Bool.false_eq_true,if_false,Bool.false_or]
   exact ih
theorem aaC (s:List UInt8)(l:List (List UInt8)):decide (0≤ixL s l 0)=l.contains s:=WV s l 0 (Int.le_refl 0)
theorem any_eq (s:List UInt8):∀l:List (List UInt8),l.any (fun x=>x == s)=l.contains s
 | []=>rfl
 |x::l=>by
  simp only[List.any_cons,List.contains_cons,any_eq s l]
  by_cases h:x=s
  ·subst h;simp
  ·
   have h1:(x == s)=false:=by simpa using h
   have h2:(s == x)=false:=by simpa using fun e=>h e.symm
   rw[h1,h2]
def aZ (n:Int):Int:=if n<0 then 0 else if 1099511627776<n then 1099511627776 else n
theorem Vb (n:Int):0≤aZ n:=by unfold aZ;split <;> (try split) <;> omega
theorem Vd (n:Int):aZ n≤1099511627776:=by unfold aZ;split <;> (try split) <;> omega
theorem adR (n:Int):aZ (aZ n)=aZ n:=by
 have:=Vb n;have:=Vd n
 unfold aZ at *;repeat' split <;> (try omega)
theorem agS (s:List UInt8)(hs:s.length≤140737488355328):ak Pr 225 [.str s] (.str (Lib.trimB s 32)):=by
 refine ak.W Tryz.func225 Tryz.ntmps225 ?_
 simp only[ay]
 refine WP.S [0,2] fun _ z=>?_;simp +decide only[TF,↓reduceIte];apply z;clear z
 refine WP.S [0,2] fun _ z=>?_
 simp +decide only[TF,↓reduceIte]
 refine aj.P (aaB _ 32 (by decide) (by omega)) rfl rfl ?_
 simp +decide only[TF,↓reduceIte]
 apply z;clear z
 apply WP.ret
 exact Ends.P rfl (Le.of_eq (by simp +decide only[St.get,W,↓reduceIte]))
abbrev qY:List Nat:=[0,2,4,6,7,8,15]
theorem Py (s:List UInt8)(hs:s.length≤140737488355328):ak Pr 178 [.str s] (.bool (bK s)):=by
 refine ak.W Tryz.func178 Tryz.ntmps178 ?_
 simp only[ay]
 iterate 2 first|(refine WP.S qY fun _ z=>?_;simp +decide only[TF,↓reduceIte];apply z;clear z)|apply WP.seq
 refine WP.S [0,6] fun _ z=>?_;simp +decide only[TF,↓reduceIte];apply z;clear z
 apply WP.block
 refine WP.lp [0,6] (X:={k:Nat // k≤s.length∧bK s=((s.drop k).all (fun c=>nX c.toNat) && !(s == []) && decide ((s.length:Int)≤256) && endsB s)}) (fun x=>match x with| ⟨(k),_⟩=>[]) (fun x=>match x with| ⟨(k),_⟩=>[(0,.iter s k)]) (fun x=>match x with| ⟨(k),_⟩=>s.length - k) (by simp +decide only[W,↓reduceIte];rfl) ?_ ⟨(0),⟨Nat.zero_le _,by simp[bK]⟩⟩ ?_
 rotate_left
 ·exact Weak.frame (by simp[St.get,lk,W,Le.refl])
 rintro ⟨k,hk,hI⟩
 dsimp only
 simp only[List.nil_append]
 rcases Yu s k hk with hge | ⟨hlt,hb,hd⟩ | ⟨hlt,hd1,hd2,hd⟩
 ·have hnl:¬k<s.length:=by omega
  rw[eP hge] at hI
  simp only[List.all_nil,Bool.true_and] at hI
  iterate 4 first|(refine WP.S qY fun _ z=>?_;simp +decide only[TF,hnl,↓reduceIte];apply z;clear z)|(apply WP.exit;show WP ..)|refine WP.cF ?_|apply WP.seq
  refine WP.S qY fun _ z=>?_
  refine ah.take 3 fun J hJ=>?_
  simp +decide only[TF,↓reduceIte]
  refine hJ _ _ ?_;clear hJ J
  refine ah.part 18 rfl (fun q1=>?_) (fun q1=>?_)
  ·refine ah.take 5 fun J hJ=>?_
   simp +decide only[TF,q1,↓reduceIte]
   refine hJ _ _ ?_;clear hJ J
   refine ah.part 23 rfl (fun q2=>?_) (fun q2=>?_)
   ·have hne:s≠[]:=by intro e;subst e;simp_all
    have ht:=U_ s hne
    simp +decide only[TF,q2,↓reduceIte]
    refine aj.P (agS _ (by assumption)) rfl rfl ?_
    simp +decide only[TF,ht,↓reduceIte]
    apply z;clear z
    apply WP.ret
    exact Ends.P rfl (Le.of_eq (by simp_all[St.get,W,bK,nX]))
   simp +decide only[TF,q2,↓reduceIte]
   apply z;clear z
   apply WP.ret
   exact Ends.P rfl (Le.of_eq (by simp +decide only[St.get,W,bK,nX,q1,q2,↓reduceIte]))
  simp +decide only[TF,q1,↓reduceIte]
  apply z;clear z
  apply WP.ret
  exact Ends.P rfl (Le.of_eq (by simp +decide only[St.get,W,bK,nX,q1,↓reduceIte]))
 ·rw[hd] at hI
  have hb1:decide ((((iy s k).1:Nat):Int)<32)=false:=by simp;omega
  have hb2:decide ((((iy s k).1:Nat):Int)>126)=true:=by simp;omega
  iterate 9 first|(refine WP.S qY fun _ z=>?_;simp +decide only[TF,hlt,hb1,hb2,↓reduceIte];apply z;clear z)|(apply WP.skip;show WP ..)|refine WP.cT ?_|apply WP.block|apply WP.seq
  apply WP.ret
  exact Ends.P rfl (Le.of_eq (by simp_all[St.get,W,bK,nX]))
 rw[hd] at hI
 iterate 6 first|(refine WP.S qY fun _ z=>?_;simp +decide only[TF,hlt,hd1,hd2,↓reduceIte];apply z;clear z)|(apply WP.skip;show WP ..)|refine WP.cT ?_|apply WP.block|apply WP.seq
 refine WP.S qY fun _ z=>?_
 refine ah.take 3 fun J hJ=>?_
 simp +decide only[TF,↓reduceIte]
 refine hJ _ _ ?_;clear hJ J
 refine ah.part 12 rfl (fun q3=>?_) (fun q3=>?_)
 ·simp +decide only[TF,q3,↓reduceIte]
  apply z;clear z
  iterate 2 first|(refine WP.S qY fun _ z=>?_;simp +decide only[TF,↓reduceIte];apply z;clear z)|refine WP.cT ?_
  apply WP.ret
  exact Ends.P rfl (Le.of_eq (by first|(simp +decide only[St.get,W,bK,nX,↓reduceIte];done)|(simp[St.get,W,bK,nX];done)|(simp_all[St.get,W,bK,nX];done)|(simp_all[St.get,W,bK,nX];intros;first|omega|(rw[Bool.eq_iff_iff];simp;try omega);done)))
 simp +decide only[TF,q3,↓reduceIte]
 apply z;clear z
 refine WP.cond rfl (fun q4=>?_) (fun q4=>?_)
 ·refine WP.S qY fun _ z=>?_;simp +decide only[TF,q4,↓reduceIte];apply z;clear z
  apply WP.ret
  exact Ends.P rfl (Le.of_eq (by first|(simp +decide only[St.get,W,bK,nX,↓reduceIte];done)|(simp[St.get,W,bK,nX];done)|(simp_all[St.get,W,bK,nX];done)|(simp_all[St.get,W,bK,nX];intros;first|omega|(rw[Bool.eq_iff_iff];simp;try omega);done)))
 apply WP.skip
 show ∃y,_∧Weak _ _ _
 refine⟨⟨k+1,?_⟩,?_,?_⟩
 ·exact⟨by omega,by simp_all[nX]⟩
 ·dsimp only;omega
 exact Weak.store (by simp[St.get,lk,W,Le.refl]) (by simp[lk]) (by simp[lk]) (by simp[aA]) (by simp)
abbrev ku:List Nat:=[0,2,3,24,28]
theorem DF (s:List UInt8)(hs:s.length≤140737488355328):ak Pr 60 [.str s] (.bool (bK s)):=by
 refine ak.W Tryz.func60 Tryz.ntmps60 ?_
 simp only[ay]
 iterate 2 first|(refine WP.S ku fun _ z=>?_;simp +decide only[TF,↓reduceIte];apply z;clear z)|apply WP.seq
 refine WP.S ku fun _ z=>?_
 refine ah.take 4 fun J hJ=>?_
 simp +decide only[TF,↓reduceIte]
 refine hJ _ _ ?_;clear hJ J
 refine ah.part 7 rfl (fun q1=>?_) (fun q1=>?_)
 ·have hz:s=[]:=by cases s with|nil=>rfl|cons=>(simp at q1;try omega)
  simp +decide only[TF,q1,↓reduceIte]
  apply z;clear z
  iterate 2 first|(refine WP.S ku fun _ z=>?_;simp +decide only[TF,↓reduceIte];apply z;clear z)|refine WP.cT ?_
  apply WP.ret
  exact Ends.P rfl (Le.of_eq (by simp_all[St.get,W,bK,endsB,nX]))
 have hne:0<s.length:=by have:=of_decide_eq_false q1;omega
 have h0:=j_ hne
 have h0c:=yc hne
 have hnn:(s == [])=false:=by cases s <;> simp at hne ⊢
 refine ah.take 5 fun J hJ=>?_
 simp +decide only[TF,q1,↓reduceIte]
 refine hJ _ _ ?_;clear hJ J
 refine ah.part 12 rfl (fun q2=>?_) (fun q2=>?_)
 ·simp +decide only[TF,q2,↓reduceIte]
  apply z;clear z
  iterate 2 first|(refine WP.S ku fun _ z=>?_;simp +decide only[TF,↓reduceIte];apply z;clear z)|refine WP.cT ?_
  apply WP.ret
  exact Ends.P rfl (Le.of_eq (by first|(simp +decide only[St.get,W,bK,endsB,nX,h0c,↓reduceIte];done)|(simp[St.get,W,bK,endsB,nX,h0c];done)|(simp_all[St.get,W,LN,bK,endsB,nX];done)|(simp_all[St.get,W,LN,bK,endsB,nX];intros;first|omega|(rw[Bool.eq_iff_iff];simp;try omega);done)))
 refine ah.take 5 fun J hJ=>?_
 simp +decide only[TF,h0,q2,↓reduceIte]
 refine hJ _ _ ?_;clear hJ J
 refine ah.part 17 rfl (fun q3=>?_) (fun q3=>?_)
 ·simp +decide only[TF,q3,↓reduceIte]
  apply z;clear z
  iterate 2 first|(refine WP.S ku fun _ z=>?_;simp +decide only[TF,↓reduceIte];apply z;clear z)|refine WP.cT ?_
  apply WP.ret
  exact Ends.P rfl (Le.of_eq (by simp +decide only[St.get,W,bK,endsB,nX,h0c,q3,↓reduceIte]))
 have hw:=aax hne hs
 have hl:=j_ (show s.length - 1<s.length by omega)
 have hlc:=yc (show s.length - 1<s.length by omega)
 simp +decide only[TF,q3,hw,hl,↓reduceIte]
 apply z;clear z
 refine WP.cond rfl (fun q4=>?_) (fun q4=>?_)
 ·refine WP.S ku fun _ z=>?_;simp +decide only[TF,q4,↓reduceIte];apply z;clear z
  apply WP.ret
  exact Ends.P rfl (Le.of_eq (by simp +decide only[St.get,W,bK,endsB,nX,h0c,q3,hlc,q4,↓reduceIte]))
 iterate 2 first|(apply WP.skip;show WP ..)|apply WP.seq
 refine WP.S [0,3] fun _ z=>?_;simp +decide only[TF,q4,↓reduceIte];apply z;clear z
 apply WP.block
 refine WP.lp [0] (X:={k:Nat // k≤s.length∧bK s=(s.drop k).all (fun c=>nX c.toNat)}) (fun x=>match x with| ⟨(k),_⟩=>[(3,.int .i64 k)]) (fun x=>match x with| ⟨(k),_⟩=>[]) (fun x=>match x with| ⟨(k),_⟩=>s.length - k) (by simp +decide only[W,↓reduceIte];rfl) ?_ ⟨(0),⟨Nat.zero_le _,by have hle:decide ((s.length:Int)≤256)=true:=(by simp at q2 ⊢;omega);simp only[List.drop_zero,bK,endsB,h0c,hlc,hnn,q3,q4,hle,Bool.not_false,Bool.and_true]⟩⟩ ?_
 rotate_left
 ·exact Weak.nil (by simp[St.get,lk,W,Le.refl]) (by simp[W])
 rintro ⟨k,hk,hI⟩
 dsimp only
 simp only[List.cons_append,List.nil_append]
 iterate 2 first|(refine WP.S ku fun _ z=>?_;simp +decide only[TF,↓reduceIte];apply z;clear z)|apply WP.seq
 refine WP.cond rfl (fun q5=>?_) (fun q5=>?_)
 ·have hlt:=aK q5
  have hg:=j_ hlt
  rw[dI hlt] at hI
  simp only[List.all_cons] at hI
  iterate 3 first|(apply WP.skip;show WP ..)|apply WP.block|apply WP.seq
  refine WP.sm [0,3] 40 (.bool (!(nX s[k].toNat))) (by kernel_rfl) (fun K hK=>?_) ?_
  ·refine ah.take 5 fun J hJ=>?_
   simp +decide only[TF,q5,hg,↓reduceIte]
   refine hJ _ _ ?_;clear hJ J
   refine ah.part 35 rfl (fun q6=>?_) (fun q6=>?_)
   ·simp +decide only[TF,q6,↓reduceIte]
    exact hK _ _ (by simp[St.get,lk,W]) rfl (Le.of_eq (by simp_all[St.get,lk,W,LN,nX]))
   simp +decide only[TF,hg,q6,↓reduceIte]
   exact hK _ _ (by simp[St.get,lk,W]) rfl (Le.of_eq (by first|(simp[St.get,lk,nX];done)|(simp_all[St.get,lk,W,LN,nX];done)|(simp_all[St.get,lk,W,LN,nX];rw[Bool.eq_iff_iff];simp;try omega;done)))
  refine WP.cond rfl (fun q7=>?_) (fun q7=>?_)
  ·refine WP.S ku fun _ z=>?_;simp +decide only[TF,q5,q7,↓reduceIte];apply z;clear z
   apply WP.ret
   exact Ends.P rfl (Le.of_eq (by first|(simp +decide only[St.get,W,bK,endsB,nX,h0c,q3,hlc,q4,↓reduceIte];done)|(simp[St.get,W,bK,endsB,nX,h0c,q3,hlc,q4];done)|(simp_all[St.get,W,LN,bK,endsB,nX];done)|(simp_all[St.get,W,LN,bK,endsB,nX];intros;first|omega|(rw[Bool.eq_iff_iff];simp;try omega);done)))
  iterate 2 first|(refine WP.R fun _ z=>?_;simp +decide only[TF,q5,q7,↓reduceIte];apply z;clear z)|(apply WP.skip;show WP ..)
  show ∃y,_∧Weak _ _ _
  refine⟨⟨k+1,?_⟩,?_,Weak.nil ?_ ?_⟩
  ·exact⟨by omega,by first|(simpa [q1,h0,h0c,q2,q3,hw,hl,hlc,q4,q5,hg,q7] using hI)|(simp_all;done)⟩
  ·dsimp only;omega
  ·simp[St.get,lk,Le.refl,aT hlt hs]
  simp[W]
 have hge:=aN q5
 rw[eP hge] at hI
 simp only[List.all_nil] at hI
 iterate 2 first|(refine WP.S ku fun _ z=>?_;simp +decide only[TF,q5,↓reduceIte];apply z;clear z)|(apply WP.exit;show WP ..)
 apply WP.ret
 exact Ends.P rfl (Le.of_eq (by simp_all[St.get,W,LN,bK,endsB,nX]))
theorem sN (n:Int):ak Pr 123 [.int .i64 n] (.int .i64 (aZ n)):=by
 refine ak.W Tryz.func123 Tryz.ntmps123 ?_
 simp only[ay]
 iterate 2 (refine WP.S [0,2] fun _ z=>?_;simp +decide only[TF,↓reduceIte];apply z;clear z)
 apply WP.ret
 exact Ends.P rfl (Le.of_eq (by simp[St.get,W,aZ];repeat' split <;> (try omega)))
theorem NH (n:Int):ak Pr 188 [.int .i64 n] (.int .i64 (aZ n)):=by
 refine ak.W Tryz.func188 Tryz.ntmps188 ?_
 simp only[ay]
 iterate 2 (refine WP.S [0,2] fun _ z=>?_;simp +decide only[TF,↓reduceIte];apply z;clear z)
 apply WP.ret
 exact Ends.P rfl (Le.of_eq (by simp[St.get,W,aZ];repeat' split <;> (try omega)))
end Go.Proofs
namespace Go.Proofs
open Go.Shelf Go.RowKit
variable {P:Program} {ρ:Ren}
set_option maxHeartbeats 2000000 in
set_option maxRecDepth 100000 in
theorem DI (L:Lays.n169 P ρ)(X:Builder.Extra P ρ)(b g cap:Nat)(l:List UInt8)(cur:Array Value)(w:World)(hc1:w.cell? ⟨b,1,none⟩=some (.slice (some ⟨g,0,none⟩) l.length cap))
  (hg:w.heap[g]?=some (.cells cur (ρ.t 5) (0,0))) (hnc:l.length≤cap) (hcm:cap≤maxLen) (hcs:cur.size=cap * 1) (htake:cur.toList.take l.length=Lib.byteCells l) (h0:l≠[]):
  Calls P (ρ.f 169) #[.pointer (some ⟨b,0,none⟩)] w fun e w'=>e= .returned (.string ⟨l.toArray⟩)∧w'=w.drew.freeze ⟨g,0,none⟩ l.length:=by
 have hl0:l.length≠0:=by simpa using h0
 have c1:w.drew.cell? ⟨b,1,none⟩=some (.slice (some ⟨g,0,none⟩) l.length cap):=hc1
 have hSD:(Builtin.unsafeSliceData_ #[(ρ.t 37)] (ρ.t 127) #[.slice (some ⟨g,0,none⟩) l.length cap]).run P w.drew= .ok (.pointer (some ⟨g,0,none⟩)) w.drew:=
  Lib.run_unsafeSliceData_row _ _ _ _ _ _ (by omega)
 have hUS:(Builtin.unsafeString_ #[(ρ.t 127),(ρ.t 3)] (ρ.t 9) #[.pointer (some ⟨g,0,none⟩),.int .i64 l.length]).run P w.drew= .ok (.string ⟨l.toArray⟩) (w.drew.freeze ⟨g,0,none⟩ l.length):=by
  refine Lib.run_unsafeString_row w.drew (ρ.t 127) (ρ.t 3) (ρ.t 9) (ρ.t 5) L.t127 X.cellsByte g cur.size (by have hg':w.drew.heap[g]?=some (.cells cur (ρ.t 5) (0,0)):=hg;simp[World.shape?,hg']) l h0 (by omega) (by unfold maxLen at hcm;omega) ?_
  intro j x hx
  have e1:(Lib.byteCells l)[j]?=some (.int .u8 x.toNat):=by simp[Lib.byteCells,hx]
  rw[← htake,List.getElem?_take] at e1
  split at e1
  ·have hg':w.drew.heap[g]?=some (.cells cur (ρ.t 5) (0,0)):=hg
   rw[Addr.add_lit,Nat.zero_add,Lib.cell_of_heap hg']
   simpa using e1
  ·cases e1
 have mixed:=L.mixed
 have t72:=L.t72;have a72:=L.a72;have z72:=L.z72;have v72:=L.v72;have u72:=run_underlying L.t72
 have t70:=L.t70;have a70:=L.a70;have z70:=L.z70;have v70:=L.v70;have u70:=run_underlying L.t70
 have t37:=L.t37;have a37:=L.a37;have z37:=L.z37;have v37:=L.v37;have u37:=run_underlying L.t37
 have t127:=L.t127;have a127:=L.a127;have z127:=L.z127;have v127:=L.v127;have u127:=run_underlying L.t127
 have t3:=L.t3;have a3:=L.a3;have z3:=L.z3;have v3:=L.v3;have u3:=run_underlying L.t3
 have t9:=L.t9;have a9:=L.a9;have z9:=L.z9;have v9:=L.v9;have u9:=run_underlying L.t9
 have t5:=X.t5;have a5:=X.a5;have z5:=X.z5;have v5:=X.v5;have u5:=run_underlying X.t5
 go_enter L.f169,Body.n169_ntmps ρ
 go_wp2
 go_region_o
 all_goals (go_wp2;go_ret;exact⟨rfl,rfl⟩)
set_option maxHeartbeats 2000000 in
set_option maxRecDepth 100000 in
theorem JA (L:Lays.n169 P ρ)(X:Builder.Extra P ρ)(b:Nat)(w:World)(hc1:w.cell? ⟨b,1,none⟩=some (.slice none 0 0)):
  Calls P (ρ.f 169) #[.pointer (some ⟨b,0,none⟩)] w fun e w'=>e= .returned (.string ⟨#[]⟩)∧w'=w.drew:=by
 have hUS:=Any.unsafeString_none L X
 have c1:w.drew.cell? ⟨b,1,none⟩=some (.slice none 0 0):=hc1
 have hSD:(Builtin.unsafeSliceData_ #[(ρ.t 37)] (ρ.t 127) #[.slice none 0 0]).run P w.drew= .ok (.pointer none) w.drew:=rfl
 have mixed:=L.mixed
 have t72:=L.t72;have a72:=L.a72;have z72:=L.z72;have v72:=L.v72;have u72:=run_underlying L.t72
 have t70:=L.t70;have a70:=L.a70;have z70:=L.z70;have v70:=L.v70;have u70:=run_underlying L.t70
 have t37:=L.t37;have a37:=L.a37;have z37:=L.z37;have v37:=L.v37;have u37:=run_underlying L.t37
 have t127:=L.t127;have a127:=L.a127;have z127:=L.z127;have v127:=L.v127;have u127:=run_underlying L.t127
 have t3:=L.t3;have a3:=L.a3;have z3:=L.z3;have v3:=L.v3;have u3:=run_underlying L.t3
 have t9:=L.t9;have a9:=L.a9;have z9:=L.z9;have v9:=L.v9;have u9:=run_underlying L.t9
 have t5:=X.t5;have a5:=X.a5;have z5:=X.z5;have v5:=X.v5;have u5:=run_underlying X.t5
 go_enter L.f169,Body.n169_ntmps ρ
 go_wp2
 go_region_o
 all_goals (go_wp2;go_ret;exact⟨rfl,rfl⟩)
def Tryz.ren240:Ren:=⟨fun | 240=>151 | 276=>210|n=>n,fun | 72=>144 | 70=>141 | 37=>142 | 164=>229|n=>n,fun n=>n⟩
theorem Tryz.lays240:Lays.n240 Tryz.prog Tryz.ren240 where
 mixed:=by kernel_rfl
 f240:=by kernel_rfl
 f276:=by kernel_rfl
 t0:=Tryz.underlying0
 a0:=Tryz.isAgg0
 z0:=Tryz.sizeOf0
 v0:=Tryz.zeroValue0
 t4:=Tryz.underlying4
 a4:=Tryz.isAgg4
 z4:=Tryz.sizeOf4
 v4:=Tryz.zeroValue4
 t9:=Tryz.underlying9
 a9:=Tryz.isAgg9
 z9:=Tryz.sizeOf9
 v9:=Tryz.zeroValue9
 t20:=Tryz.underlying20
 a20:=Tryz.isAgg20
 z20:=Tryz.sizeOf20
 v20:=Tryz.zeroValue20
 t70:=Tryz.underlying141
 a70:=Tryz.isAgg141
 z70:=Tryz.sizeOf141
 v70:=Tryz.zeroValue141
 t72:=Tryz.underlying144
 a72:=Tryz.isAgg144
 z72:=Tryz.sizeOf144
 v72:=Tryz.zeroValue144
 t164:=Tryz.underlying229
 a164:=Tryz.isAgg229
 z164:=Tryz.sizeOf229
 v164:=Tryz.zeroValue229
theorem Tryz.Builder_X72_240:Builder.X72 Tryz.prog Tryz.ren240 where
 sizeBuilder:=by kernel_rfl
 liesBuilder:=by kernel_rfl
open Go.Id in
theorem nY {M:Nat→Nat→Prop}{γ:Nat→Option G}{w:World}{b off B:Nat}{v:Value}(h:Rep M γ w (.ref b off) v)(hg:γ b=some (.box B)):v= .pointer (some ⟨B,off,none⟩):=by
 cases h with
 |ref hγ=>rcases hγ with hγ | ⟨_,_,hγ⟩|hγ <;> rw[hg] at hγ <;> cases hγ <;> rfl
open Go.Id in
theorem JB (b:Nat)(x:D)(rest:List (Nat × aU)):aG Pr 151 [.ref b 0] ((b,.box 144 [.aP,x])::rest) (.aJ []) ((b,.box 144 [.ref b 0,x])::rest):=
 aG.wrote (cs:=[.aP,x]) 0 (by simp) (.ref b 0) (dF Tryz.func151 (by kernel_rfl) (by kernel_rfl)) fun M γ w vs B us fz hst hl hr hg hB hlen h1 hrr=>by
  match vs,hl with
  | [v],_=>
   obtain rfl:=nY (hr 0 _ _ rfl rfl) hg
   have hlt:0<us.size:=by rw[hlen];simp
   have hu:us[0]?=some us[0]:=Array.getElem?_eq_getElem hlt
   have hp:us[0]= .pointer none:=by
    have:=hrr 0 _ _ rfl hu
    generalize us[0]=u0 at this
    cases this;rfl
   rw[hp] at hu
   have h0:w.cell? ⟨B,0,none⟩=some (.pointer none):=by rw[cell_of_row w B 0 us 144 fz hB];exact hu
   have hsh:w.shape? B=some (144,2):=by simp[World.shape?,hB,hlen]
   refine (Any.Builder_copyCheck_fresh Tryz.lays240 Tryz.Builder_X72_240 B w h0 hsh (h1 0 _ hu).2).mono ?_
   rintro e w' ⟨rfl,rfl⟩
   exact⟨_,_,rfl,rfl,rfl,.ref (.inl hg),.aJ rfl (by simp)⟩
open Go.Id in
theorem LC (b:Nat)(x:D)(rest:List (Nat × aU)):aG Pr 151 [.ref b 0] ((b,.box 144 [.ref b 0,x])::rest) (.aJ []) ((b,.box 144 [.ref b 0,x])::rest):=
 aG.same (dF Tryz.func151 (by kernel_rfl) (by kernel_rfl)) fun M γ w vs hst hl hr=>by
  match vs,hl with
  | [v],_=>
   have hlk:lk ((b,aU.box 144 [.ref b 0,x])::rest) b=some (.box 144 [.ref b 0,x]):=by simp[lk]
   obtain⟨g,h2,h3⟩:=hst.hit hlk
   cases h3 with
   | @box _ B us _ fz hB hlen h1 hrr=>
    obtain rfl:=nY (hr 0 _ _ rfl rfl) h2
    have hlt:0<us.size:=by rw[hlen];simp
    have hu:us[0]?=some us[0]:=Array.getElem?_eq_getElem hlt
    have hp:us[0]= .pointer (some ⟨B,0,none⟩):=nY (hrr 0 _ _ rfl hu) h2
    rw[hp] at hu
    have h0:w.cell? ⟨B,0,none⟩=some (.pointer (some ⟨B,0,none⟩)):=by rw[cell_of_row w B 0 us 144 fz hB];exact hu
    refine (Any.Builder_copyCheck_used Tryz.lays240 Tryz.Builder_X72_240 B w h0).mono ?_
    rintro e w' ⟨rfl,rfl⟩
    exact⟨_,rfl,rfl,.aJ rfl (by simp)⟩
end Go.Proofs
namespace Go.Proofs
open Go Go.Id
theorem RZ (w:World){B n:Nat}{vs:Array Value}{e:TypeId}{fz:Nat × Nat}(hB:w.heap[B]?=some (.cells vs e fz)):∃fz',(w.freeze ⟨B,0,none⟩ n).heap[B]?=some (.cells vs e fz'):=by
 unfold World.freeze
 split
 ·exact⟨fz,hB⟩
 ·obtain⟨lo,hi⟩:=fz
  exact⟨_,by simp[Array.getElem?_modify,hB];rfl⟩
theorem Bl (w:World){B k n:Nat}(h:k≠B):(w.freeze ⟨B,0,none⟩ n).heap[k]?=w.heap[k]?:=by
 unfold World.freeze
 split
 ·rfl
 ·simp[Array.getElem?_modify,Ne.symm h]
theorem R_ (w:World)(B n:Nat):(w.freeze ⟨B,0,none⟩ n).heap.size=w.heap.size:=by
 unfold World.freeze
 split <;> simp
theorem Ve (b t:Nat)(hbt:b≠t)(p:D)(l:List UInt8)(h0:l≠[]):
  aG Pr 98 [.ref b 0] [(b,.box 144 [p,.slice 1 false (eY l) (some t)]),(t,.aS 5 1 l.length)] (.str l) [(b,.box 144 [p,.slice 1 false (eY l) (some t)]),(t,.dead)]:=by
 refine⟨dF Tryz.func98 (by kernel_rfl) (by kernel_rfl),fun M γ w vs hst hl hr=>?_⟩
 match vs,hl with
 | [v],_=>
  have hlb:lk [(b,aU.box 144 [p,.slice 1 false (eY l) (some t)]),(t,aU.aS 5 1 l.length)] b=some (.box 144 [p,.slice 1 false (eY l) (some t)]):=by simp[lk]
  have hlt:lk [(b,aU.box 144 [p,.slice 1 false (eY l) (some t)]),(t,aU.aS 5 1 l.length)] t=some (.aS 5 1 l.length):=by simp[lk,Ne.symm hbt]
  obtain⟨gb,g1,g2⟩:=hst.hit hlb
  obtain⟨gt,g3,g4⟩:=hst.hit hlt
  cases g2 with
  | @box _ B us _ fz hB hlen h1 hrr=>
  cases g4 with
  | @aS _ _ _ tv xs ho=>
   obtain rfl:=nY (hr 0 _ _ rfl rfl) g1
   have hlt1:1<us.size:=by rw[hlen];simp
   have hu:us[1]?=some us[1]:=Array.getElem?_eq_getElem hlt1
   have hru:=hrr 1 _ _ rfl hu
   have hu0:(eY l).length=l.length:=by rw[eY,List.length_map]
   rcases aW hru with⟨_,hn,_⟩ | ⟨a,cap,cs,hua,_,hspot,hvs,hcap,hsz,hc,hcr,htip⟩
   ·exact absurd (by simpa [eY] using hn) h0
   ·obtain⟨_,_,v',n',q1,q2,q3⟩:=htip t rfl
    rw[g3] at q1
    simp only[Option.some.injEq,G.aS.injEq] at q1
    obtain⟨_,_,rfl,rfl⟩:=q1
    have hv:=q3 hu0
    have amf:0<l.length:=List.length_pos_iff.2 h0
    rcases ho.2 with⟨_,hz⟩ | ⟨g,cap',cur,htv,_,hg,hnc,hcm,hcs,htake⟩
    ·omega
    ·have hcell1:w.cell? ⟨B,1,none⟩=some (.slice (some ⟨g,0,none⟩) l.length cap'):=by
      rw[cell_of_row w B 1 us 144 fz hB,hu,hua,hv,htv]
     have ha:a=⟨g,0,none⟩:=by
      have e1:=hv.trans htv
      simpa using (Value.slice.inj e1).1
     subst ha
     have hcur:cur.toList.take l.length=Lib.byteCells l:=by
      apply List.ext_getElem?
      intro j
      rw[List.getElem?_take]
      simp only[Lib.byteCells,List.getElem?_map]
      by_cases hj:j<l.length
      ·rw[if_pos hj,List.getElem?_eq_getElem hj]
       have hjc:j<cs.length:=by rw[hvs,hu0];omega
       have h3:=hc j _ (List.getElem?_eq_getElem hjc)
       have h4:=hcr j 0 [.int .u8 l[j].toNat] (.int .u8 l[j].toNat) cs[j] (by simp[eY,hj]) rfl (by simp[hjc])
       have h5:=Pj h4
       have h6:=h3.1
       simp only[Nat.zero_add] at h6
       rw[cell_of_row w g j cur 5 _ hg,h5] at h6
       rw[Array.getElem?_toList,h6];rfl
      ·rw[if_neg hj,List.getElem?_eq_none (by omega)];rfl
     refine (DI Tryz.lays169 Tryz.Builder_Extra_169 B g cap' l cur w hcell1 hg hnc hcm hcs hcur h0).mono ?_
     rintro e w' ⟨rfl,rfl⟩
     obtain⟨fz',hg'⟩:=RZ (n:=l.length) w.drew (B:=g) hg
     have hother:∀k,k≠g→(w.drew.freeze ⟨g,0,none⟩ l.length).heap[k]?=w.heap[k]?:=fun k hk=>Bl w.drew hk
     have hsize:(w.drew.freeze ⟨g,0,none⟩ l.length).heap.size=w.heap.size:=R_ w.drew g l.length
     have hparts:(w.drew.freeze ⟨g,0,none⟩ l.length).os=w.os∧(w.drew.freeze ⟨g,0,none⟩ l.length).tape=w.tape∧(w.drew.freeze ⟨g,0,none⟩ l.length).output=w.output:=by
      unfold World.freeze
      split <;> exact⟨rfl,rfl,rfl⟩
     have hgb:(G.aS 1 5 tv l.length).block=some g:=by rw[htv];rfl
     have hev:aQ (aC (Pr.base M) γ) γ w (aC (Pr.base M) γ) γ (w.drew.freeze ⟨g,0,none⟩ l.length):=by
      refine⟨hparts.1,hparts.2.1,hparts.2.2,by omega,fun B' o x hn hx=>?_,fun _ _ h _=>h,fun _ g h=>⟨g,h,G.le_refl g⟩,fun B' _ hn=>hother B' (fun e=>hn t _ g3 (by rw[e];exact hgb)),fun i gi _ h h' _=>⟨i,gi,h,h'⟩⟩
      by_cases hB':B'=g
      ·subst hB'
       rw[cell_of_row _ B' o cur 5 _ hg'] ;rw[cell_of_row w B' o cur 5 _ hg] at hx;exact hx
      ·rw[World.cell?_of_block (w:=w) (w':=w.drew.freeze ⟨g,0,none⟩ l.length) (by simpa using hother B' hB')];exact hx
     have lW:upd γ t (some (.aS 1 5 tv l.length))=γ:=by funext i;by_cases hi:i=t <;> simp[upd,hi,g3]
     have hst':=hst.change t .dead (.aS 1 5 tv l.length) (w.drew.freeze ⟨g,0,none⟩ l.length) (by rw[lW];exact hev) (fun i gi B2 hi hgi yL=>hother B2 (fun e=>hi (hst.dist i t gi _ B2 hgi g3 yL (by rw[e];exact hgb)))) (fun B' hB'=> .inr ⟨_,g3,hB'⟩) (.dead fun B' hB'=>by rw[hsize];exact (ho.lt B' hB').2)
     have hσ:upd (lk [(b,aU.box 144 [p,.slice 1 false (eY l) (some t)]),(t,aU.aS 5 1 l.length)]) t (some .dead)=lk [(b,aU.box 144 [p,.slice 1 false (eY l) (some t)]),(t,.dead)]:=by
      funext i
      by_cases hi:i=t
      ·subst hi;simp[upd,lk,Ne.symm hbt]
      ·simp[upd,lk,hi]
     rw[lW,hσ] at hst'
     exact⟨_,γ,rfl,hst',hev,ji l⟩
theorem G7 (b:Nat)(p:D)(sz:Nat)(aS:Option Nat)(rest:List (Nat × aU)):
  aG Pr 98 [.ref b 0] ((b,.box 144 [p,.slice sz true [] aS])::rest) (.str []) ((b,.box 144 [p,.slice sz true [] aS])::rest):=
 aG.drew (dF Tryz.func98 (by kernel_rfl) (by kernel_rfl)) fun M γ w vs hst hl hr=>by
  match vs,hl with
  | [v],_=>
   have hlk:lk ((b,aU.box 144 [p,.slice sz true [] aS])::rest) b=some (.box 144 [p,.slice sz true [] aS]):=by simp[lk]
   obtain⟨g,h2,h3⟩:=hst.hit hlk
   cases h3 with
   | @box _ B us _ fz hB hlen h1 hrr=>
    obtain rfl:=nY (hr 0 _ _ rfl rfl) h2
    have hlt:1<us.size:=by rw[hlen];simp
    have hu:us[1]?=some us[1]:=Array.getElem?_eq_getElem hlt
    have hp:us[1]= .slice none 0 0:=by
     have:=hrr 1 _ _ rfl hu
     generalize us[1]=u0 at this
     cases this;rfl
    rw[hp] at hu
    have h0:w.cell? ⟨B,1,none⟩=some (.slice none 0 0):=by rw[cell_of_row w B 1 us 144 fz hB];exact hu
    refine (JA Tryz.lays169 Tryz.Builder_Extra_169 B w h0).mono ?_
    rintro e w' ⟨rfl,rfl⟩
    exact⟨_,rfl,rfl,ji []⟩
set_option maxRecDepth 10000
theorem aaD (l:List UInt8)(c:UInt8):eY (l++[c])=eY l++[[.int .u8 c.toNat]]:=by simp[eY]
theorem adS (l m:List UInt8):eY (l++m)=eY l++eY m:=by simp[eY]
theorem sO (l:List UInt8)(c:UInt8):eY l++[[.int .u8 c.toNat]]=eY (l++[c]):=(aaD l c).symm
theorem aaE (l m:List UInt8):eY l++eY m=eY (l++m):=(adS l m).symm
theorem eX (l:List UInt8):(eY l).length=l.length:=by simp[eY]
theorem nI (l:List UInt8):(eY l=[])=(l=[]):=by cases l <;> simp[eY]
theorem Pz (f:Nat→Nat)(l:List UInt8):qQ f (eY l)=eY l:=by
 rw[pF]
 simp[eY,dh]
def lQ (a:Bool)(b:Nat):D:=if a then .aP else .ref b 0
@[simp] theorem aky {S:Nat→Prop}(a:Bool)(b:Nat):cZ S (lQ a b)↔(a=true∨S b):=by cases a <;> simp[lQ]
theorem PD (f:Nat→Nat)(a:Bool)(b:Nat):dh f (lQ a b)=lQ a (f b):=by cases a <;> simp[lQ,dh]
theorem pI (b:Nat):lQ false b= .ref b 0:=rfl
theorem Si (b:Nat):lQ true b= .aP:=rfl
theorem JC (b:Nat)(a:Bool)(x:D)(rest:List (Nat × aU)):aG Pr 151 [.ref b 0] ((b,.box 144 [lQ a b,x])::rest) (.aJ []) ((b,.box 144 [.ref b 0,x])::rest):=by
 cases a
 ·exact LC b x rest
 ·exact JB b x rest
@[simp] theorem fC {S:Nat→Prop}(l:List UInt8):(∀e∈eY l,∀d∈e,cZ S d)↔True:=by
 simp only[iff_true]
 intro e he d hd
 simp only[eY,List.mem_map] at he
 obtain⟨c,_,rfl⟩:=he
 simp at hd;subst hd;simp
def alb (l:List UInt8):aU:=if l=[] then .aS 5 1 0 else .dead
theorem PE (b t:Nat)(h:b≠t)(p:D)(l:List UInt8):aG Pr 98 [.ref b 0] [(b,.box 144 [p,.slice 1 l.isEmpty (eY l) (some t)]),(t,.aS 5 1 l.length)] (.str l) [(b,.box 144 [p,.slice 1 l.isEmpty (eY l) (some t)]),(t,alb l)]:=by
 cases l with
 |nil=>exact G7 b p 1 (some t) [(t,.aS 5 1 0)]
 |cons c l=>exact Ve b t h p (c::l) (by simp)
theorem ai5 (a nl:Bool)(l:List UInt8)(c:UInt8)(hl:l.length<140737488355328):aG Pr 153 [.ref 0 0,.int .u8 c.toNat] [(0,.box 144 [lQ a 0,.slice 1 nl (eY l) (some 1)]),(1,.aS 5 1 l.length)] (.aI) [(0,.box 144 [.ref 0 0,.slice 1 false (eY (l++[c])) (some 1)]),(1,.aS 5 1 (l.length+1))]:=by
 refine aG.of_wp Tryz.func153 rfl (by kernel_rfl) Tryz.ntmps153 (by simp) ?_
 simp only[ay,Nat.zero_add,List.map_cons,List.map_nil]
 refine WP.S [0,1,4] fun _ z=>?_;simp +decide only[TF,↓reduceIte];apply z;clear z
 refine WP.S [0,1,4] fun _ z=>?_
 simp +decide only[TF,↓reduceIte]
 refine aj.imp (JC 0 a (.slice 1 nl (eY l) (some 1)) [(1,.aS 5 1 l.length)]) rfl rfl (by simp[lk,aA]) (by simp[lk]) (by simp[lk]) ?_
 simp +decide only[TF,↓reduceIte]
 apply z;clear z
 refine WP.S [0,1,4] fun _ z=>?_
 simp +decide only[TF,eX,nI,sO,↓reduceIte]
 refine⟨⟨by simp[eX];omega,by simp[eX];omega⟩,?_⟩
 apply z;clear z
 refine WP.S [0,1,4] fun _ z=>?_;simp +decide only[TF,↓reduceIte];apply z;clear z
 apply WP.ret
 refine Ends.imp (.inr rfl) rfl (Le.of_eq (by simp +decide only[St.get,W,↓reduceIte])) ?_ ?_ ?_
 ·simp[lk]
 ·simp[lk,aA]
 simp[lk]
abbrev Gq:List Nat:=[0,1,4,5]
theorem ai6 (a nl:Bool)(l s:List UInt8)(hl:l.length+s.length≤140737488355328):aG Pr 93 [.ref 0 0,.str s] [(0,.box 144 [lQ a 0,.slice 1 nl (eY l) (some 1)]),(1,.aS 5 1 l.length)] (.aJ [.int .i64 s.length,.aI]) [(0,.box 144 [.ref 0 0,.slice 1 (nl && s.isEmpty) (eY (l++s)) (some 1)]),(1,.aS 5 1 (l.length+s.length))]:=by
 refine aG.of_wp Tryz.func93 rfl (by kernel_rfl) Tryz.ntmps93 (by simp) ?_
 simp only[ay,Nat.zero_add,List.map_cons,List.map_nil]
 rcases Classical.em (s=[]) with hz|hz
 ·subst hz
  refine WP.S Gq fun _ z=>?_;simp +decide only[TF,↓reduceIte];apply z;clear z
  refine WP.S Gq fun _ z=>?_
  simp +decide only[TF,↓reduceIte]
  refine aj.imp (JC 0 a (.slice 1 nl (eY l) (some 1)) [(1,.aS 5 1 l.length)]) rfl rfl (by simp[lk,aA]) (by simp[lk]) (by simp[lk]) ?_
  simp +decide only[TF,↓reduceIte]
  apply z;clear z
  refine WP.S Gq fun _ z=>?_
  simp +decide only[TF,nI,↓reduceIte]
  try refine⟨⟨by simp[eX];omega,by simp[eX];omega⟩,?_⟩
  apply z;clear z
  refine WP.S Gq fun _ z=>?_;simp +decide only[TF,↓reduceIte];apply z;clear z
  apply WP.ret
  refine Ends.imp (d:= .aJ [_,_]) (.inr rfl) rfl (Le.of_eq (by simp +decide only[St.get,lk,W,↓reduceIte])) ?_ ?_ ?_
  ·simp[lk]
  ·simp[lk,aA]
  simp[lk]
 refine WP.S Gq fun _ z=>?_;simp +decide only[TF,↓reduceIte];apply z;clear z
 refine WP.S Gq fun _ z=>?_
 simp +decide only[TF,↓reduceIte]
 refine aj.imp (JC 0 a (.slice 1 nl (eY l) (some 1)) [(1,.aS 5 1 l.length)]) rfl rfl (by simp[lk,aA]) (by simp[lk]) (by simp[lk]) ?_
 simp +decide only[TF,↓reduceIte]
 apply z;clear z
 refine WP.S Gq fun _ z=>?_
 simp +decide only[TF,hz,eX,nI,aaE,↓reduceIte]
 try refine⟨⟨by simp[eX];omega,by simp[eX];omega⟩,?_⟩
 apply z;clear z
 refine WP.S Gq fun _ z=>?_;simp +decide only[TF,↓reduceIte];apply z;clear z
 apply WP.ret
 refine Ends.imp (d:= .aJ [_,_]) (.inr rfl) rfl (Le.of_eq (by simp +decide only[St.get,lk,W,↓reduceIte])) ?_ ?_ ?_
 ·simp[lk]
 ·simp[lk,aA,hz]
 simp[lk]
theorem DJ (b t:Nat)(h:b≠t)(a nl:Bool)(l:List UInt8)(c:UInt8)(hl:l.length<140737488355328):aG Pr 153 [.ref b 0,.int .u8 c.toNat] [(b,.box 144 [lQ a b,.slice 1 nl (eY l) (some t)]),(t,.aS 5 1 l.length)] .aI
 [(b,.box 144 [.ref b 0,.slice 1 false (eY (l++[c])) (some t)]),(t,.aS 5 1 (l.length+1))]:=by
 obtain⟨f,g,h1,h2⟩:=kU [b,t] (by simp[h])
 have:=aG.rename h1 (ai5 a nl l c hl)
 have f0:f 0=b:=h2 0 b rfl
 have f1:f 1=t:=h2 1 t rfl
 simpa [kG,oP,dh,jL,Pz,f0,f1,PD] using this
theorem agT (b t:Nat)(h:b≠t)(a nl:Bool)(l s:List UInt8)(hl:l.length+s.length≤140737488355328):aG Pr 93 [.ref b 0,.str s] [(b,.box 144 [lQ a b,.slice 1 nl (eY l) (some t)]),(t,.aS 5 1 l.length)] (.aJ [.int .i64 s.length,.aI])
 [(b,.box 144 [.ref b 0,.slice 1 (nl && s.isEmpty) (eY (l++s)) (some t)]),(t,.aS 5 1 (l.length+s.length))]:=by
 obtain⟨f,g,h1,h2⟩:=kU [b,t] (by simp[h])
 have:=aG.rename h1 (ai6 a nl l s hl)
 have f0:f 0=b:=h2 0 b rfl
 have f1:f 1=t:=h2 1 t rfl
 simpa [kG,oP,dh,jL,Pz,f0,f1,PD] using this
theorem DK {p:UInt8→Prop}(h:∀n,n<256→p (UInt8.ofNat n))(c:UInt8):p c:=by
 have:=h c.toNat c.toNat_lt
 rwa [UInt8.ofNat_toNat] at this
def hexL:List UInt8:=[48,49,50,51,52,53,54,55,56,57,65,66,67,68,69,70]
def hexD (n:Nat):UInt8:=hexL.getD n 0
theorem Vf (n:Nat)(h:n<16):([48,49,50,51,52,53,54,55,56,57,65,66,67,68,69,70]:List UInt8)[n]?=some (hexD n):=by
 revert n;decide +kernel
theorem afH (c:UInt8):([48,49,50,51,52,53,54,55,56,57,65,66,67,68,69,70]:List UInt8)[c.toNat / 16]?=some (hexD (c.toNat / 16)):=Vf _ (by have:=c.toNat_lt;omega)
theorem afI (c:UInt8):([48,49,50,51,52,53,54,55,56,57,65,66,67,68,69,70]:List UInt8)[c.toNat % 16]?=some (hexD (c.toNat % 16)):=Vf _ (by omega)
theorem alc (c:UInt8):(c.toNat:Int).fdiv (2 ^ (min 4 (IntKind.bits .u8)))=((c.toNat / 16:Nat):Int):=by
 show (c.toNat:Int).fdiv 16=_
 rw[Int.fdiv_eq_ediv_of_nonneg _ (by omega)];omega
theorem adT (n:Nat)(h:n<256):IntKind.wrap .u8 ((BitVec.ofInt (IntKind.bits .u8) (n:Int) &&& BitVec.ofInt (IntKind.bits .u8) 15).toNat:Int)=((n % 16:Nat):Int):=by
 revert n;decide +kernel
theorem ai7 (c:UInt8):IntKind.wrap .u8 ((BitVec.ofInt (IntKind.bits .u8) (c.toNat:Int) &&& BitVec.ofInt (IntKind.bits .u8) 15).toNat:Int)=((c.toNat % 16:Nat):Int):=adT _ c.toNat_lt
theorem ai8 (c:UInt8):IntKind.wrap .u8 ((c.toNat:Int).tdiv 16)=((c.toNat / 16:Nat):Int):=by
 have:=c.toNat_lt
 have e:(c.toNat:Int).tdiv 16=((c.toNat / 16:Nat):Int):=by rw[Int.tdiv_eq_ediv_of_nonneg (by omega)];omega
 rw[e,wrap_u8 (by omega) (by omega)]
theorem ai9 (c:UInt8):(c.toNat:Int).tmod 16=((c.toNat % 16:Nat):Int):=by
 rw[Int.tmod_eq_emod_of_nonneg (by omega)];omega
def vg (c:UInt8):List UInt8:=if fA c.toNat then [c] else [37,hexD (c.toNat / 16),hexD (c.toNat % 16)]
def aF (s:List UInt8):List UInt8:=s.flatMap vg
theorem aaF (c:UInt8):(vg c).length≤3:=by unfold vg;split <;> simp
theorem nZ:∀s:List UInt8,(aF s).length≤3 * s.length
 | []=>by simp[aF]
 |c::s=>by
  have h1:=aaF c
  have h2:=nZ s
  simp only[aF,List.flatMap_cons,List.length_append,List.length_cons] at h2 ⊢
  omega
theorem zu (s:List UInt8)(k:Nat)(h:k≤s.length):(aF (s.take k)).length≤3 * k:=by
 have:=nZ (s.take k)
 rw[List.length_take] at this
 omega
theorem NI (s:List UInt8)(k:Nat)(h:k<s.length):aF (s.take (k+1))=aF (s.take k)++vg s[k]:=by
 rw[MB h];simp only[aF,List.flatMap_append,List.flatMap_cons,List.flatMap_nil,List.append_nil]
theorem JD (s:List UInt8)(k:Nat)(h:k<s.length)(hp:fA s[k].toNat=true):aF (s.take (k+1))=aF (s.take k)++[s[k]]:=by
 rw[NI s k h,vg,if_pos hp]
theorem Sj (s:List UInt8)(k:Nat)(h:k<s.length)(hp:fA s[k].toNat=false):aF (s.take (k+1))=aF (s.take k)++[37,hexD (s[k].toNat / 16),hexD (s[k].toNat % 16)]:=by
 rw[NI s k h,vg,hp];rfl
def fV (c:UInt8):Int:=Lib.indexByte hexL c
theorem qZ (c:UInt8):-1≤fV c∧fV c<16:=by
 revert c;exact DK (by decide +kernel)
def Bo (c:UInt8):List UInt8→Int→Int
 | [],_=>-1
 |x::l,i=>if ((x.toNat:Int) == (c.toNat:Int))=true then i else Bo c l (i+1)
theorem Vg (c:UInt8):Bo c hexL 0=fV c:=by
 revert c;exact DK (by decide +kernel)
theorem ai_ (a b:Nat)(ha:a<16)(hb:b<16):IntKind.wrap .u8 (IntKind.wrap .i64 ((BitVec.ofInt (IntKind.bits .i64) (IntKind.wrap .i64 (((a:Nat):Int) * 2 ^ (min 4 (IntKind.bits .i64)))) ||| BitVec.ofInt (IntKind.bits .i64) (b:Int)).toNat:Int))=((a * 16+b:Nat):Int):=by
 have:∀a:Nat,a<16→∀b:Nat,b<16→IntKind.wrap .u8 (IntKind.wrap .i64 ((BitVec.ofInt (IntKind.bits .i64) (IntKind.wrap .i64 (((a:Nat):Int) * 2 ^ (min 4 (IntKind.bits .i64)))) ||| BitVec.ofInt (IntKind.bits .i64) (b:Int)).toNat:Int))=((a * 16+b:Nat):Int):=by decide +kernel
 exact this a ha b hb
def oU (h l:UInt8):UInt8:=UInt8.ofNat ((fV h).toNat * 16+(fV l).toNat)
theorem JE (h l:UInt8)(h1:0≤fV h)(h2:0≤fV l):((oU h l).toNat:Int)=fV h * 16+fV l:=by
 have:=qZ h;have:=qZ l
 unfold oU
 rw[UInt8.toNat_ofNat_of_lt' (by show _<256;omega)]
 omega
theorem adU (h l:UInt8)(h1:0≤fV h)(h2:0≤fV l):IntKind.wrap .u8 (IntKind.wrap .i64 ((BitVec.ofInt (IntKind.bits .i64) (IntKind.wrap .i64 (fV h * 2 ^ (min 4 (IntKind.bits .i64)))) ||| BitVec.ofInt (IntKind.bits .i64) (fV l)).toNat:Int))=((oU h l).toNat:Int):=by
 have a1:=qZ h;have a2:=qZ l
 rw[JE h l h1 h2]
 have:=ai_ (fV h).toNat (fV l).toNat (by omega) (by omega)
 rw[Int.toNat_of_nonneg h1,Int.toNat_of_nonneg h2] at this
 rw[this];omega
theorem aaG (h l:UInt8)(h1:0≤fV h)(h2:0≤fV l):IntKind.wrap .u8 (IntKind.wrap .i64 (IntKind.wrap .i64 (16 * fV h)+fV l))=((oU h l).toNat:Int):=by
 have a1:=qZ h;have a2:=qZ l
 rw[JE h l h1 h2,wrap_i64 (n:=16 * fV h) (by omega) (by omega),wrap_i64 (by omega) (by omega),wrap_u8 (by omega) (by omega)]
 omega
def qG:List UInt8→Option (List UInt8)
 | []=>some []
 |c::t=>
  if fA c.toNat then (qG t).map (c::·)
  else if c=37 then
   match t with
   |h::l::r=>if fV h<0∨fV l<0∨fA (oU h l).toNat=true then none else (qG r).map (oU h l::·)
   | _=>none
  else none
def Vh:List UInt8→Option (List UInt8)
 | []=>some []
 |c::t=>
  if c=37 then
   match t with
   |h::l::r=>if fV h<0∨fV l<0 then none else (Vh r).map (oU h l::·)
   | _=>none
  else (Vh t).map (c::·)
def Bq (t:List UInt8):Option (List UInt8):=
 match t with
 |h::l::r=>if fV h<0∨fV l<0∨fA (oU h l).toNat=true then none else (qG r).map (oU h l::·)
 | _=>none
def wM (t:List UInt8):Option (List UInt8):=
 match t with
 |h::l::r=>if fV h<0∨fV l<0 then none else (Vh r).map (oU h l::·)
 | _=>none
theorem sQ (c:UInt8)(t:List UInt8):qG (c::t)=if fA c.toNat then (qG t).map (c::·) else if c=37 then Bq t else none:=by
 match t with
 | []=>rw[qG];rfl
 | [h]=>rw[qG];rfl;simp
 |h::l::r=>rw[qG];rfl
theorem Bv (c:UInt8)(t:List UInt8):Vh (c::t)=if c=37 then wM t else (Vh t).map (c::·):=by
 match t with
 | []=>rw[Vh];rfl
 | [h]=>rw[Vh];rfl;simp
 |h::l::r=>rw[Vh];rfl
def Ej (o:Option (List UInt8)):D:=
 match o with
 |some l=> .aJ [.str l,.int .i64 0]
 |none=> .aJ [.str [],.int .i64 4]
def LD (s:List UInt8):D:=
 match Vh s with
 |some l=>if aF l == s then .aJ [.str l,.int .i64 0] else .aJ [.str [],.int .i64 4]
 |none=> .aJ [.str [],.int .i64 4]
@[simp] theorem akz {S:Nat→Prop}(o:Option (List UInt8)):cZ S (Ej o):=by cases o <;> simp[Ej]
@[simp] theorem ai' {S:Nat→Prop}(s:List UInt8):cZ S (LD s):=by unfold LD;split <;> (try split) <;> simp
theorem WW:fA ((37:UInt8).toNat:Int)=false:=by decide
theorem yg:∀n,n<16→fV (hexD n)=n:=by decide +kernel
theorem NJ (c:UInt8):0≤fV c→hexD (fV c).toNat=c:=by
 revert c;exact DK (by decide +kernel)
theorem Yw (h l:UInt8)(h1:0≤fV h)(h2:0≤fV l)(hp:fA (oU h l).toNat=false):vg (oU h l)=[37,h,l]:=by
 have a1:=qZ h;have a2:=qZ l
 have e:=JE h l h1 h2
 unfold vg
 rw[hp]
 have e1:(oU h l).toNat / 16=(fV h).toNat:=by omega
 have e2:(oU h l).toNat % 16=(fV l).toNat:=by omega
 rw[e1,e2,NJ h h1,NJ l h2];rfl
theorem ru:∀(n:Nat) (s:List UInt8),s.length≤n→∀l,qG s=some l↔(Vh s=some l∧aF l=s)
 |n,[],_,l=>by
  simp only[qG,Vh,Option.some.injEq]
  constructor
  ·rintro rfl;exact⟨rfl,rfl⟩
  ·exact fun h=>h.1
 | 0,c::t,h,l=>by simp at h
 |n+1,c::t,hn,l=>by
  simp only[List.length_cons] at hn
  by_cases hp:fA c.toNat=true
  ·have hc:¬c=37:=fun e=>by subst e;rw[WW] at hp;cases hp
   simp only[sQ,Bv,hp,if_true,hc,if_false,Option.map_eq_some_iff]
   constructor
   ·rintro ⟨m,hm,rfl⟩
    obtain⟨h1,h2⟩:=(ru n t (by omega) m).1 hm
    exact⟨⟨m,h1,rfl⟩,by simp only[aF,List.flatMap_cons,vg,hp,if_true] at h2 ⊢;rw[h2];rfl⟩
   ·rintro ⟨⟨m,hm,rfl⟩,he⟩
    refine⟨m,(ru n t (by omega) m).2 ⟨hm,?_⟩,rfl⟩
    simp only[aF,List.flatMap_cons,vg,hp,if_true,List.singleton_append,List.cons.injEq,true_and] at he
    exact he
  ·simp only[Bool.not_eq_true] at hp
   by_cases hc:c=37
   ·subst hc
    simp only[sQ,Bv,WW,Bool.false_eq_true,if_false,if_true]
    match t,hn with
    | [],_=>simp[Bq,wM]
    | [h],_=>simp[Bq,wM]
    |h::k::r,hn=>
     simp only[List.length_cons] at hn
     by_cases hh:fV h<0∨fV k<0
     ·have:fV h<0∨fV k<0∨fA (oU h k).toNat=true:=hh.elim .inl (fun x=> .inr (.inl x))
      simp[Bq,wM,hh,this]
     ·have h1:0≤fV h:=by omega
      have h2:0≤fV k:=by omega
      by_cases hb:fA (oU h k).toNat=true
      ·have:fV h<0∨fV k<0∨fA (oU h k).toNat=true:= .inr (.inr hb)
       simp only[Bq,wM,this,if_true,hh,if_false,Option.map_eq_some_iff,reduceCtorEq,false_iff]
       rintro ⟨⟨m,hm,rfl⟩,he⟩
       simp only[aF,List.flatMap_cons,vg,hb,if_true,List.singleton_append,List.cons.injEq] at he
       rw[he.1,WW] at hb;cases hb
      ·have hn2:¬(fV h<0∨fV k<0∨fA (oU h k).toNat=true):=by
        rintro (q|q|q)
        ·omega
        ·omega
        ·exact hb q
       simp only[Bool.not_eq_true] at hb
       simp only[Bq,wM,hn2,if_false,hh,Option.map_eq_some_iff]
       have hx:=Yw h k h1 h2 hb
       constructor
       ·rintro ⟨m,hm,rfl⟩
        obtain⟨q1,q2⟩:=(ru n r (by omega) m).1 hm
        exact⟨⟨m,q1,rfl⟩,by simp only[aF,List.flatMap_cons,hx] at q2 ⊢;rw[q2];rfl⟩
       ·rintro ⟨⟨m,hm,rfl⟩,he⟩
        refine⟨m,(ru n r (by omega) m).2 ⟨hm,?_⟩,rfl⟩
        simp only[aF,List.flatMap_cons,hx,List.cons_append,List.nil_append,List.cons.injEq,true_and] at he
        exact he
   ·simp only[sQ,Bv,hp,Bool.false_eq_true,if_false,hc,Option.map_eq_some_iff,reduceCtorEq,false_iff]
    rintro ⟨⟨m,hm,rfl⟩,he⟩
    simp only[aF,List.flatMap_cons,vg,hp,Bool.false_eq_true,if_false,List.cons_append,List.cons.injEq] at he
    exact hc he.1.symm
theorem adX (s:List UInt8):LD s=Ej (qG s):=by
 unfold LD Ej
 cases hr:Vh s with
 |none=>
  cases hb:qG s with
  |none=>rfl
  |some l=>rw[((ru _ s (Nat.le_refl _) l).1 hb).1] at hr;cases hr
 |some m=>
  simp only
  by_cases he:aF m=s
  ·rw[(ru _ s (Nat.le_refl _) m).2 ⟨hr,he⟩,he];simp
  ·cases hb:qG s with
   |none=>simp[he]
   |some l=>
    obtain⟨q1,q2⟩:=(ru _ s (Nat.le_refl _) l).1 hb
    rw[hr] at q1;cases q1;exact absurd q2 he
theorem aja (l:List UInt8)(b c:UInt8):eY l++[[.int .u8 37],[.int .u8 b.toNat],[.int .u8 c.toNat]]=eY (l++[37,b,c]):=by simp[eY]
theorem WX (c:UInt8):Lib.indexByte [48,49,50,51,52,53,54,55,56,57,65,66,67,68,69,70] c=fV c:=rfl
theorem Ac.refl (t sz:Nat):∀F:List (Nat × D),Ac t sz F F
 | []=>trivial
 |(k,d)::F=>⟨rfl,.inl rfl,Ac.refl t sz F⟩
theorem WY (l:List UInt8)(c:UInt8):(l++[c]).isEmpty=false:=by cases l <;> rfl
theorem afJ (l m:List UInt8)(c:UInt8):(l++c::m).isEmpty=false:=by cases l <;> rfl
theorem drop2 {α:Type}{l:List α}{k:Nat}(h:k+2<l.length):l.drop (k+1)=l[k+1]::l[k+2]::l.drop (k+3):=by
 rw[List.drop_eq_getElem_cons (by omega),List.drop_eq_getElem_cons (by omega)]
theorem Sl (l:List UInt8)(k:Nat)(h:l.length≤k+2):Bq (l.drop (k+1))=none:=by
 have:(l.drop (k+1)).length≤1:=by simp;omega
 match l.drop (k+1),this with
 | [],_=>rfl
 | [_],_=>rfl
theorem PG (l:List UInt8)(k:Nat)(h:l.length≤k+2):wM (l.drop (k+1))=none:=by
 have:(l.drop (k+1)).length≤1:=by simp;omega
 match l.drop (k+1),this with
 | [],_=>rfl
 | [_],_=>rfl
theorem afK {k n:Nat}(h:k<n)(hn:n≤1099511627776):IntKind.wrap .i64 ((k:Int)+2)=((k+2:Nat):Int):=by
 rw[wrap_i64 (by omega) (by omega)];rfl
theorem NK {k n:Nat}(h:k<n)(hn:n≤1099511627776):IntKind.wrap .i64 ((k:Int)+1)=((k+1:Nat):Int):=by
 rw[wrap_i64 (by omega) (by omega)];rfl
theorem aaH (c:UInt8):c.toNat.toUInt8=c:=by simp
theorem afL {k n:Nat}(h:k<n)(hn:n≤1099511627776):IntKind.wrap .i64 ((k:Int)+2+1)=(k:Int)+3:=by
 rw[wrap_i64 (by omega) (by omega)];omega
theorem aaI (k:Nat)(h:k<16):hexL.drop k=hexD k::hexL.drop (k+1):=by
 revert k;decide +kernel
theorem adY (n:Int)(h0:0≤n)(h1:n≤255):ak Pr 152 [.int .u8 n] (.bool (fA n)):=by
 refine ak.W Tryz.func152 Tryz.ntmps152 ?_
 simp only[ay]
 refine WP.S [0,2] fun _ z=>?_;simp +decide only[TF,↓reduceIte];apply z;clear z
 refine WP.S [0,2] fun _ z=>?_
 refine ah.take 3 fun J hJ=>?_
 simp +decide only[TF,↓reduceIte]
 refine hJ _ _ ?_;clear hJ J
 refine ah.part 5 rfl (fun q1=>?_) (fun q1=>?_)
 ·refine ah.take 4 fun J hJ=>?_
  simp +decide only[TF,q1,↓reduceIte]
  refine hJ _ _ ?_;clear hJ J
  refine ah.part 9 rfl (fun q2=>?_) (fun q2=>?_)
  ·have hpx:=aaz n (by simpa using q1) (by simpa using q2)
   simp +decide only[TF,q2,↓reduceIte]
   refine aj.P (nH _ _) rfl rfl ?_
   simp +decide only[TF,hpx,↓reduceIte]
   apply z;clear z
   apply WP.ret
   exact Ends.P rfl (Le.of_eq (by simp +decide only[St.get,W,fA,q1,q2,↓reduceIte]))
  simp +decide only[TF,q2,↓reduceIte]
  apply z;clear z
  apply WP.ret
  exact Ends.P rfl (Le.of_eq (by simp +decide only[St.get,W,fA,q1,q2,↓reduceIte]))
 simp +decide only[TF,q1,↓reduceIte]
 apply z;clear z
 apply WP.ret
 exact Ends.P rfl (Le.of_eq (by simp +decide only[St.get,W,fA,q1,↓reduceIte]))
theorem Yx (n:Int):ak Pr 99 [.int .u8 n] (.bool (fA n)):=by
 refine ak.W Tryz.func99 Tryz.ntmps99 ?_
 simp only[ay]
 refine WP.S [0,2] fun _ z=>?_;simp +decide only[TF,↓reduceIte];apply z;clear z
 refine WP.S [0,2] fun _ z=>?_
 refine ah.take 3 fun J hJ=>?_
 simp +decide only[TF,↓reduceIte]
 refine hJ _ _ ?_;clear hJ J
 refine ah.part 5 rfl (fun q1=>?_) (fun q1=>?_)
 ·refine ah.take 4 fun J hJ=>?_
  simp +decide only[TF,q1,↓reduceIte]
  refine hJ _ _ ?_;clear hJ J
  refine ah.part 9 rfl (fun q2=>?_) (fun q2=>?_)
  ·refine ah.take 4 fun J hJ=>?_
   simp +decide only[TF,q2,↓reduceIte]
   refine hJ _ _ ?_;clear hJ J
   refine ah.part 13 rfl (fun q3=>?_) (fun q3=>?_)
   ·refine ah.take 4 fun J hJ=>?_
    simp +decide only[TF,q3,↓reduceIte]
    refine hJ _ _ ?_;clear hJ J
    refine ah.part 17 rfl (fun q4=>?_) (fun q4=>?_)
    ·refine ah.take 4 fun J hJ=>?_
     simp +decide only[TF,q4,↓reduceIte]
     refine hJ _ _ ?_;clear hJ J
     refine ah.part 21 rfl (fun q5=>?_) (fun q5=>?_)
     ·refine ah.take 4 fun J hJ=>?_
      simp +decide only[TF,q5,↓reduceIte]
      refine hJ _ _ ?_;clear hJ J
      refine ah.part 25 rfl (fun q6=>?_) (fun q6=>?_)
      ·refine ah.take 4 fun J hJ=>?_
       simp +decide only[TF,q6,↓reduceIte]
       refine hJ _ _ ?_;clear hJ J
       refine ah.part 29 rfl (fun q7=>?_) (fun q7=>?_)
       ·simp +decide only[TF,q7,↓reduceIte]
        apply z;clear z
        apply WP.ret
        exact Ends.P rfl (Le.of_eq (by simp_all[St.get,W,bne,fA]))
       simp +decide only[TF,q7,↓reduceIte]
       apply z;clear z
       apply WP.ret
       exact Ends.P rfl (Le.of_eq (by simp_all[St.get,W,bne,fA]))
      simp +decide only[TF,q6,↓reduceIte]
      apply z;clear z
      apply WP.ret
      exact Ends.P rfl (Le.of_eq (by simp_all[St.get,W,bne,fA]))
     simp +decide only[TF,q5,↓reduceIte]
     apply z;clear z
     apply WP.ret
     exact Ends.P rfl (Le.of_eq (by simp_all[St.get,W,bne,fA]))
    simp +decide only[TF,q4,↓reduceIte]
    apply z;clear z
    apply WP.ret
    exact Ends.P rfl (Le.of_eq (by simp_all[St.get,W,bne,fA]))
   simp +decide only[TF,q3,↓reduceIte]
   apply z;clear z
   apply WP.ret
   exact Ends.P rfl (Le.of_eq (by simp_all[St.get,W,bne,fA]))
  simp +decide only[TF,q2,↓reduceIte]
  apply z;clear z
  apply WP.ret
  exact Ends.P rfl (Le.of_eq (by simp +decide only[St.get,W,fA,q1,q2,↓reduceIte]))
 simp +decide only[TF,q1,↓reduceIte]
 apply z;clear z
 apply WP.ret
 exact Ends.P rfl (Le.of_eq (by simp +decide only[St.get,W,fA,q1,↓reduceIte]))
theorem JF (c:UInt8):ak Pr 152 [.int .u8 c.toNat] (.bool (fA c.toNat)):=adY _ (by omega) (by have:=c.toNat_lt;omega)
abbrev qm:List Nat:=[0,2,3,4,5,7,8,9,15]
theorem qo (s:List UInt8)(hs:s.length≤1099511627776):ak Pr 94 [.str s] (.str (aF s)):=by
 refine ak.W Tryz.func94 Tryz.ntmps94 ?_
 simp only[ay]
 iterate 3 first|(refine WP.S qm fun _ z=>?_;simp +decide only[TF,↓reduceIte];apply z;clear z)|apply WP.seq
 refine WP.S [0,3,7,8] fun _ z=>?_;simp +decide only[TF,↓reduceIte];apply z;clear z
 apply WP.block
 refine WP.lp [0,3,7] (X:={x:(Nat) × (Bool) // match x with|(k,a)=>k≤s.length}) (fun x=>match x with| ⟨(k,a),_⟩=>[(8,.int .i64 k)]) (fun x=>match x with| ⟨(k,a),_⟩=>[(0,.box 144 [lQ a 0,.slice 1 (aF (s.take k)).isEmpty (eY (aF (s.take k))) (some 1)]),(1,.aS 5 1 (aF (s.take k)).length)]) (fun x=>match x with| ⟨(k,a),_⟩=>s.length - k) (by simp +decide only[W,↓reduceIte];rfl) ?_ ⟨(0,true),Nat.zero_le _⟩ ?_
 rotate_left
 ·refine Weak.trans (Weak.ghost 1 5 1 (σ':=[(0,.box 144 [.aP,.slice 1 true [] (some 1)])]) (by simp[lk]) (Ac.refl _ _ _) (by simp[Dq,Rj,UF,zC])) ?_;exact Weak.store (by simp[St.get,lk,W,Le.refl,W]) (by simp[lk,Si,eY,aF]) (by simp[lk]) (by simp[aA,lk,eY]) (by simp)
 rintro ⟨⟨k,a⟩,hk⟩
 dsimp only
 simp only[List.cons_append,List.nil_append]
 dsimp only at hk
 iterate 2 first|(refine WP.S qm fun _ z=>?_;simp +decide only[TF,↓reduceIte];apply z;clear z)|apply WP.seq
 refine WP.cond rfl (fun q1=>?_) (fun q1=>?_)
 ·have hlt:=aK q1
  have hg:=j_ hlt
  have hEl:=zu s k hk
  iterate 5 first|(refine WP.S qm fun _ z=>?_;simp +decide only[TF,q1,hg,↓reduceIte];apply z;clear z)|(apply WP.skip;show WP ..)|apply WP.block|apply WP.seq
  refine WP.S qm fun _ z=>?_
  simp +decide only[TF,↓reduceIte]
  refine aj.P (JF _) rfl rfl ?_
  simp +decide only[TF,↓reduceIte]
  apply z;clear z
  refine WP.cond rfl (fun q2=>?_) (fun q2=>?_)
  ·have hes:=JD s k hlt q2
   refine WP.R fun _ z=>?_
   simp +decide only[TF,q2,↓reduceIte]
   refine aj.imp (DJ 0 1 (by decide) a (aF (s.take k)).isEmpty (aF (s.take k)) s[k] (by omega)) rfl rfl (by simp[lk,aA]) (by simp[lk]) (by simp[lk]) ?_
   simp +decide only[TF,↓reduceIte]
   apply z;clear z
   show WP ..
   refine WP.R fun _ z=>?_;simp +decide only[TF,↓reduceIte];apply z;clear z
   show ∃y,_∧Weak _ _ _
   refine⟨⟨(k+1,false),?_⟩,?_,?_⟩
   ·show k+1≤s.length;omega
   ·dsimp only;omega
   exact Weak.store (by simp[St.get,lk,Le.refl,NK hlt hs]) (by simp[lk,pI,hes]) (by simp[lk]) (by simp[aA,lk]) (by simp)
  have hes:=Sj s k hlt q2
  have hx1:=afH s[k]
  have hx2:=afI s[k]
  refine WP.S qm fun _ z=>?_
  simp +decide only[TF,q2,↓reduceIte]
  refine aj.imp (DJ 0 1 (by decide) a (aF (s.take k)).isEmpty (aF (s.take k)) 37 (by omega)) rfl rfl (by simp[lk,aA]) (by simp[lk]) (by simp[lk]) ?_
  simp +decide only[TF,↓reduceIte]
  apply z;clear z
  refine WP.S qm fun _ z=>?_
  simp +decide only[TF,hx1,alc,↓reduceIte]
  refine aj.imp (DJ 0 1 (by decide) false false (aF (s.take k)++[37]) (hexD (s[k].toNat / 16)) (by simp only[List.length_append,List.length_cons,List.length_nil];omega)) rfl rfl (by simp[lk,aA,pI]) (by simp[lk]) (by simp[lk]) ?_
  simp +decide only[TF,↓reduceIte]
  apply z;clear z
  refine WP.R fun _ z=>?_
  simp +decide only[TF,hx2,ai7,↓reduceIte]
  refine aj.imp (DJ 0 1 (by decide) false false (aF (s.take k)++[37]++[hexD (s[k].toNat / 16)]) (hexD (s[k].toNat % 16)) (by simp only[List.length_append,List.length_cons,List.length_nil];omega)) rfl rfl (by simp[lk,aA,pI]) (by simp[lk]) (by simp[lk]) ?_
  simp +decide only[TF,↓reduceIte]
  apply z;clear z
  show WP ..
  refine WP.R fun _ z=>?_;simp +decide only[TF,↓reduceIte];apply z;clear z
  show ∃y,_∧Weak _ _ _
  refine⟨⟨(k+1,false),?_⟩,?_,?_⟩
  ·show k+1≤s.length;omega
  ·dsimp only;omega
  exact Weak.store (by simp[St.get,lk,Le.refl,NK hlt hs]) (by simp[lk,pI,hes]) (by simp[lk]) (by simp[aA,lk]) (by simp)
 have hge:=aN q1
 obtain rfl:k=s.length:=by omega
 rw[List.take_length]
 apply WP.exit;show WP ..
 refine WP.S qm fun _ z=>?_
 simp +decide only[TF,q1,↓reduceIte]
 refine aj.imp (PE 0 1 (by decide) (lQ a 0) (aF s)) rfl rfl (by simp[lk,aA]) (by simp[lk]) (by simp[lk]) ?_
 simp +decide only[TF,↓reduceIte]
 apply z;clear z
 apply WP.ret
 exact Ends.P rfl (Le.of_eq (by simp +decide only[St.get,W,↓reduceIte]))
theorem jT (s:List UInt8)(hs:s.length≤1099511627776):ak Pr 45 [.str s] (.str (aF s)):=by
 refine ak.W Tryz.func45 Tryz.ntmps45 ?_
 simp only[ay]
 iterate 3 first|(refine WP.S [0,2,3,4,8,14] fun _ z=>?_;simp +decide only[TF,↓reduceIte];apply z;clear z)|apply WP.seq
 refine WP.S [0,3,4] fun _ z=>?_;simp +decide only[TF,↓reduceIte];apply z;clear z
 apply WP.block
 refine WP.lp [0] (X:={k:Nat // k≤s.length}) (fun x=>match x with| ⟨(k),_⟩=>[(3,.slice 1 (aF (s.take k)).isEmpty (eY (aF (s.take k))) (some 0)),(4,.int .i64 k)]) (fun x=>match x with| ⟨(k),_⟩=>[(0,.aS 5 1 (aF (s.take k)).length)]) (fun x=>match x with| ⟨(k),_⟩=>s.length - k) (by simp +decide only[W,↓reduceIte];rfl) ?_ ⟨(0),Nat.zero_le _⟩ ?_
 rotate_left
 ·refine Weak.trans (Weak.ghost 0 5 1 (F':=[(4,.int .i64 0),(3,.slice 1 true [] (some 0)),(0,.str s)]) (σ':=[]) (by simp[lk]) (by simp[keep,ins,Ac,zC]) (by simp[Dq])) ?_;exact Weak.store (by simp[St.get,lk,Le.refl,aF,eY]) (by simp[lk,aF]) (by simp[lk]) (by simp[aA]) (by simp)
 rintro ⟨k,hk⟩
 dsimp only
 simp only[List.cons_append,List.nil_append]
 iterate 2 first|(refine WP.S [0,2,3,4,8,14] fun _ z=>?_;simp +decide only[TF,↓reduceIte];apply z;clear z)|apply WP.seq
 refine WP.cond rfl (fun q1=>?_) (fun q1=>?_)
 ·have hlt:=aK q1
  have hg:=j_ hlt
  have hEl:=zu s k hk
  iterate 3 first|(apply WP.skip;show WP ..)|apply WP.block|apply WP.seq
  refine WP.S [0,2,3,4,8,14] fun _ z=>?_
  simp +decide only[TF,q1,hg,↓reduceIte]
  refine aj.P (Yx _) rfl rfl ?_
  simp +decide only[TF,↓reduceIte]
  apply z;clear z
  refine WP.cond rfl (fun q2=>?_) (fun q2=>?_)
  ·have hes:=JD s k hlt q2
   refine WP.R fun _ z=>?_
   simp +decide only[TF,hg,q2,eX,nI,sO,↓reduceIte]
   refine⟨⟨by simp only[List.length_append,List.length_cons,List.length_nil];omega,by simp only[List.length_append,List.length_cons,List.length_nil];omega⟩,?_⟩
   apply z;clear z
   show WP ..
   refine WP.R fun _ z=>?_;simp +decide only[TF,↓reduceIte];apply z;clear z
   show ∃y,_∧Weak _ _ _
   refine⟨⟨k+1,?_⟩,?_,?_⟩
   ·show k+1≤s.length;omega
   ·dsimp only;omega
   exact Weak.store (by simp[St.get,lk,Le.refl,hes,NK hlt hs,afJ]) (by simp[lk,hes]) (by simp[lk]) (by simp[aA,lk]) (by simp)
  have hes:=Sj s k hlt q2
  have hx1:=afH s[k]
  have hx2:=afI s[k]
  refine WP.E fun _ z=>?_
  simp +decide only[TF,hg,q2,hx1,hx2,ai8,ai9,eX,nI,aja,↓reduceIte]
  refine⟨⟨by simp only[List.length_append,List.length_cons,List.length_nil];omega,by simp only[List.length_append,List.length_cons,List.length_nil];omega⟩,?_⟩
  refine z _ _ (by kernel_rfl) ?_;clear z
  show WP ..
  refine WP.R fun _ z=>?_;simp +decide only[TF,↓reduceIte];apply z;clear z
  show ∃y,_∧Weak _ _ _
  refine⟨⟨k+1,?_⟩,?_,?_⟩
  ·show k+1≤s.length;omega
  ·dsimp only;omega
  exact Weak.store (by simp[St.get,lk,Le.refl,hes,NK hlt hs,afJ]) (by simp[lk,hes]) (by simp[lk]) (by simp[aA,lk]) (by simp)
 have hge:=aN q1
 obtain rfl:k=s.length:=by omega
 rw[List.take_length]
 iterate 2 first|(refine WP.S [0,2,3,4,8,14] fun _ z=>?_;simp +decide only[TF,q1,↓reduceIte];apply z;clear z)|(apply WP.exit;show WP ..)
 apply WP.ret
 exact Ends.P rfl (Le.of_eq (by simp +decide only[St.get,W,↓reduceIte]))
theorem oV (c:UInt8):ak Pr 169 [.int .u8 c.toNat] (.int .i64 (fV c)):=by
 refine ak.W Tryz.func169 Tryz.ntmps169 ?_
 simp only[ay]
 iterate 2 first|(refine WP.S [0,2,3,5,11] fun _ z=>?_;simp +decide only[TF,↓reduceIte];apply z;clear z)|apply WP.seq
 refine WP.S [0,3] fun _ z=>?_;simp +decide only[TF,↓reduceIte];apply z;clear z
 apply WP.block
 refine WP.lp [0] (X:={k:Nat // k≤16∧fV c=Bo c (hexL.drop k) k}) (fun x=>match x with| ⟨(k),_⟩=>[(3,.int .i64 k)]) (fun x=>match x with| ⟨(k),_⟩=>[]) (fun x=>match x with| ⟨(k),_⟩=>16 - k) (by simp +decide only[W,↓reduceIte];rfl) ?_ ⟨(0),⟨by omega,(Vg c).symm⟩⟩ ?_
 rotate_left
 ·exact Weak.nil (by simp[St.get,lk,W,Le.refl,W]) (by simp[W])
 rintro ⟨k,hk,hI⟩
 dsimp only
 simp only[List.cons_append,List.nil_append]
 rcases Nat.lt_or_ge k 16 with hlt|hge
 ·have hg:=Vf k hlt
  have hq:decide ((k:Int)<16)=true:=decide_eq_true (by omega)
  have hd:hexL.drop k=hexD k::hexL.drop (k+1):=aaI k hlt
  rw[hd,Bo] at hI
  iterate 7 first|(refine WP.S [0,2,3,5,11] fun _ z=>?_;simp +decide only[TF,hg,hq,↓reduceIte];apply z;clear z)|(apply WP.skip;show WP ..)|refine WP.cT ?_|apply WP.block|apply WP.seq
  refine WP.cond rfl (fun q1=>?_) (fun q1=>?_)
  ·refine WP.S [0,2,3,5,11] fun _ z=>?_;simp +decide only[TF,q1,↓reduceIte];apply z;clear z
   apply WP.ret
   exact Ends.P rfl (Le.of_eq (by simp +decide only[St.get,W,q1,hI,↓reduceIte]))
  iterate 2 first|(refine WP.R fun _ z=>?_;simp +decide only[TF,q1,↓reduceIte];apply z;clear z)|(apply WP.skip;show WP ..)
  show ∃y,_∧Weak _ _ _
  refine⟨⟨k+1,?_⟩,?_,Weak.nil ?_ ?_⟩
  ·exact⟨by omega,by first|(simpa [hg,hq,q1] using hI)|(simp_all;done)⟩
  ·dsimp only;omega
  ·simp[St.get,lk,Le.refl,aT hlt (show 16≤140737488355328 by omega)]
  simp[W]
 obtain rfl:k=16:=by omega
 rw[show hexL.drop 16=[] from rfl,Bo] at hI
 have hq:decide (((16:Nat):Int)<16)=false:=by decide
 iterate 5 first|(refine WP.S [0,2,3,5,11] fun _ z=>?_;simp +decide only[TF,↓reduceIte];apply z;clear z)|(apply WP.exit;show WP ..)|refine WP.cF ?_|apply WP.seq
 apply WP.ret
 exact Ends.P rfl (Le.of_eq (by simp +decide only[St.get,W,hI,↓reduceIte]))
theorem Bz (o:Option (List UInt8))(l:List UInt8)(c:UInt8):(o.map (c::·)).map (l++·)=o.map (l++[c]++·):=by
 cases o <;> simp
theorem ajb {c:UInt8}(h:((c.toNat:Int) != 37)=false):c=37:=by
 have e:(c.toNat:Int)=37:=by simpa using h
 exact UInt8.toNat_inj.1 (by show c.toNat=37;omega)
theorem aaJ {c:UInt8}(h:((c.toNat:Int) != 37)=true):¬c=37:=by
 intro e;rw[e] at h;exact absurd h (by decide)
theorem afM {s:List UInt8}{k:Nat}(h:decide (((k+2:Nat):Int)≥(s.length:Int))=true):s.length≤k+2:=by simp at h;omega
theorem aaK {s:List UInt8}{k:Nat}(h:decide (((k+2:Nat):Int)≥(s.length:Int))=false):k+2<s.length:=by simp at h;omega
abbrev fD:List Nat:=[0,2,3,4,5,6,7,11,17,32,56]
theorem uJ (s:List UInt8)(hs:s.length≤1099511627776):ak Pr 102 [.str s] (Ej (qG s)):=by
 refine ak.W Tryz.func102 Tryz.ntmps102 ?_
 simp only[ay]
 iterate 3 first|(refine WP.S fD fun _ z=>?_;simp +decide only[TF,↓reduceIte];apply z;clear z)|apply WP.seq
 refine WP.S [0,4,5] fun _ z=>?_;simp +decide only[TF,↓reduceIte];apply z;clear z
 apply WP.block
 refine WP.lp [0,4] (X:={x:(Nat) × (List UInt8) × (Bool) // match x with|(k,l,a)=>k≤s.length∧l.length≤k∧qG s=(qG (s.drop k)).map (l++·)}) (fun x=>match x with| ⟨(k,l,a),_⟩=>[(5,.int .i64 k)]) (fun x=>match x with| ⟨(k,l,a),_⟩=>[(0,.box 144 [lQ a 0,.slice 1 (l).isEmpty (eY (l)) (some 1)]),(1,.aS 5 1 (l).length)]) (fun x=>match x with| ⟨(k,l,a),_⟩=>s.length - k) (by simp +decide only[W,↓reduceIte];rfl) ?_ ⟨(0,[],true),⟨Nat.zero_le _,Nat.le_refl _,by simp⟩⟩ ?_
 rotate_left
 ·refine Weak.trans (Weak.ghost 1 5 1 (σ':=[(0,.box 144 [.aP,.slice 1 true [] (some 1)])]) (by simp[lk]) (Ac.refl _ _ _) (by simp[Dq,Rj,UF,zC])) ?_;exact Weak.store (by simp[St.get,lk,W,Le.refl,W]) (by simp[lk,Si,eY]) (by simp[lk]) (by simp[aA,lk,eY]) (by simp)
 rintro ⟨⟨k,l,a⟩,hk,hl,hI⟩
 dsimp only
 simp only[List.cons_append,List.nil_append]
 iterate 2 first|(refine WP.S fD fun _ z=>?_;simp +decide only[TF,↓reduceIte];apply z;clear z)|apply WP.seq
 refine WP.cond rfl (fun q1=>?_) (fun q1=>?_)
 ·have hlt:=aK q1
  have hg:=j_ hlt
  have hw2:=afK hlt hs
  have hw1:=NK hlt hs
  rw[dI hlt,sQ] at hI
  iterate 4 first|(apply WP.skip;show WP ..)|apply WP.block|apply WP.seq
  refine WP.S fD fun _ z=>?_
  simp +decide only[TF,q1,hg,↓reduceIte]
  refine aj.P (JF _) rfl rfl ?_
  simp +decide only[TF,↓reduceIte]
  apply z;clear z
  refine WP.cond rfl (fun q2=>?_) (fun q2=>?_)
  ·rw[if_pos q2] at hI
   refine WP.S fD fun _ z=>?_
   simp +decide only[TF,hg,q2,↓reduceIte]
   refine aj.imp (DJ 0 1 (by decide) a l.isEmpty l s[k] (by omega)) rfl rfl (by simp[lk,aA]) (by simp[lk]) (by simp[lk]) ?_
   simp +decide only[TF,↓reduceIte]
   apply z;clear z
   iterate 2 first|(refine WP.R fun _ z=>?_;simp +decide only[TF,hw1,↓reduceIte];apply z;clear z)|(apply WP.exit;show WP ..)
   show ∃y,_∧Weak _ _ _
   refine⟨⟨(k+1,l++[s[k]],false),?_⟩,?_,?_⟩
   ·exact⟨by omega,by simp;omega,by rw[← Bz];exact hI⟩
   ·dsimp only;omega
   exact Weak.store (by simp[St.get,lk,Le.refl]) (by simp[lk,pI,WY]) (by simp[lk]) (by simp[aA,lk]) (by simp)
  rw[if_neg (by simp[q2])] at hI
  iterate 2 first|(apply WP.skip;show WP ..)|apply WP.seq
  refine WP.S fD fun _ z=>?_
  refine ah.take 5 fun J hJ=>?_
  simp +decide only[TF,hg,q2,↓reduceIte]
  refine hJ _ _ ?_;clear hJ J
  refine ah.part 26 rfl (fun q3=>?_) (fun q3=>?_)
  ·have hc:¬s[k]=37:=aaJ q3
   rw[if_neg hc] at hI
   simp only[Option.map_none] at hI
   simp +decide only[TF,q3,↓reduceIte]
   apply z;clear z
   iterate 2 first|(refine WP.S fD fun _ z=>?_;simp +decide only[TF,↓reduceIte];apply z;clear z)|refine WP.cT ?_
   apply WP.ret
   exact Ends.P (d:= .aJ [_,_]) rfl (Le.of_eq (by simp +decide only[St.get,lk,W,Ej,hI,↓reduceIte]))
  have hc:s[k]=37:=ajb q3
  rw[if_pos hc] at hI
  simp +decide only[TF,hw2,q3,↓reduceIte]
  apply z;clear z
  refine WP.cond rfl (fun q4=>?_) (fun q4=>?_)
  ·rw[Sl s k (afM q4)] at hI
   simp only[Option.map_none] at hI
   refine WP.S fD fun _ z=>?_;simp +decide only[TF,q4,↓reduceIte];apply z;clear z
   apply WP.ret
   exact Ends.P (d:= .aJ [_,_]) rfl (Le.of_eq (by simp +decide only[St.get,lk,W,Ej,hI,↓reduceIte]))
  have h2:=aaK q4
  have hg1:=j_ (show k+1<s.length by omega)
  have hg2:=j_ h2
  rw[drop2 h2,Bq] at hI
  apply WP.skip;show WP ..
  refine WP.D fD fun _ z=>?_
  simp +decide only[TF,hw1,q4,hg1,↓reduceIte]
  refine aj.P (nH _ _) rfl rfl ?_
  simp +decide only[TF,hw2,hg2,aaH,WX,↓reduceIte]
  refine aj.P (nH _ _) rfl rfl ?_
  simp +decide only[TF,aaH,WX,↓reduceIte]
  refine z _ _ (by kernel_rfl) ?_;clear z
  apply WP.seq
  refine WP.S fD fun _ z=>?_
  refine ah.take 3 fun J hJ=>?_
  simp +decide only[TF,↓reduceIte]
  refine hJ _ _ ?_;clear hJ J
  refine ah.part 45 rfl (fun q5=>?_) (fun q5=>?_)
  ·rw[if_pos (Or.inl (by simpa using q5))] at hI
   simp only[Option.map_none] at hI
   simp +decide only[TF,q5,↓reduceIte]
   apply z;clear z
   iterate 2 first|(refine WP.S fD fun _ z=>?_;simp +decide only[TF,↓reduceIte];apply z;clear z)|refine WP.cT ?_
   apply WP.ret
   exact Ends.P (d:= .aJ [_,_]) rfl (Le.of_eq (by simp +decide only[St.get,lk,W,Ej,hI,↓reduceIte]))
  have hh1:0≤fV s[k+1]:=by simpa using q5
  refine ah.take 4 fun J hJ=>?_
  simp +decide only[TF,q5,↓reduceIte]
  refine hJ _ _ ?_;clear hJ J
  refine ah.part 49 rfl (fun q6=>?_) (fun q6=>?_)
  ·rw[if_pos (Or.inr (Or.inl (by simpa using q6)))] at hI
   simp only[Option.map_none] at hI
   simp +decide only[TF,q6,↓reduceIte]
   apply z;clear z
   iterate 2 first|(refine WP.S fD fun _ z=>?_;simp +decide only[TF,↓reduceIte];apply z;clear z)|refine WP.cT ?_
   apply WP.ret
   exact Ends.P (d:= .aJ [_,_]) rfl (Le.of_eq (by simp +decide only[St.get,lk,W,Ej,hI,↓reduceIte]))
  have hh2:0≤fV s[k+2]:=by simpa using q6
  have hob:=adU s[k+1] s[k+2] hh1 hh2
  simp +decide only[TF,q6,hob,↓reduceIte]
  refine aj.P (JF (oU s[k+1] s[k+2])) rfl rfl ?_
  simp +decide only[TF,↓reduceIte]
  apply z;clear z
  refine WP.cond rfl (fun q7=>?_) (fun q7=>?_)
  ·rw[if_pos (Or.inr (Or.inr q7))] at hI
   simp only[Option.map_none] at hI
   refine WP.S fD fun _ z=>?_;simp +decide only[TF,q7,↓reduceIte];apply z;clear z
   apply WP.ret
   exact Ends.P (d:= .aJ [_,_]) rfl (Le.of_eq (by simp +decide only[St.get,lk,W,Ej,hI,↓reduceIte]))
  rw[if_neg (by rintro (e|e|e) <;> simp_all;done)] at hI
  apply WP.skip;show WP ..
  refine WP.S fD fun _ z=>?_
  simp +decide only[TF,hob,q7,↓reduceIte]
  refine aj.imp (DJ 0 1 (by decide) a l.isEmpty l (oU s[k+1] s[k+2]) (by omega)) rfl rfl (by simp[lk,aA]) (by simp[lk]) (by simp[lk]) ?_
  simp +decide only[TF,↓reduceIte]
  apply z;clear z
  iterate 2 first|(refine WP.R fun _ z=>?_;simp +decide only[TF,hw2,↓reduceIte];apply z;clear z;show WP ..)|(refine WP.R fun _ z=>?_;simp +decide only[TF,↓reduceIte];apply z;clear z)
  show ∃y,_∧Weak _ _ _
  refine⟨⟨(k+3,l++[oU s[k+1] s[k+2]],false),?_⟩,?_,?_⟩
  ·exact⟨by omega,by simp;omega,by rw[← Bz];exact hI⟩
  ·dsimp only;omega
  exact Weak.store (by simp[St.get,lk,Le.refl,afL hlt hs]) (by simp[lk,pI,WY]) (by simp[lk]) (by simp[aA,lk]) (by simp)
 have hge:=aN q1
 rw[eP hge,qG] at hI
 simp only[Option.map_some,List.append_nil] at hI
 apply WP.exit;show WP ..
 refine WP.S fD fun _ z=>?_
 simp +decide only[TF,q1,↓reduceIte]
 refine aj.imp (PE 0 1 (by decide) (lQ a 0) l) rfl rfl (by simp[lk,aA]) (by simp[lk]) (by simp[lk]) ?_
 simp +decide only[TF,↓reduceIte]
 apply z;clear z
 apply WP.ret
 exact Ends.P (d:= .aJ [_,_]) rfl (Le.of_eq (by simp +decide only[St.get,lk,W,Ej,hI,↓reduceIte]))
abbrev dM:List Nat:=[0,2,3,4,5,9,15,42,65]
theorem LG (s:List UInt8)(hs:s.length≤1099511627776):ak Pr 107 [.str s] (LD s):=by
 refine ak.W Tryz.func107 Tryz.ntmps107 ?_
 simp only[ay]
 iterate 3 first|(refine WP.S dM fun _ z=>?_;simp +decide only[TF,↓reduceIte];apply z;clear z)|apply WP.seq
 refine WP.S [0,4,5] fun _ z=>?_;simp +decide only[TF,↓reduceIte];apply z;clear z
 apply WP.block
 refine WP.lp [0] (X:={x:(Nat) × (List UInt8) // match x with|(k,l)=>k≤s.length∧l.length≤k∧Vh s=(Vh (s.drop k)).map (l++·)}) (fun x=>match x with| ⟨(k,l),_⟩=>[(4,.slice 1 l.isEmpty (eY l) (some 0)),(5,.int .i64 k)]) (fun x=>match x with| ⟨(k,l),_⟩=>[(0,.aS 5 1 l.length)]) (fun x=>match x with| ⟨(k,l),_⟩=>s.length - k) (by simp +decide only[W,↓reduceIte];rfl) ?_ ⟨(0,[]),⟨Nat.zero_le _,Nat.le_refl _,by simp⟩⟩ ?_
 rotate_left
 ·refine Weak.trans (Weak.ghost 0 5 1 (F':=[(5,.int .i64 0),(4,.slice 1 true [] (some 0)),(0,.str s)]) (σ':=[]) (by simp[lk]) (by simp[keep,ins,Ac,zC]) (by simp[Dq])) ?_;exact Weak.store (by simp[St.get,lk,Le.refl,eY]) (by simp[lk]) (by simp[lk]) (by simp[aA]) (by simp)
 rintro ⟨⟨k,l⟩,hk,hl,hI⟩
 dsimp only
 simp only[List.cons_append,List.nil_append]
 iterate 2 first|(refine WP.S dM fun _ z=>?_;simp +decide only[TF,↓reduceIte];apply z;clear z)|apply WP.seq
 refine WP.cond rfl (fun q1=>?_) (fun q1=>?_)
 ·have hlt:=aK q1
  have hg:=j_ hlt
  have hw2:=afK hlt hs
  have hw1:=NK hlt hs
  rw[dI hlt,Bv] at hI
  iterate 5 first|(refine WP.S dM fun _ z=>?_;simp +decide only[TF,q1,hg,↓reduceIte];apply z;clear z)|(apply WP.skip;show WP ..)|apply WP.block|apply WP.seq
  refine WP.cond rfl (fun q2=>?_) (fun q2=>?_)
  ·have hc:¬s[k]=37:=aaJ q2
   rw[if_neg hc] at hI
   refine WP.S dM fun _ z=>?_
   simp +decide only[TF,hg,q2,eX,nI,sO,↓reduceIte]
   refine⟨⟨by simp only[List.length_append,List.length_cons,List.length_nil];omega,by simp only[List.length_append,List.length_cons,List.length_nil];omega⟩,?_⟩
   apply z;clear z
   iterate 2 first|(refine WP.R fun _ z=>?_;simp +decide only[TF,hw1,↓reduceIte];apply z;clear z)|(apply WP.exit;show WP ..)
   show ∃y,_∧Weak _ _ _
   refine⟨⟨(k+1,l++[s[k]]),?_⟩,?_,?_⟩
   ·exact⟨by omega,by simp;omega,by rw[← Bz];exact hI⟩
   ·dsimp only;omega
   exact Weak.store (by simp[St.get,lk,Le.refl,WY]) (by simp[lk]) (by simp[lk]) (by simp[aA,lk]) (by simp)
  have hc:s[k]=37:=ajb q2
  rw[if_pos hc] at hI
  iterate 2 first|(apply WP.skip;show WP ..)|apply WP.seq
  refine WP.S dM fun _ z=>?_
  refine ah.take 6 fun J hJ=>?_
  simp +decide only[TF,hw2,q2,↓reduceIte]
  refine hJ _ _ ?_;clear hJ J
  refine ah.part 27 rfl (fun q3=>?_) (fun q3=>?_)
  ·rw[PG s k (afM q3)] at hI
   simp only[Option.map_none] at hI
   simp +decide only[TF,q3,↓reduceIte]
   apply z;clear z
   iterate 2 first|(refine WP.S dM fun _ z=>?_;simp +decide only[TF,↓reduceIte];apply z;clear z)|refine WP.cT ?_
   apply WP.ret
   exact Ends.P (d:= .aJ [_,_]) rfl (Le.of_eq (by simp +decide only[St.get,lk,W,LD,hI,↓reduceIte]))
  have h2:=aaK q3
  have hg1:=j_ (show k+1<s.length by omega)
  have hg2:=j_ h2
  rw[drop2 h2,wM] at hI
  simp +decide only[TF,hw1,q3,hg1,↓reduceIte]
  refine aj.P (oV _) rfl rfl ?_
  refine ah.take 3 fun J hJ=>?_
  simp +decide only[TF,↓reduceIte]
  refine hJ _ _ ?_;clear hJ J
  refine ah.part 35 rfl (fun q4=>?_) (fun q4=>?_)
  ·rw[if_pos (Or.inl (by simpa using q4))] at hI
   simp only[Option.map_none] at hI
   simp +decide only[TF,q4,↓reduceIte]
   apply z;clear z
   iterate 2 first|(refine WP.S dM fun _ z=>?_;simp +decide only[TF,↓reduceIte];apply z;clear z)|refine WP.cT ?_
   apply WP.ret
   exact Ends.P (d:= .aJ [_,_]) rfl (Le.of_eq (by simp +decide only[St.get,lk,W,LD,hI,↓reduceIte]))
  have hh1:0≤fV s[k+1]:=by simpa using q4
  simp +decide only[TF,hw2,hg2,q4,↓reduceIte]
  refine aj.P (oV _) rfl rfl ?_
  simp +decide only[TF,↓reduceIte]
  apply z;clear z
  refine WP.cond rfl (fun q5=>?_) (fun q5=>?_)
  ·rw[if_pos (Or.inr (by simpa using q5))] at hI
   simp only[Option.map_none] at hI
   refine WP.S dM fun _ z=>?_;simp +decide only[TF,q5,↓reduceIte];apply z;clear z
   apply WP.ret
   exact Ends.P (d:= .aJ [_,_]) rfl (Le.of_eq (by simp +decide only[St.get,lk,W,LD,hI,↓reduceIte]))
  have hh2:0≤fV s[k+2]:=by simpa using q5
  have hob:=aaG s[k+1] s[k+2] hh1 hh2
  rw[if_neg (by omega)] at hI
  apply WP.skip;show WP ..
  refine WP.D dM fun _ z=>?_
  simp +decide only[TF,hw1,hg1,q5,↓reduceIte]
  refine aj.P (oV _) rfl rfl ?_
  simp +decide only[TF,hw2,hg2,↓reduceIte]
  refine aj.P (oV _) rfl rfl ?_
  simp +decide only[TF,hob,eX,nI,sO,↓reduceIte]
  refine⟨⟨by simp only[List.length_append,List.length_cons,List.length_nil];omega,by simp only[List.length_append,List.length_cons,List.length_nil];omega⟩,?_⟩
  refine z _ _ (by kernel_rfl) ?_;clear z
  iterate 2 first|(refine WP.R fun _ z=>?_;simp +decide only[TF,hw2,↓reduceIte];apply z;clear z;show WP ..)|(refine WP.R fun _ z=>?_;simp +decide only[TF,↓reduceIte];apply z;clear z)
  show ∃y,_∧Weak _ _ _
  refine⟨⟨(k+3,l++[oU s[k+1] s[k+2]]),?_⟩,?_,?_⟩
  ·exact⟨by omega,by simp;omega,by rw[← Bz];exact hI⟩
  ·dsimp only;omega
  exact Weak.store (by simp[St.get,lk,Le.refl,WY,afL hlt hs]) (by simp[lk]) (by simp[lk]) (by simp[aA,lk]) (by simp)
 have hge:=aN q1
 rw[eP hge,Vh] at hI
 simp only[Option.map_some,List.append_nil] at hI
 iterate 2 first|(apply WP.exit;show WP ..)|apply WP.seq
 refine WP.S dM fun _ z=>?_
 simp +decide only[TF,q1,↓reduceIte]
 refine aj.P (jT _ (by omega)) rfl rfl ?_
 simp +decide only[TF,↓reduceIte]
 apply z;clear z
 refine WP.cond rfl (fun q6=>?_) (fun q6=>?_)
 ·refine WP.S dM fun _ z=>?_;simp +decide only[TF,q6,↓reduceIte];apply z;clear z
  apply WP.ret
  exact Ends.P (d:= .aJ [_,_]) rfl (Le.of_eq (by simp_all[St.get,lk,W,LD]))
 iterate 2 first|(refine WP.S dM fun _ z=>?_;simp +decide only[TF,q6,↓reduceIte];apply z;clear z)|(apply WP.skip;show WP ..)
 apply WP.ret
 exact Ends.P (d:= .aJ [_,_]) rfl (Le.of_eq (by simp_all[St.get,lk,W,LD]))
theorem uK (s:List UInt8)(hs:s.length≤1099511627776):ak Pr 107 [.str s] (Ej (qG s)):=adX s ▸ LG s hs
theorem JG (p:Int→Bool)(hp:∀n,127<n→p n=false)(s:List UInt8)(k:Nat)(hk:k≤s.length):s.length≤k∨(k<s.length∧127<(iy s k).1∧(s.drop k).all (fun c=>p c.toNat)=false)∨
  (∃h:k<s.length,(iy s k).1=s[k].toNat∧(iy s k).2=1∧(s.drop k).all (fun c=>p c.toNat)=(p s[k].toNat && (s.drop (k+1)).all (fun c=>p c.toNat))):=by
 by_cases h:k<s.length
 ·right
  have e:iy s k=Lib.decodeN ((⟨s.toArray⟩:ByteArray).size - k) ((⟨s.toArray⟩:ByteArray).get! k).toNat ((⟨s.toArray⟩:ByteArray).get! (k+1)).toNat ((⟨s.toArray⟩:ByteArray).get! (k+2)).toNat ((⟨s.toArray⟩:ByteArray).get! (k+3)).toNat:=Lib.decode_at _ _
  have hb:(⟨s.toArray⟩:ByteArray).get! k=s[k]:=aiY ⟨s.toArray⟩ h
  rw[hb] at e
  have hd:(s.drop k).all (fun c=>p c.toNat)=(p s[k].toNat && (s.drop (k+1)).all (fun c=>p c.toNat)):=by rw[dI h,List.all_cons]
  by_cases h8:s[k].toNat<128
  ·right
   refine⟨h,?_,?_,hd⟩ <;> (rw[e];unfold Lib.decodeN;rw[if_pos h8])
  ·left
   refine⟨h,?_,?_⟩
   ·rw[e];unfold Lib.decodeN;rw[if_neg h8]
    repeat' split
    all_goals (first|omega|(simp only[];omega))
   ·rw[hd,hp _ (by omega)];rfl
 ·left;omega
def dY (l:List UInt8):Nat:=l.foldl (fun a c=>a * 10+(c.toNat - 48)) 0
theorem NM (l:List UInt8)(c:UInt8):dY (l++[c])=dY l * 10+(c.toNat - 48):=by simp[dY]
theorem NP (l:List UInt8):∀a,l.foldl (fun a c=>a * 10+(c.toNat - 48)) a=a * 10 ^ l.length+dY l:=by
 induction l with
 |nil=>intro a;simp[dY]
 |cons c l ih=>
  intro a
  have e:dY (c::l)=(c.toNat - 48) * 10 ^ l.length+dY l:=by
   rw[dY,List.foldl_cons,ih];simp
  rw[List.foldl_cons,ih,e,List.length_cons,Nat.pow_succ,Nat.add_mul,Nat.mul_assoc,Nat.mul_comm 10,Nat.add_assoc]
theorem Yy (c:UInt8)(l:List UInt8):dY (c::l)=(c.toNat - 48) * 10 ^ l.length+dY l:=by
 rw[dY,List.foldl_cons,NP];simp
theorem aaL (l m:List UInt8):dY (l++m)=dY l * 10 ^ m.length+dY m:=by
 have:=NP m (dY l)
 rw[← this];simp[dY]
theorem NQ (l:List UInt8)(k:Nat)(h:k<l.length):dY (l.take (k+1))=dY (l.take k) * 10+(l[k].toNat - 48):=by
 rw[MB h,NM]
theorem WZ (l:List UInt8)(k:Nat):dY (l.take k)≤dY l:=by
 have:=aaL (l.take k) (l.drop k)
 rw[List.take_append_drop] at this
 rw[this]
 have h1:1≤10 ^ (l.drop k).length:=Nat.one_le_pow _ _ (by decide)
 have:=Nat.le_mul_of_pos_right (dY (l.take k)) h1
 omega
def pJ (n:Int):Bool:=decide (48≤n) && decide (n≤57)
def gG (t:List UInt8)(z:Bool):Bool:=!(t == []) && !(DC t 0 == 48 && (decide ((t.length:Int)>1) || !z)) && t.all (fun c=>pJ c.toNat)
def uY (s:List UInt8):Int × Int:=
 match s with
 | []=>(0,4)
 |c::t=>
  if c=45 then (if gG t false then (if dY t≤9223372036854775808 then (-(dY t:Int),0) else (0,27)) else (0,4))
  else if gG (c::t) true then (if dY (c::t)<9223372036854775808 then ((dY (c::t):Int),0) else (0,27)) else (0,4)
def Ld (s:List UInt8):D:= .aJ [.int .i64 (uY s).1,.int .i64 (uY s).2]
@[simp] theorem akA {S:Nat→Prop}(s:List UInt8):cZ S (Ld s):=by simp[Ld]
theorem aaM (l:List UInt8):∀acc:Nat,acc<18446744073709551616→l.all (fun c=>pJ c.toNat)=true→
  Lib.parseUint10 acc l=if acc * 10 ^ l.length+dY l<18446744073709551616 then .ok (acc * 10 ^ l.length+dY l) else .range:=by
 induction l with
 |nil=>intro acc h _;simp[Lib.parseUint10,dY,h]
 |cons c l ih=>
  intro acc h hd
  simp only[List.all_cons,Bool.and_eq_true,pJ,decide_eq_true_eq] at hd
  obtain⟨hc,hl⟩:=hd
  have hcd:48≤c.toNat∧c.toNat≤57:=by omega
  have e:acc * 10 ^ (c::l).length+dY (c::l)=(acc * 10+(c.toNat - 48)) * 10 ^ l.length+dY l:=by
   rw[Yy,List.length_cons,Nat.pow_succ,Nat.add_mul,Nat.mul_assoc,Nat.mul_comm 10,Nat.add_assoc]
  have h1:1≤10 ^ l.length:=Nat.one_le_pow _ _ (by decide)
  have hm:=Nat.le_mul_of_pos_right (acc * 10+(c.toNat - 48)) h1
  rw[Lib.parseUint10,if_pos hcd,e]
  by_cases ho:18446744073709551616≤acc * 10+(c.toNat - 48)
  ·rw[if_neg (by omega:¬(acc * 10+(c.toNat - 48)) * 10 ^ l.length+dY l<18446744073709551616)]
   by_cases h2:1844674407370955162≤acc
   ·rw[if_pos h2]
   ·rw[if_neg h2,if_pos ho]
  ·rw[if_neg (by omega),if_neg ho]
   exact ih _ (by omega) (by simpa [pJ] using hl)
theorem aaN (t:List UInt8)(h:t≠[])(hd:t.all (fun c=>pJ c.toNat)=true):Lib.atoiAll (45::t)=if dY t≤9223372036854775808 then .ok (-(dY t:Int)) else .range:=by
 have h45:(45:UInt8).toNat=45:=rfl
 simp only[Lib.atoiAll,h45,or_true,if_true,Lib.parseMag,if_neg h,aaM t 0 (by omega) hd,Nat.zero_mul,Nat.zero_add]
 by_cases h1:dY t<18446744073709551616
 ·rw[if_pos h1]
  by_cases h2:dY t≤9223372036854775808
  ·simp[h2];try omega
  ·simp[h2];try omega
 ·rw[if_neg h1,if_neg (by omega)]
theorem aaO (c:UInt8)(t:List UInt8)(hd:(c::t).all (fun c=>pJ c.toNat)=true):Lib.atoiAll (c::t)=if dY (c::t)<9223372036854775808 then .ok (dY (c::t):Int) else .range:=by
 have hc:48≤c.toNat∧c.toNat≤57:=by
  simp only[List.all_cons,Bool.and_eq_true,pJ,decide_eq_true_eq] at hd;omega
 have h1:¬(c.toNat=43∨c.toNat=45):=by omega
 have h2:¬c.toNat=45:=by omega
 simp only[Lib.atoiAll,if_neg h1,Lib.parseMag,if_neg (List.cons_ne_nil c t),aaM (c::t) 0 (by omega) hd,Nat.zero_mul,Nat.zero_add]
 by_cases h3:dY (c::t)<18446744073709551616
 ·rw[if_pos h3]
  by_cases h4:dY (c::t)<9223372036854775808
  ·simp[h4,h2];try omega
  ·simp[h4,h2];try omega
 ·rw[if_neg h3,if_neg (by omega)]
theorem Yz (t:List UInt8):Lib.trimPrefix (45::t) [45]=t:=by simp[Lib.trimPrefix,Lib.hasPrefix,List.isPrefixOf]
theorem YA (c:UInt8)(t:List UInt8)(h:¬c=45):Lib.trimPrefix (c::t) [45]=c::t:=by
 have:Lib.hasPrefix (c::t) [45]=false:=by
  simp[Lib.hasPrefix,List.isPrefixOf];exact fun e=>h e.symm
 simp[Lib.trimPrefix,this]
theorem lY (u:Nat)(h:10≤u):Lib.decDigits u=Lib.decDigits (u / 10)++[UInt8.ofNat (48+u % 10)]:=by
 conv=>lhs;rw[Lib.decDigits]
 rw[dif_neg (by omega)]
theorem iT (u:Nat)(h:u<10):Lib.decDigits u=[UInt8.ofNat (48+u)]:=by
 rw[Lib.decDigits,dif_pos h]
def lS (s:List UInt8):List UInt8:=Lib.trimPrefix s [45]
def rQ (s:List UInt8):Bool:=((s == [48]) || (!(lS s == []) && !(DC (lS s) 0 == 48))) && (lS s).all (fun c=>pJ c.toNat)
def rdV (s:List UInt8):Int × Int:=
 match Lib.atoiAll s with
 | .ok v=>(v,0)
 | _=>(0,27)
def QN (s:List UInt8):Int × Int:=if rQ s then rdV s else (0,4)
theorem Sm (s:List UInt8):(∃v,Lib.atoiAll s= .ok v)∨Lib.atoiAll s=Lib.atoiAll []∨Lib.atoiAll s= .range:=by
 cases Lib.atoiAll s with
 |ok v=>exact .inl ⟨v,rfl⟩
 |range=>exact .inr (.inr rfl)
 | _=>exact .inr (.inl rfl)
theorem agU (s:List UInt8):QN s=uY s:=by
 unfold QN rQ
 match s with
 | []=>decide
 |c::t=>
  simp only[uY]
  by_cases hc:c=45
  ·subst hc
   have hd:lS (45::t)=t:=Yz t
   have h48:((45::t:List UInt8) == [48])=false:=by simp
   rw[hd,h48,if_pos rfl]
   have hf:gG t false=((false || (!(t == []) && !(DC t 0 == 48))) && t.all (fun c=>pJ c.toNat)):=by simp[gG]
   rw[← hf]
   by_cases ho:gG t false=true
   ·rw[if_pos ho,if_pos ho]
    have h1:t≠[]:=by intro e;subst e;simp[gG] at ho
    have h2:t.all (fun c=>pJ c.toNat)=true:=by
     rw[gG,Bool.and_eq_true] at ho;exact ho.2
    unfold rdV
    rw[aaN t h1 h2]
    split <;> rename_i h
    ·split at h
     ·cases h;rename_i q;rw[if_pos q]
     ·cases h
    ·split at h
     ·exact absurd rfl (h _)
     ·rename_i q;rw[if_neg q]
   ·rw[if_neg ho,if_neg ho]
  ·have hd:lS (c::t)=c::t:=YA c t hc
   rw[hd,if_neg hc]
   have hch:DC (c::t) 0=c.toNat:=by simp[DC]
   have hf:gG (c::t) true=((((c::t) == [48]) || (!((c::t) == []) && !(DC (c::t) 0 == 48))) && (c::t).all (fun c=>pJ c.toNat)):=by
    unfold gG
    congr 1
    rw[hch]
    by_cases h4:c=48
    ·subst h4
     cases t with
     |nil=>decide
     |cons a u=>simp;omega
    ·have h5:((c.toNat:Int) == 48)=false:=by
      rw[beq_eq_false_iff_ne]
      intro e
      exact h4 (UInt8.toNat_inj.1 (by show c.toNat=48;omega))
     rw[h5]
     have h6:((c::t) == [48])=false:=by
      rw[beq_eq_false_iff_ne];intro e;exact h4 (by simpa using (List.cons.inj e).1)
     rw[h6];simp
   rw[← hf]
   by_cases ho:gG (c::t) true=true
   ·rw[if_pos ho,if_pos ho]
    have h2:(c::t).all (fun c=>pJ c.toNat)=true:=by
     rw[gG,Bool.and_eq_true] at ho;exact ho.2
    unfold rdV
    rw[aaO c t h2]
    split <;> rename_i h
    ·split at h
     ·cases h;rename_i q;rw[if_pos q]
     ·cases h
    ·split at h
     ·exact absurd rfl (h _)
     ·rename_i q;rw[if_neg q]
   ·rw[if_neg ho,if_neg ho]
theorem aaQ (s:List UInt8):(lS s).length≤s.length:=by
 unfold lS Lib.trimPrefix;split <;> simp
theorem YB (s:List UInt8):Lib.trimPrefix s [45]=lS s:=rfl
theorem afN (n:Int)(h:127<n):pJ n=false:=by simp[pJ];omega
theorem ald {c:UInt8}(h:¬c=45):((c.toNat:Int) == 45)=false:=by
 rw[beq_eq_false_iff_ne];intro e;exact h (UInt8.toNat_inj.1 (by show c.toNat=45;omega))
theorem Sr (c:UInt8)(h:pJ c.toNat=true):IntKind.wrap .i64 (IntKind.wrap .u8 ((c.toNat:Int) - 48))=((c.toNat - 48:Nat):Int):=by
 simp only[pJ,Bool.and_eq_true,decide_eq_true_eq] at h
 rw[wrap_u8 (by omega) (by omega),wrap_i64 (by omega) (by omega)];omega
theorem aaR (n d:Nat)(hn:n≤9223372036854775808)(hd:d≤9):decide (-(n:Int)<IntKind.wrap .i64 ((IntKind.wrap .i64 (-9223372036854775808+(d:Int))).tdiv 10))=decide (9223372036854775808<n * 10+d):=by
 rw[wrap_i64 (n:=-9223372036854775808+(d:Int)) (by omega) (by omega)]
 have e:(-9223372036854775808+(d:Int)).tdiv 10=-((9223372036854775808 - (d:Int)) / 10):=by
  have:(-9223372036854775808+(d:Int))=-(9223372036854775808 - (d:Int)):=by omega
  rw[this,Int.neg_tdiv,Int.tdiv_eq_ediv_of_nonneg (by omega)]
 rw[e,wrap_i64 (by omega) (by omega)]
 rw[Bool.eq_iff_iff]
 simp only[decide_eq_true_eq]
 omega
theorem W9 (n d:Nat)(hd:d≤9)(h:n * 10+d≤9223372036854775808):IntKind.wrap .i64 (IntKind.wrap .i64 (10 * -(n:Int)) - (d:Int))=-((n * 10+d:Nat):Int):=by
 rw[wrap_i64 (n:=10 * -(n:Int)) (by omega) (by omega),wrap_i64 (by omega) (by omega)];omega
theorem agV (n:Nat)(h:n<9223372036854775808):IntKind.wrap .i64 (0 - -(n:Int))=(n:Int):=by
 rw[wrap_i64 (by omega) (by omega)];omega
theorem aaS (c:UInt8)(h:pJ c.toNat=true):c.toNat - 48≤9:=by
 simp only[pJ,Bool.and_eq_true,decide_eq_true_eq] at h;omega
theorem aaT {t:List UInt8}{p:UInt8→Bool}(h:t.all p=true){k:Nat}(hk:k<t.length):p t[k]=true:=List.all_eq_true.1 h _ (List.getElem_mem hk)
theorem NR {t:List UInt8}{z:Bool}(h:gG t z=true):t.all (fun c=>pJ c.toNat)=true:=by
 rw[gG,Bool.and_eq_true] at h;exact h.2
theorem tmod_neg (m:Int)(h:m.tmod 10<0):IntKind.wrap .i64 (0 - m.tmod 10)=((m.natAbs % 10:Nat):Int):=by
 have:m.tmod 10=-((m.natAbs % 10:Nat):Int):=by
  rcases Int.natAbs_eq m with e|e
  ·rw[e,Int.tmod_eq_emod_of_nonneg (by omega)] at h;omega
  ·rw[e,Int.neg_tmod,Int.tmod_eq_emod_of_nonneg (by omega)];omega
 rw[this,wrap_i64 (by omega) (by omega)];omega
theorem aaU (m:Int)(h:¬m.tmod 10<0):m.tmod 10=((m.natAbs % 10:Nat):Int):=by
 rcases Int.natAbs_eq m with e|e
 ·rw[e,Int.tmod_eq_emod_of_nonneg (by omega)];omega
 ·rw[e,Int.neg_tmod,Int.tmod_eq_emod_of_nonneg (by omega)] at h ⊢;omega
theorem BA (m:Int):(m.tdiv 10).natAbs=m.natAbs / 10:=by
 rw[Int.natAbs_tdiv];rfl
theorem NT (m:Int)(h0:-9223372036854775808≤m)(h1:m≤9223372036854775807):IntKind.wrap .i64 (m.tdiv 10)=m.tdiv 10:=by
 have:=BA m
 exact wrap_i64 (by omega) (by omega)
theorem aaV (d:Nat)(h:d<10):IntKind.wrap .u8 (IntKind.wrap .i64 (48+(d:Int)))=((48+d:Nat):Int):=by
 rw[wrap_i64 (by omega) (by omega),wrap_u8 (by omega) (by omega)];rfl
def JH (n m:Int)(out:List UInt8):Prop:=
 -9223372036854775808≤m∧m≤9223372036854775807∧out.length≤64∧m.natAbs * 2 ^ out.length≤9223372036854775808∧
  Lib.decDigits n.natAbs=(if m=0 then out else Lib.decDigits m.natAbs++out)
theorem PK (n:Int)(h0:-9223372036854775808≤n)(h1:n≤9223372036854775807)(hn:n≠0):JH n n []:=by
 refine⟨h0,h1,by simp,by simp;omega,by rw[if_neg hn];simp⟩
theorem Sv {n m:Int}{out:List UInt8}(h:JH n m out)(hm:m≠0):out.length≤63∧JH n (m.tdiv 10) (UInt8.ofNat (48+m.natAbs % 10)::out):=by
 obtain⟨h0,h1,h2,h3,h4⟩:=h
 have ha:1≤m.natAbs:=by omega
 have hl:out.length≤63:=by
  have:2 ^ out.length≤2 ^ 63:=Nat.le_trans (Nat.le_mul_of_pos_left _ ha) h3
  exact (Nat.pow_le_pow_iff_right (by decide)).1 this
 have hd:=BA m
 refine⟨hl,by omega,by omega,by simp;omega,?_,?_⟩
 ·rw[hd,List.length_cons,Nat.pow_succ]
  have:m.natAbs / 10 * 2≤m.natAbs:=by omega
  calc m.natAbs / 10 * (2 ^ out.length * 2)=(m.natAbs / 10 * 2) * 2 ^ out.length:=by rw[Nat.mul_comm (2 ^ out.length) 2,Nat.mul_assoc]
   _≤m.natAbs * 2 ^ out.length:=Nat.mul_le_mul_right _ this
   _≤_:=h3
 ·rw[h4,if_neg hm]
  by_cases hs:m.natAbs<10
  ·have:m.tdiv 10=0:=by omega
   rw[if_pos this,iT _ hs]
   have:m.natAbs % 10=m.natAbs:=by omega
   rw[this];rfl
  ·have:m.tdiv 10≠0:=by omega
   rw[if_neg this,hd,lY _ (by omega)]
   simp
theorem Vj {n:Int}{out:List UInt8}(h:JH n 0 out):Lib.decDigits n.natAbs=out:=by
 have:=h.2.2.2.2
 rwa [if_pos rfl] at this
theorem itoa_neg (n:Int)(h:n<0):Lib.itoa n=45::Lib.decDigits n.natAbs:=by rw[Lib.itoa,if_pos h]
theorem BD (n:Int)(h:¬n<0):Lib.itoa n=Lib.decDigits n.natAbs:=by
 rw[Lib.itoa,if_neg h]
 have:n.toNat=n.natAbs:=by omega
 rw[this]
theorem agW:Lib.itoa 0=[48]:=by
 rw[BD 0 (by omega)];exact iT 0 (by omega)
theorem Sz {s:List UInt8}{v:Int}(h:Lib.atoiAll s= .ok v):Gp s= .aJ [.int .i64 v,.aI]:=by unfold Gp;rw[h]
theorem NU {s:List UInt8}(h:Lib.atoiAll s=Lib.atoiAll []):Gp s= .aJ [.int .i64 0,.iface 256 .junk]:=by unfold Gp;rw[h];rfl
theorem W_ {s:List UInt8}(h:Lib.atoiAll s=Lib.atoiAll []):rdV s=(0,27):=by unfold rdV;rw[h];rfl
theorem NV {s:List UInt8}(h:Lib.atoiAll s= .range):Gp s= .aJ [.int .i64 (Lib.atoiSat s),.iface 256 .junk]:=by unfold Gp;rw[h]
abbrev bf:List Nat:=[0,2,3,4,6,7,8,21,23,24,25,32,39]
theorem Vk (s:List UInt8)(hs:s.length≤1099511627776):ak Pr 103 [.str s] (.aJ [.int .i64 (QN s).1,.int .i64 (QN s).2]):=by
 have hdl:=aaQ s
 refine ak.W Tryz.func103 Tryz.ntmps103 ?_
 simp only[ay]
 refine WP.S bf fun _ z=>?_;simp +decide only[TF,↓reduceIte];apply z;clear z
 refine WP.S bf fun _ z=>?_
 simp +decide only[TF,↓reduceIte]
 refine aj.P (Jz _ _) rfl rfl ?_
 simp +decide only[TF,YB,↓reduceIte]
 apply z;clear z
 apply WP.seq
 refine WP.S bf fun _ z=>?_
 refine ah.take 3 fun J hJ=>?_
 simp +decide only[TF,↓reduceIte]
 refine hJ _ _ ?_;clear hJ J
 refine ah.part 13 rfl (fun q1=>?_) (fun q1=>?_)
 ·refine ah.take 3 fun J hJ=>?_
  simp +decide only[TF,q1,↓reduceIte]
  refine hJ _ _ ?_;clear hJ J
  refine ah.part 16 rfl (fun q2=>?_) (fun q2=>?_)
  ·simp +decide only[TF,q2,↓reduceIte]
   apply z;clear z
   iterate 2 first|(refine WP.S bf fun _ z=>?_;simp +decide only[TF,↓reduceIte];apply z;clear z)|refine WP.cT ?_
   apply WP.ret
   exact Ends.P (d:= .aJ [_,_]) rfl (Le.of_eq (by simp_all[St.get,lk,W,QN,rQ]))
  have hne:0<(lS s).length:=by cases hd0:lS s with|nil=>simp[hd0] at q2|cons=>simp
  have e0:=j_ hne
  have e0c:=yc hne
  simp +decide only[TF,q2,e0,↓reduceIte]
  apply z;clear z
  refine WP.cond rfl (fun q3=>?_) (fun q3=>?_)
  ·refine WP.S bf fun _ z=>?_;simp +decide only[TF,q3,↓reduceIte];apply z;clear z
   apply WP.ret
   exact Ends.P (d:= .aJ [_,_]) rfl (Le.of_eq (by simp_all[St.get,lk,W,QN,rQ]))
  iterate 2 first|(apply WP.skip;show WP ..)|apply WP.seq
  refine WP.S [0,23] fun _ z=>?_;simp +decide only[TF,q3,↓reduceIte];apply z;clear z
  apply WP.block
  refine WP.lp [0,23] (X:={k:Nat // k≤(lS s).length∧rQ s=((lS s).drop k).all (fun c=>pJ c.toNat)}) (fun x=>match x with| ⟨(k),_⟩=>[]) (fun x=>match x with| ⟨(k),_⟩=>[(0,.iter (lS s) k)]) (fun x=>match x with| ⟨(k),_⟩=>(lS s).length - k) (by simp +decide only[W,↓reduceIte];rfl) ?_ ⟨(0),⟨Nat.zero_le _,by simp_all[rQ]⟩⟩ ?_
  rotate_left
  ·exact Weak.frame (by simp[St.get,lk,W,Le.refl])
  rintro ⟨k,hk,hI⟩
  dsimp only
  simp only[List.nil_append]
  rcases JG pJ afN (lS s) k hk with hge | ⟨hlt,hb,hd⟩ | ⟨hlt,hd1,hd2,hd⟩
  ·have hnl:¬k<(lS s).length:=by omega
   rw[eP hge] at hI
   simp only[List.all_nil] at hI
   iterate 4 first|(refine WP.S bf fun _ z=>?_;simp +decide only[TF,hnl,↓reduceIte];apply z;clear z)|(apply WP.exit;show WP ..)|refine WP.cF ?_|apply WP.seq
   rcases Sm s with⟨v,hv⟩|hv|hv
   ·have hA:=Sz hv
    refine WP.S bf fun _ z=>?_
    simp +decide only[TF,↓reduceIte]
    refine aj.P (sK _ (by omega)) rfl rfl ?_
    simp +decide only[TF,hA,↓reduceIte]
    apply z;clear z
    iterate 5 first|(refine WP.S bf fun _ z=>?_;simp +decide only[TF,↓reduceIte];apply z;clear z)|(apply WP.skip;show WP ..)|refine WP.cF ?_|apply WP.seq
    apply WP.ret
    exact Ends.P (d:= .aJ [_,_]) rfl (Le.of_eq (by simp[St.get,lk,W,QN,rdV,hI,hv]))
   ·have hA:=NU hv
    have hV:=W_ hv
    refine WP.S bf fun _ z=>?_
    simp +decide only[TF,↓reduceIte]
    refine aj.P (sK _ (by omega)) rfl rfl ?_
    simp +decide only[TF,hA,↓reduceIte]
    apply z;clear z
    iterate 4 first|(refine WP.S bf fun _ z=>?_;simp +decide only[TF,↓reduceIte];apply z;clear z)|refine WP.cT ?_|apply WP.seq
    apply WP.ret
    exact Ends.P (d:= .aJ [_,_]) rfl (Le.of_eq (by simp_all[St.get,lk,W,QN,rdV,rQ]))
   have hA:=NV hv
   refine WP.S bf fun _ z=>?_
   simp +decide only[TF,↓reduceIte]
   refine aj.P (sK _ (by omega)) rfl rfl ?_
   simp +decide only[TF,hA,↓reduceIte]
   apply z;clear z
   iterate 4 first|(refine WP.S bf fun _ z=>?_;simp +decide only[TF,↓reduceIte];apply z;clear z)|refine WP.cT ?_|apply WP.seq
   apply WP.ret
   exact Ends.P (d:= .aJ [_,_]) rfl (Le.of_eq (by simp[St.get,lk,W,QN,rdV,hI,hv]))
  ·rw[hd] at hI
   have hb1:decide ((((iy (lS s) k).1:Nat):Int)<48)=false:=decide_eq_false (by omega)
   have hb2:decide ((((iy (lS s) k).1:Nat):Int)>57)=true:=decide_eq_true (by omega)
   iterate 9 first|(refine WP.S bf fun _ z=>?_;simp +decide only[TF,hlt,hb1,hb2,↓reduceIte];apply z;clear z)|(apply WP.skip;show WP ..)|refine WP.cT ?_|apply WP.block|apply WP.seq
   apply WP.ret
   exact Ends.P (d:= .aJ [_,_]) rfl (Le.of_eq (by simp[St.get,lk,W,QN,hI]))
  rw[hd] at hI
  iterate 6 first|(refine WP.S bf fun _ z=>?_;simp +decide only[TF,hlt,hd1,hd2,↓reduceIte];apply z;clear z)|(apply WP.skip;show WP ..)|refine WP.cT ?_|apply WP.block|apply WP.seq
  refine WP.S bf fun _ z=>?_
  refine ah.take 3 fun J hJ=>?_
  simp +decide only[TF,↓reduceIte]
  refine hJ _ _ ?_;clear hJ J
  refine ah.part 29 rfl (fun q4=>?_) (fun q4=>?_)
  ·have hz:pJ ((lS s)[k].toNat:Int)=false:=by have:=of_decide_eq_true q4;simp[pJ];omega
   simp +decide only[TF,q4,↓reduceIte]
   apply z;clear z
   iterate 2 first|(refine WP.S bf fun _ z=>?_;simp +decide only[TF,↓reduceIte];apply z;clear z)|refine WP.cT ?_
   apply WP.ret
   exact Ends.P (d:= .aJ [_,_]) rfl (Le.of_eq (by simp[St.get,lk,W,QN,hz,hI]))
  simp +decide only[TF,q4,↓reduceIte]
  apply z;clear z
  refine WP.cond rfl (fun q5=>?_) (fun q5=>?_)
  ·have hz:pJ ((lS s)[k].toNat:Int)=false:=by have:=of_decide_eq_true q5;simp[pJ];omega
   refine WP.S bf fun _ z=>?_;simp +decide only[TF,q5,↓reduceIte];apply z;clear z
   apply WP.ret
   exact Ends.P (d:= .aJ [_,_]) rfl (Le.of_eq (by simp[St.get,lk,W,QN,hz,hI]))
  apply WP.skip
  show ∃y,_∧Weak _ _ _
  refine⟨⟨k+1,?_⟩,?_,?_⟩
  ·exact⟨by omega,by simp_all[pJ]⟩
  ·dsimp only;omega
  exact Weak.store (by simp[St.get,lk,W,Le.refl]) (by simp[lk]) (by simp[lk]) (by simp[aA]) (by simp)
 simp +decide only[TF,q1,↓reduceIte]
 apply z;clear z
 iterate 3 first|(apply WP.skip;show WP ..)|refine WP.cF ?_|apply WP.seq
 refine WP.S [0,23] fun _ z=>?_;simp +decide only[TF,↓reduceIte];apply z;clear z
 apply WP.block
 refine WP.lp [0,23] (X:={k:Nat // k≤(lS s).length∧rQ s=((lS s).drop k).all (fun c=>pJ c.toNat)}) (fun x=>match x with| ⟨(k),_⟩=>[]) (fun x=>match x with| ⟨(k),_⟩=>[(0,.iter (lS s) k)]) (fun x=>match x with| ⟨(k),_⟩=>(lS s).length - k) (by simp +decide only[W,↓reduceIte];rfl) ?_ ⟨(0),⟨Nat.zero_le _,by simp_all[rQ]⟩⟩ ?_
 rotate_left
 ·exact Weak.frame (by simp[St.get,lk,W,Le.refl])
 rintro ⟨k,hk,hI⟩
 dsimp only
 simp only[List.nil_append]
 rcases JG pJ afN (lS s) k hk with hge | ⟨hlt,hb,hd⟩ | ⟨hlt,hd1,hd2,hd⟩
 ·have hnl:¬k<(lS s).length:=by omega
  rw[eP hge] at hI
  simp only[List.all_nil] at hI
  iterate 4 first|(refine WP.S bf fun _ z=>?_;simp +decide only[TF,hnl,↓reduceIte];apply z;clear z)|(apply WP.exit;show WP ..)|refine WP.cF ?_|apply WP.seq
  rcases Sm s with⟨v,hv⟩|hv|hv
  ·have hA:=Sz hv
   refine WP.S bf fun _ z=>?_
   simp +decide only[TF,↓reduceIte]
   refine aj.P (sK _ (by omega)) rfl rfl ?_
   simp +decide only[TF,hA,↓reduceIte]
   apply z;clear z
   iterate 5 first|(refine WP.S bf fun _ z=>?_;simp +decide only[TF,↓reduceIte];apply z;clear z)|(apply WP.skip;show WP ..)|refine WP.cF ?_|apply WP.seq
   apply WP.ret
   exact Ends.P (d:= .aJ [_,_]) rfl (Le.of_eq (by simp[St.get,lk,W,QN,rdV,hI,hv]))
  ·have hA:=NU hv
   have hV:=W_ hv
   refine WP.S bf fun _ z=>?_
   simp +decide only[TF,↓reduceIte]
   refine aj.P (sK _ (by omega)) rfl rfl ?_
   simp +decide only[TF,hA,↓reduceIte]
   apply z;clear z
   iterate 4 first|(refine WP.S bf fun _ z=>?_;simp +decide only[TF,↓reduceIte];apply z;clear z)|refine WP.cT ?_|apply WP.seq
   apply WP.ret
   exact Ends.P (d:= .aJ [_,_]) rfl (Le.of_eq (by simp_all[St.get,lk,W,QN,rdV,rQ]))
  have hA:=NV hv
  refine WP.S bf fun _ z=>?_
  simp +decide only[TF,↓reduceIte]
  refine aj.P (sK _ (by omega)) rfl rfl ?_
  simp +decide only[TF,hA,↓reduceIte]
  apply z;clear z
  iterate 4 first|(refine WP.S bf fun _ z=>?_;simp +decide only[TF,↓reduceIte];apply z;clear z)|refine WP.cT ?_|apply WP.seq
  apply WP.ret
  exact Ends.P (d:= .aJ [_,_]) rfl (Le.of_eq (by simp[St.get,lk,W,QN,rdV,hI,hv]))
 ·rw[hd] at hI
  have hb1:decide ((((iy (lS s) k).1:Nat):Int)<48)=false:=decide_eq_false (by omega)
  have hb2:decide ((((iy (lS s) k).1:Nat):Int)>57)=true:=decide_eq_true (by omega)
  iterate 9 first|(refine WP.S bf fun _ z=>?_;simp +decide only[TF,hlt,hb1,hb2,↓reduceIte];apply z;clear z)|(apply WP.skip;show WP ..)|refine WP.cT ?_|apply WP.block|apply WP.seq
  apply WP.ret
  exact Ends.P (d:= .aJ [_,_]) rfl (Le.of_eq (by simp[St.get,lk,W,QN,hI]))
 rw[hd] at hI
 iterate 6 first|(refine WP.S bf fun _ z=>?_;simp +decide only[TF,hlt,hd1,hd2,↓reduceIte];apply z;clear z)|(apply WP.skip;show WP ..)|refine WP.cT ?_|apply WP.block|apply WP.seq
 refine WP.S bf fun _ z=>?_
 refine ah.take 3 fun J hJ=>?_
 simp +decide only[TF,↓reduceIte]
 refine hJ _ _ ?_;clear hJ J
 refine ah.part 29 rfl (fun q6=>?_) (fun q6=>?_)
 ·have hz:pJ ((lS s)[k].toNat:Int)=false:=by have:=of_decide_eq_true q6;simp[pJ];omega
  simp +decide only[TF,q6,↓reduceIte]
  apply z;clear z
  iterate 2 first|(refine WP.S bf fun _ z=>?_;simp +decide only[TF,↓reduceIte];apply z;clear z)|refine WP.cT ?_
  apply WP.ret
  exact Ends.P (d:= .aJ [_,_]) rfl (Le.of_eq (by simp[St.get,lk,W,QN,hz,hI]))
 simp +decide only[TF,q6,↓reduceIte]
 apply z;clear z
 refine WP.cond rfl (fun q7=>?_) (fun q7=>?_)
 ·have hz:pJ ((lS s)[k].toNat:Int)=false:=by have:=of_decide_eq_true q7;simp[pJ];omega
  refine WP.S bf fun _ z=>?_;simp +decide only[TF,q7,↓reduceIte];apply z;clear z
  apply WP.ret
  exact Ends.P (d:= .aJ [_,_]) rfl (Le.of_eq (by simp[St.get,lk,W,QN,hz,hI]))
 apply WP.skip
 show ∃y,_∧Weak _ _ _
 refine⟨⟨k+1,?_⟩,?_,?_⟩
 ·exact⟨by omega,by simp_all[pJ]⟩
 ·dsimp only;omega
 exact Weak.store (by simp[St.get,lk,W,Le.refl]) (by simp[lk]) (by simp[lk]) (by simp[aA]) (by simp)
theorem NW (s:List UInt8)(hs:s.length≤1099511627776):ak Pr 103 [.str s] (Ld s):=by
 have:=Vk s hs
 rw[agU] at this
 exact this
theorem wO (t:List UInt8)(z:Bool)(hs:t.length≤140737488355328):ak Pr 170 [.str t,.bool z] (.bool (gG t z)):=by
 refine ak.of_wp Tryz.func170 rfl (by kernel_rfl) Tryz.ntmps170 (by simp) ?_
 simp only[ay,Nat.zero_add]
 refine WP.sr [0,1] (by kernel_rfl) fun K hK=>?_
 simp +decide only[TF,↓reduceIte]
 refine hK _ _ ?_;clear hK K
 refine WP.seq ?_
 refine WP.sr [0,22] (by kernel_rfl) fun K hK=>?_
 refine ah.take 4 fun J hJ=>?_
 simp +decide only[TF,↓reduceIte]
 refine hJ _ _ ?_;clear hJ J
 refine ah.part 9 rfl (fun q1=>?_) (fun q1=>?_)
 ·
  simp +decide only[TF,q1,↓reduceIte]
  refine hK _ _ ?_;clear hK K
  refine WP.cond (b:=true) (by rfl) (fun _=>?_) nofun
  refine WP.sr [4] (by kernel_rfl) fun K hK=>?_
  simp +decide only[TF,↓reduceIte]
  refine hK _ _ ?_;clear hK K
  refine WP.ret ?_
  exact Ends.pure (.inr rfl) rfl (Le.of_eq (by simp_all[St.get,W,gG])) (by simp)
 ·
  have hne:0<t.length:=by cases t with|nil=>simp at q1|cons=>simp
  have e0:=j_ hne
  have e0c:=yc hne
  have hnn:(t == [])=false:=by cases t <;> simp at hne ⊢
  refine ah.take 4 fun J hJ=>?_
  simp +decide only[TF,q1,e0,↓reduceIte]
  refine hJ _ _ ?_;clear hJ J
  refine ah.part 13 rfl (fun q2=>?_) (fun q2=>?_)
  ·
   refine ah.take 4 fun J hJ=>?_
   simp +decide only[TF,q2,↓reduceIte]
   refine hJ _ _ ?_;clear hJ J
   refine ah.part 17 rfl (fun q3=>?_) (fun q3=>?_)
   ·
    simp +decide only[TF,q3,↓reduceIte]
    refine hK _ _ ?_;clear hK K
    refine WP.cond (b:=true) (by rfl) (fun _=>?_) nofun
    refine WP.sr [4] (by kernel_rfl) fun K hK=>?_
    simp +decide only[TF,↓reduceIte]
    refine hK _ _ ?_;clear hK K
    refine WP.ret ?_
    exact Ends.pure (.inr rfl) rfl (Le.of_eq (by simp +decide only[St.get,W,gG,e0c,hnn,q2,q3,↓reduceIte])) (by simp)
   ·
    simp +decide only[TF,q3,↓reduceIte]
    refine hK _ _ ?_;clear hK K
    refine WP.cond (b:=_) rfl (fun q4=>?_) (fun q4=>?_)
    ·
     refine WP.sr [4] (by kernel_rfl) fun K hK=>?_
     simp +decide only[TF,q4,↓reduceIte]
     refine hK _ _ ?_;clear hK K
     refine WP.ret ?_
     exact Ends.pure (.inr rfl) rfl (Le.of_eq (by simp +decide only[St.get,W,gG,e0c,hnn,q2,q3,q4,↓reduceIte])) (by simp)
    ·
     refine WP.skip ?_
     show WP _ _ _ _ _ _
     refine WP.seq ?_
     refine WP.sr [0,5] (by kernel_rfl) fun K hK=>?_
     simp +decide only[TF,q4,↓reduceIte]
     refine hK _ _ ?_;clear hK K
     refine WP.block ?_
     refine WP.lp [0] (X:={k:Nat // k≤t.length∧gG t z=(t.drop k).all (fun c=>pJ c.toNat)}) (fun x=>match x with| ⟨(k),_⟩=>[(5,.int .i64 k)]) (fun x=>match x with| ⟨(k),_⟩=>[]) (fun x=>match x with| ⟨(k),_⟩=>t.length - k) (by simp +decide only[W,↓reduceIte];rfl) ?_ ⟨(0),⟨Nat.zero_le _,by first|(simp[gG,e0c,hnn,q2,q3,q4];done)|(simp_all[gG];done)⟩⟩ ?_
     rotate_left
     ·exact Weak.nil (by simp[St.get,lk,W,Le.refl]) (by simp[W])
     rintro ⟨k,hk,hI⟩
     dsimp only
     simp only[List.cons_append,List.nil_append]
     refine WP.seq ?_
     refine WP.sr [0,5,26] (by kernel_rfl) fun K hK=>?_
     simp +decide only[TF,↓reduceIte]
     refine hK _ _ ?_;clear hK K
     refine WP.cond (b:=_) rfl (fun q5=>?_) (fun q5=>?_)
     ·
      have hlt:=aK q5
      have hg:=j_ hlt
      rw[dI hlt] at hI
      simp only[List.all_cons] at hI
      refine WP.skip ?_
      show WP _ _ _ _ _ _
      refine WP.seq ?_
      refine WP.block ?_
      refine WP.sm [0,5] 38 (.bool (!(pJ t[k].toNat))) (by kernel_rfl) (fun K hK=>?_) ?_
      ·
       refine ah.take 5 fun J hJ=>?_
       simp +decide only[TF,q5,hg,↓reduceIte]
       refine hJ _ _ ?_;clear hJ J
       refine ah.part 33 rfl (fun q6=>?_) (fun q6=>?_)
       ·
        simp +decide only[TF,q6,↓reduceIte]
        exact hK _ _ (by simp[St.get,lk,W]) rfl (Le.of_eq (by simp_all[St.get,lk,W,pJ]))
       ·
        simp +decide only[TF,hg,q6,↓reduceIte]
        exact hK _ _ (by simp[St.get,lk,W]) rfl (Le.of_eq (by first|(simp[St.get,lk,pJ];done)|(simp_all[St.get,lk,W,pJ];done)|(simp_all[St.get,lk,W,pJ];rw[Bool.eq_iff_iff];simp;try omega;done)))
      ·
       refine WP.cond (b:=_) rfl (fun q7=>?_) (fun q7=>?_)
       ·
        refine WP.sr [4] (by kernel_rfl) fun K hK=>?_
        simp +decide only[TF,q5,q7,↓reduceIte]
        refine hK _ _ ?_;clear hK K
        refine WP.ret ?_
        exact Ends.pure (.inr rfl) rfl (Le.of_eq (by simp_all[St.get,W,gG])) (by simp)
       ·
        refine WP.skip ?_
        show WP _ _ _ _ _ _
        refine WP.region (by kernel_rfl) fun K hK=>?_
        simp +decide only[TF,q5,q7,↓reduceIte]
        refine hK _ _ ?_;clear hK K
        show ∃y,_∧Weak _ _ _
        refine⟨⟨k+1,?_⟩,?_,Weak.nil ?_ ?_⟩
        ·exact⟨by omega,by first|(simpa [q1,e0,e0c,hnn,q2,q3,q4,q5,hg,q7] using hI)|(simp_all;done)⟩
        ·dsimp only;omega
        ·simp[St.get,lk,Le.refl,aT hlt hs]
        ·simp[W]
     ·
      have hge:=aN q5
      rw[eP hge] at hI
      simp only[List.all_nil] at hI
      refine WP.exit ?_
      show WP _ _ _ _ _ _
      refine WP.sr [4] (by kernel_rfl) fun K hK=>?_
      simp +decide only[TF,q5,↓reduceIte]
      refine hK _ _ ?_;clear hK K
      refine WP.ret ?_
      exact Ends.pure (.inr rfl) rfl (Le.of_eq (by simp_all[St.get,W,gG])) (by simp)
  ·
   simp +decide only[TF,q2,↓reduceIte]
   refine hK _ _ ?_;clear hK K
   refine WP.cond (b:=false) (by rfl) nofun (fun _=>?_)
   refine WP.skip ?_
   show WP _ _ _ _ _ _
   refine WP.seq ?_
   refine WP.sr [0,5] (by kernel_rfl) fun K hK=>?_
   simp +decide only[TF,↓reduceIte]
   refine hK _ _ ?_;clear hK K
   refine WP.block ?_
   refine WP.lp [0] (X:={k:Nat // k≤t.length∧gG t z=(t.drop k).all (fun c=>pJ c.toNat)}) (fun x=>match x with| ⟨(k),_⟩=>[(5,.int .i64 k)]) (fun x=>match x with| ⟨(k),_⟩=>[]) (fun x=>match x with| ⟨(k),_⟩=>t.length - k) (by simp +decide only[W,↓reduceIte];rfl) ?_ ⟨(0),⟨Nat.zero_le _,by first|(simp[gG,e0c,hnn,q2];done)|(simp_all[gG];done)⟩⟩ ?_
   rotate_left
   ·exact Weak.nil (by simp[St.get,lk,W,Le.refl]) (by simp[W])
   rintro ⟨k,hk,hI⟩
   dsimp only
   simp only[List.cons_append,List.nil_append]
   refine WP.seq ?_
   refine WP.sr [0,5,26] (by kernel_rfl) fun K hK=>?_
   simp +decide only[TF,↓reduceIte]
   refine hK _ _ ?_;clear hK K
   refine WP.cond (b:=_) rfl (fun q8=>?_) (fun q8=>?_)
   ·
    have hlt:=aK q8
    have hg:=j_ hlt
    rw[dI hlt] at hI
    simp only[List.all_cons] at hI
    refine WP.skip ?_
    show WP _ _ _ _ _ _
    refine WP.seq ?_
    refine WP.block ?_
    refine WP.sm [0,5] 38 (.bool (!(pJ t[k].toNat))) (by kernel_rfl) (fun K hK=>?_) ?_
    ·
     refine ah.take 5 fun J hJ=>?_
     simp +decide only[TF,q8,hg,↓reduceIte]
     refine hJ _ _ ?_;clear hJ J
     refine ah.part 33 rfl (fun q9=>?_) (fun q9=>?_)
     ·
      simp +decide only[TF,q9,↓reduceIte]
      exact hK _ _ (by simp[St.get,lk,W]) rfl (Le.of_eq (by simp_all[St.get,lk,W,pJ]))
     ·
      simp +decide only[TF,hg,q9,↓reduceIte]
      exact hK _ _ (by simp[St.get,lk,W]) rfl (Le.of_eq (by first|(simp[St.get,lk,pJ];done)|(simp_all[St.get,lk,W,pJ];done)|(simp_all[St.get,lk,W,pJ];rw[Bool.eq_iff_iff];simp;try omega;done)))
    ·
     refine WP.cond (b:=_) rfl (fun q10=>?_) (fun q10=>?_)
     ·
      refine WP.sr [4] (by kernel_rfl) fun K hK=>?_
      simp +decide only[TF,q8,q10,↓reduceIte]
      refine hK _ _ ?_;clear hK K
      refine WP.ret ?_
      exact Ends.pure (.inr rfl) rfl (Le.of_eq (by simp_all[St.get,W,gG])) (by simp)
     ·
      refine WP.skip ?_
      show WP _ _ _ _ _ _
      refine WP.region (by kernel_rfl) fun K hK=>?_
      simp +decide only[TF,q8,q10,↓reduceIte]
      refine hK _ _ ?_;clear hK K
      show ∃y,_∧Weak _ _ _
      refine⟨⟨k+1,?_⟩,?_,Weak.nil ?_ ?_⟩
      ·exact⟨by omega,by first|(simpa [q1,e0,e0c,hnn,q2,q8,hg,q10] using hI)|(simp_all;done)⟩
      ·dsimp only;omega
      ·simp[St.get,lk,Le.refl,aT hlt hs]
      ·simp[W]
   ·
    have hge:=aN q8
    rw[eP hge] at hI
    simp only[List.all_nil] at hI
    refine WP.exit ?_
    show WP _ _ _ _ _ _
    refine WP.sr [4] (by kernel_rfl) fun K hK=>?_
    simp +decide only[TF,q8,↓reduceIte]
    refine hK _ _ ?_;clear hK K
    refine WP.ret ?_
    exact Ends.pure (.inr rfl) rfl (Le.of_eq (by simp_all[St.get,W,gG])) (by simp)
theorem aaW (n:Int)(h0:-9223372036854775808≤n)(h1:n≤9223372036854775807):ak Pr 95 [.int .i64 n] (.str (Lib.itoa n)):=by
 refine ak.W Tryz.func95 Tryz.ntmps95 ?_
 simp only[ay]
 refine WP.S [0,2] fun _ z=>?_;simp +decide only[TF,↓reduceIte];apply z;clear z
 refine WP.S [0,2] fun _ z=>?_
 simp +decide only[TF,↓reduceIte]
 refine aj.P (RX _ (by assumption) (by assumption)) rfl rfl ?_
 simp +decide only[TF,↓reduceIte]
 apply z;clear z
 apply WP.ret
 exact Ends.P rfl (Le.of_eq (by simp +decide only[St.get,W,↓reduceIte]))
abbrev rC:List Nat:=[0,2,3,4,5,7,10,16,27]
theorem PL (n:Int)(h0:-9223372036854775808≤n)(h1:n≤9223372036854775807):ak Pr 46 [.int .i64 n] (.str (Lib.itoa n)):=by
 refine ak.W Tryz.func46 Tryz.ntmps46 ?_
 simp only[ay]
 iterate 3 first|(refine WP.S rC fun _ z=>?_;simp +decide only[TF,↓reduceIte];apply z;clear z)|apply WP.seq
 refine WP.cond rfl (fun q1=>?_) (fun q1=>?_)
 ·obtain rfl:n=0:=by simpa using q1
  refine WP.S rC fun _ z=>?_;simp +decide only[TF,↓reduceIte];apply z;clear z
  apply WP.ret
  exact Ends.P rfl (Le.of_eq (by simp[St.get,W,agW]))
 have hn:n≠0:=by simpa using q1
 iterate 3 first|(refine WP.S rC fun _ z=>?_;simp +decide only[TF,q1,↓reduceIte];apply z;clear z)|(apply WP.skip;show WP ..)|apply WP.seq
 refine WP.S [0,3,4] fun _ z=>?_;simp +decide only[TF,↓reduceIte];apply z;clear z
 apply WP.block
 refine WP.lp [0] (X:={x:(Int) × (List UInt8) // match x with|(m,out)=>JH n m out}) (fun x=>match x with| ⟨(m,out),_⟩=>[(3,.str out),(4,.int .i64 m)]) (fun x=>match x with| ⟨(m,out),_⟩=>[]) (fun x=>match x with| ⟨(m,out),_⟩=>m.natAbs) (by simp +decide only[W,↓reduceIte];rfl) ?_ ⟨(n,[]),PK n h0 h1 hn⟩ ?_
 rotate_left
 ·exact Weak.nil (by simp[St.get,lk,W,Le.refl]) (by simp[W])
 rintro ⟨⟨m,out⟩,hI⟩
 dsimp only
 simp only[List.cons_append,List.nil_append]
 dsimp only at hI
 iterate 2 first|(refine WP.S rC fun _ z=>?_;simp +decide only[TF,↓reduceIte];apply z;clear z)|apply WP.seq
 refine WP.cond rfl (fun q2=>?_) (fun q2=>?_)
 ·have hm:m≠0:=by simpa using q2
  obtain⟨hl,hJ⟩:=Sv hI hm
  have hdb:=aaV (m.natAbs % 10) (by omega)
  iterate 6 first|(refine WP.S rC fun _ z=>?_;simp +decide only[TF,q2,↓reduceIte];apply z;clear z)|(apply WP.skip;show WP ..)|apply WP.block|apply WP.seq
  refine WP.cond rfl (fun q3=>?_) (fun q3=>?_)
  ·have htm:=tmod_neg m (of_decide_eq_true q3)
   refine WP.R fun _ z=>?_;simp +decide only[TF,q3,htm,↓reduceIte];apply z;clear z;show WP ..
   refine WP.R fun _ z=>?_
   simp +decide only[TF,hdb,bytesOf?,byteOf?,↓reduceIte]
   refine⟨by first|omega|(simp;omega),?_⟩
   apply z;clear z
   show WP ..
   refine WP.R fun _ z=>?_;simp +decide only[TF,↓reduceIte];apply z;clear z
   show ∃y,_∧Weak _ _ _
   refine⟨⟨(m.tdiv 10,UInt8.ofNat (48+m.natAbs % 10)::out),hJ⟩,?_,Weak.nil ?_ ?_⟩
   ·have:=BA m;dsimp only;omega
   ·simp[St.get,lk,Le.refl,NT m hI.1 hI.2.1]
   simp[W]
  have htm:=aaU m (of_decide_eq_false q3)
  apply WP.skip;show WP ..
  refine WP.R fun _ z=>?_
  simp +decide only[TF,hdb,htm,bytesOf?,byteOf?,↓reduceIte]
  refine⟨by first|omega|(simp;omega),?_⟩
  apply z;clear z
  show WP ..
  refine WP.R fun _ z=>?_;simp +decide only[TF,↓reduceIte];apply z;clear z
  show ∃y,_∧Weak _ _ _
  refine⟨⟨(m.tdiv 10,UInt8.ofNat (48+m.natAbs % 10)::out),hJ⟩,?_,Weak.nil ?_ ?_⟩
  ·have:=BA m;dsimp only;omega
  ·simp[St.get,lk,Le.refl,NT m hI.1 hI.2.1]
  simp[W]
 obtain rfl:m=0:=by simpa using q2
 have hE:=Vj hI
 iterate 3 first|(refine WP.S rC fun _ z=>?_;simp +decide only[TF,↓reduceIte];apply z;clear z)|(apply WP.exit;show WP ..)|apply WP.seq
 refine WP.cond rfl (fun q4=>?_) (fun q4=>?_)
 ·have hit:=itoa_neg n (of_decide_eq_true q4)
  refine WP.S rC fun _ z=>?_
  simp +decide only[TF,q4,↓reduceIte]
  refine⟨by have:=hI.2.2.1;first|omega|(simp;omega),?_⟩
  apply z;clear z
  apply WP.ret
  exact Ends.P rfl (Le.of_eq (by rw[hit,hE];simp[St.get,W]))
 have hit:=BD n (of_decide_eq_false q4)
 iterate 2 first|(refine WP.S rC fun _ z=>?_;simp +decide only[TF,q4,↓reduceIte];apply z;clear z)|(apply WP.skip;show WP ..)
 apply WP.ret
 exact Ends.P rfl (Le.of_eq (by rw[hit,hE];simp[St.get,W]))
theorem alf:(((45:UInt8).toNat:Int) == 45)=true:=by decide
theorem gt0 (n:Nat):decide (((n+1:Nat):Int)>0)=true:=decide_eq_true (by omega)
theorem le1 (n:Nat):(1≤n+1)=True:=eq_true (by omega)
theorem alg {s:List UInt8}(h:0<s.length):decide ((s.length:Int)>0)=true:=decide_eq_true (by omega)
theorem adZ (s:List UInt8)(h:0<s.length)(hc:¬s[0]=45):uY s=if gG s true then (if dY s<9223372036854775808 then ((dY s:Int),0) else (0,27)) else (0,4):=by
 match s,h,hc with
 |c::t,_,hc=>simp only[uY];rw[if_neg (by simpa using hc)]
theorem G8:ak Pr 108 [.str []] (Ld []):=by
 have h00:decide (((0:Nat):Int)>0)=false:=by decide
 refine ak.W Tryz.func108 Tryz.ntmps108 ?_
 simp only[ay]
 iterate 9 first|(refine WP.S [0,2,3,4,5,6,19,26] fun _ z=>?_;simp +decide only[TF,↓reduceIte];apply z;clear z)|(apply WP.skip;show WP ..)|refine WP.cF ?_|apply WP.seq
 refine WP.S [0,2,3,4,5,6,19,26] fun _ z=>?_
 simp +decide only[TF,↓reduceIte]
 refine aj.P (wO [] true (by simp)) rfl rfl ?_
 simp +decide only[TF,↓reduceIte]
 apply z;clear z
 refine WP.cond rfl (fun q1=>?_) (fun q1=>?_)
 ·simp only[Bool.not_eq_true'] at q1
  refine WP.S [0,2,3,4,5,6,19,26] fun _ z=>?_;simp +decide only[TF,q1,↓reduceIte];apply z;clear z
  apply WP.ret
  exact Ends.P (d:= .aJ [_,_]) rfl (Le.of_eq (by simp +decide only[St.get,lk,W,Ld,uY,↓reduceIte]))
 simp only[Bool.not_eq_false'] at q1
 exact absurd q1 (by decide)
abbrev fH:List Nat:=[0,2,3,4,5,6,7,8,9,19,26,30,43,48]
theorem G9 (t:List UInt8)(hs:t.length<1099511627776):ak Pr 108 [.str (45::t)] (Ld (45::t)):=by
 have hL:t.length≤140737488355328:=by omega
 refine ak.W Tryz.func108 Tryz.ntmps108 ?_
 simp only[ay]
 iterate 9 first|(refine WP.S fH fun _ z=>?_;simp +decide only[TF,alf,gt0,↓reduceIte];apply z;clear z)|(refine WP.R fun _ z=>?_;simp +decide only[TF,List.take_length,le1,↓reduceIte];apply z;clear z;show WP ..)|refine WP.cT ?_|apply WP.seq
 refine WP.S fH fun _ z=>?_
 simp +decide only[TF,↓reduceIte]
 refine aj.P (wO (t) false (by omega)) rfl rfl ?_
 simp +decide only[TF,↓reduceIte]
 apply z;clear z
 refine WP.cond rfl (fun q1=>?_) (fun q1=>?_)
 ·simp only[Bool.not_eq_true'] at q1
  have hok:gG t false=false:=by simpa using q1
  refine WP.S fH fun _ z=>?_;simp +decide only[TF,q1,↓reduceIte];apply z;clear z
  apply WP.ret
  exact Ends.P (d:= .aJ [_,_]) rfl (Le.of_eq (by simp[St.get,lk,W,Ld,uY,hok]))
 simp only[Bool.not_eq_false'] at q1
 have hok:gG t false=true:=by simpa using q1
 have hall:=NR hok
 iterate 3 first|(refine WP.S fH fun _ z=>?_;simp +decide only[TF,q1,↓reduceIte];apply z;clear z)|(apply WP.skip;show WP ..)|apply WP.seq
 refine WP.S [4,5,6,7,8] fun _ z=>?_;simp +decide only[TF,↓reduceIte];apply z;clear z
 apply WP.block
 refine WP.lp [4,5,6] (X:={k:Nat // k≤t.length∧dY (t.take k)≤9223372036854775808}) (fun x=>match x with| ⟨(k),_⟩=>[(7,.int .i64 (-(dY (t.take k):Int))),(8,.int .i64 k)]) (fun x=>match x with| ⟨(k),_⟩=>[]) (fun x=>match x with| ⟨(k),_⟩=>t.length - k) (by simp +decide only[W,↓reduceIte];rfl) ?_ ⟨(0),⟨Nat.zero_le _,by simp[dY]⟩⟩ ?_
 rotate_left
 ·exact Weak.nil (by simp[St.get,lk,W,Le.refl,dY]) (by simp)
 rintro ⟨k,hk,hI⟩
 dsimp only
 simp only[List.cons_append,List.nil_append]
 iterate 2 first|(refine WP.S fH fun _ z=>?_;simp +decide only[TF,↓reduceIte];apply z;clear z)|apply WP.seq
 refine WP.cond rfl (fun q2=>?_) (fun q2=>?_)
 ·have hlt:=aK q2
  have hg:=j_ hlt
  have hdg:=aaT hall hlt
  have hdc:=Sr _ hdg
  have hd9:=aaS _ hdg
  have hcm:=aaR (dY (t.take k)) _ hI hd9
  have htk:=NQ t k hlt
  have hle:=WZ t (k+1)
  iterate 6 first|(refine WP.S fH fun _ z=>?_;simp +decide only[TF,q2,hg,hdc,hcm,↓reduceIte];apply z;clear z)|(apply WP.skip;show WP ..)|apply WP.block|apply WP.seq
  refine WP.cond rfl (fun q3=>?_) (fun q3=>?_)
  ·have hov:9223372036854775808<dY (t.take k) * 10+(t[k].toNat - 48):=of_decide_eq_true q3
   have hbig:¬dY (t)≤9223372036854775808:=by omega
   refine WP.S fH fun _ z=>?_;simp +decide only[TF,q3,↓reduceIte];apply z;clear z
   apply WP.ret
   exact Ends.P (d:= .aJ [_,_]) rfl (Le.of_eq (by simp[St.get,lk,W,Ld,uY,hok,hbig]))
  have hov:=of_decide_eq_false q3
  have hst:=W9 (dY (t.take k)) _ hd9 (by omega)
  iterate 3 first|(refine WP.R fun _ z=>?_;simp +decide only[TF,q3,hst,↓reduceIte];apply z;clear z;show WP ..)|(refine WP.R fun _ z=>?_;simp +decide only[TF,↓reduceIte];apply z;clear z)|(apply WP.skip;show WP ..)
  show ∃y,_∧Weak _ _ _
  refine⟨⟨k+1,?_⟩,?_,Weak.nil ?_ ?_⟩
  ·exact⟨by omega,by omega⟩
  ·dsimp only;omega
  ·simp[St.get,lk,Le.refl,htk,aT hlt hL]
  simp[W]
 have hge:=aN q2
 obtain rfl:k=t.length:=by omega
 rw[List.take_length] at hI
 iterate 5 first|(refine WP.S fH fun _ z=>?_;simp +decide only[TF,q2,List.take_length,↓reduceIte];apply z;clear z)|(apply WP.exit;show WP ..)|refine WP.cT ?_|apply WP.seq
 apply WP.ret
 exact Ends.P (d:= .aJ [_,_]) rfl (Le.of_eq (by simp[St.get,lk,W,Ld,uY,hok,hI]))
abbrev dN:List Nat:=[0,2,3,4,5,6,7,8,9,19,26,30,43,48,52]
theorem G_ (s:List UInt8)(hs:s.length≤1099511627776)(hne:0<s.length)(hc:¬s[0]=45):ak Pr 108 [.str (s)] (Ld (s)):=by
 have hL:s.length≤140737488355328:=by omega
 have hn45:=ald hc
 have e0:=j_ hne
 have gt0:=alg hne
 have hrn:=adZ s hne hc
 refine ak.W Tryz.func108 Tryz.ntmps108 ?_
 simp only[ay]
 iterate 9 first|(refine WP.S dN fun _ z=>?_;simp +decide only[TF,hn45,e0,gt0,↓reduceIte];apply z;clear z)|(apply WP.skip;show WP ..)|refine WP.cF ?_|apply WP.seq
 refine WP.S dN fun _ z=>?_
 simp +decide only[TF,↓reduceIte]
 refine aj.P (wO (s) true (by omega)) rfl rfl ?_
 simp +decide only[TF,↓reduceIte]
 apply z;clear z
 refine WP.cond rfl (fun q1=>?_) (fun q1=>?_)
 ·simp only[Bool.not_eq_true'] at q1
  have hok:gG s true=false:=by simpa using q1
  refine WP.S dN fun _ z=>?_;simp +decide only[TF,q1,↓reduceIte];apply z;clear z
  apply WP.ret
  exact Ends.P (d:= .aJ [_,_]) rfl (Le.of_eq (by simp[St.get,lk,W,Ld,hrn,hok]))
 simp only[Bool.not_eq_false'] at q1
 have hok:gG s true=true:=by simpa using q1
 have hall:=NR hok
 iterate 3 first|(refine WP.S dN fun _ z=>?_;simp +decide only[TF,q1,↓reduceIte];apply z;clear z)|(apply WP.skip;show WP ..)|apply WP.seq
 refine WP.S [4,5,6,7,8] fun _ z=>?_;simp +decide only[TF,↓reduceIte];apply z;clear z
 apply WP.block
 refine WP.lp [4,5,6] (X:={k:Nat // k≤s.length∧dY (s.take k)≤9223372036854775808}) (fun x=>match x with| ⟨(k),_⟩=>[(7,.int .i64 (-(dY (s.take k):Int))),(8,.int .i64 k)]) (fun x=>match x with| ⟨(k),_⟩=>[]) (fun x=>match x with| ⟨(k),_⟩=>s.length - k) (by simp +decide only[W,↓reduceIte];rfl) ?_ ⟨(0),⟨Nat.zero_le _,by simp[dY]⟩⟩ ?_
 rotate_left
 ·exact Weak.nil (by simp[St.get,lk,W,Le.refl,dY]) (by simp)
 rintro ⟨k,hk,hI⟩
 dsimp only
 simp only[List.cons_append,List.nil_append]
 iterate 2 first|(refine WP.S dN fun _ z=>?_;simp +decide only[TF,↓reduceIte];apply z;clear z)|apply WP.seq
 refine WP.cond rfl (fun q2=>?_) (fun q2=>?_)
 ·have hlt:=aK q2
  have hg:=j_ hlt
  have hdg:=aaT hall hlt
  have hdc:=Sr _ hdg
  have hd9:=aaS _ hdg
  have hcm:=aaR (dY (s.take k)) _ hI hd9
  have htk:=NQ s k hlt
  have hle:=WZ s (k+1)
  iterate 6 first|(refine WP.S dN fun _ z=>?_;simp +decide only[TF,q2,hg,hdc,hcm,↓reduceIte];apply z;clear z)|(apply WP.skip;show WP ..)|apply WP.block|apply WP.seq
  refine WP.cond rfl (fun q3=>?_) (fun q3=>?_)
  ·have hov:9223372036854775808<dY (s.take k) * 10+(s[k].toNat - 48):=of_decide_eq_true q3
   have hbig:¬dY (s)<9223372036854775808:=by omega
   refine WP.S dN fun _ z=>?_;simp +decide only[TF,q3,↓reduceIte];apply z;clear z
   apply WP.ret
   exact Ends.P (d:= .aJ [_,_]) rfl (Le.of_eq (by simp[St.get,lk,W,Ld,hrn,hok,hbig]))
  have hov:=of_decide_eq_false q3
  have hst:=W9 (dY (s.take k)) _ hd9 (by omega)
  iterate 3 first|(refine WP.R fun _ z=>?_;simp +decide only[TF,q3,hst,↓reduceIte];apply z;clear z;show WP ..)|(refine WP.R fun _ z=>?_;simp +decide only[TF,↓reduceIte];apply z;clear z)|(apply WP.skip;show WP ..)
  show ∃y,_∧Weak _ _ _
  refine⟨⟨k+1,?_⟩,?_,Weak.nil ?_ ?_⟩
  ·exact⟨by omega,by omega⟩
  ·dsimp only;omega
  ·simp[St.get,lk,Le.refl,htk,aT hlt hL]
  simp[W]
 have hge:=aN q2
 obtain rfl:k=s.length:=by omega
 rw[List.take_length] at hI
 iterate 7 first|(refine WP.S dN fun _ z=>?_;simp +decide only[TF,q2,List.take_length,↓reduceIte];apply z;clear z)|(apply WP.exit;show WP ..)|(apply WP.skip;show WP ..)|refine WP.cF ?_|apply WP.seq
 refine WP.cond rfl (fun q4=>?_) (fun q4=>?_)
 ·have he:¬dY (s)<9223372036854775808:=by simp at q4;omega
  refine WP.S dN fun _ z=>?_;simp +decide only[TF,q4,↓reduceIte];apply z;clear z
  apply WP.ret
  exact Ends.P (d:= .aJ [_,_]) rfl (Le.of_eq (by first|(simp[St.get,lk,W,bne,Ld,hrn,hok,hbig,hn45,e0,gt0,q1,q2,q4];done)|(simp[St.get,lk,W,Ld,hrn,hok];done)|(simp[St.get,lk,W,bne,Ld,hrn,hok,he,hng];done)|(simp[St.get,lk,W,Ld,hrn,hok];done)|(simp_all[Ld,uY,St.get,lk,W];try omega;done)))
 have he:dY (s)<9223372036854775808:=by simp at q4;omega
 have hng:=agV _ he
 iterate 2 first|(refine WP.S dN fun _ z=>?_;simp +decide only[TF,q4,hng,↓reduceIte];apply z;clear z)|(apply WP.skip;show WP ..)
 apply WP.ret
 exact Ends.P (d:= .aJ [_,_]) rfl (Le.of_eq (by simp[St.get,lk,W,Ld,hrn,hok,he]))
theorem SA (s:List UInt8)(hs:s.length≤1099511627776):ak Pr 108 [.str s] (Ld s):=by
 match s,hs with
 | [],_=>exact G8
 |c::t,hs=>
  by_cases h:c=45
  ·subst h;exact G9 t (by simp at hs;omega)
  ·exact G_ (c::t) hs (by simp) (by simpa using h)
theorem YC (s t:List UInt8)(hs:s.length<4294967281)(ht:t≠[]):ak Pr 49 [.str s,.str t] (.slice 1 false ((mX s t).map fun x=>[.str x]) none):=
 .str2 (dF Tryz.func49 (by kernel_rfl) (by kernel_rfl)) fun M w b c hb hc hI hn hM=>by
  obtain⟨⟨m,hm⟩,_⟩:=hI
  obtain⟨⟨l⟩⟩:=b
  obtain⟨⟨k⟩⟩:=c
  simp only at hb hc
  subst hb
  subst hc
  have h1:1≤(⟨⟨k⟩⟩:ByteArray).size:=List.length_pos_iff.2 ht
  refine (Tryz.strings_Split ⟨⟨l⟩⟩ ⟨⟨k⟩⟩ m w hs hm h1).mono ?_
  rintro e w' ⟨rfl,rfl⟩
  have hlen:=Lib.splitB_all ⟨⟨k⟩⟩ h1 0 _ ⟨⟨l⟩⟩ rfl
  refine⟨_,rfl,(RowKit.Below.refl _ w).alloc (Nat.le_refl _) _,?_⟩
  refine aaj (heap_alloc_new w _) (fun off hm=>by have:=hM _ _ hm;omega) ?_ (by rw[mX,List.length_map];exact hlen.symm)
  rw[mX,List.map_map]
  rfl
theorem LH (s t:List UInt8):ak Pr 208 [.str s,.str t] (.bool (Lib.hasPrefix s t)):=
 .str2 (dF Tryz.func208 (by kernel_rfl) (by kernel_rfl)) fun M w b c hb hc hI hn hM=>by
  refine (Tryz.strings_HasPrefix b c w).mono ?_
  rintro e w' ⟨rfl,rfl⟩
  exact⟨_,rfl,.refl _ _,by rw[hb,hc];exact .bool _⟩
theorem LJ (s t:List UInt8):ak Pr 104 [.str s,.str t] (.aJ [.str (Lib.trimPrefix s t),.bool (Lib.hasPrefix s t)]):=
 .str2 (dF Tryz.func104 (by kernel_rfl) (by kernel_rfl)) fun M w b c hb hc hI hn hM=>by
  refine (Tryz.strings_CutPrefix b c w).mono ?_
  rintro e w' ⟨rfl,rfl⟩
  refine⟨_,rfl,.refl _ _,.aJ rfl fun i d v h1 h2=>?_⟩
  rw[hb,hc] at h2
  match i with
  | 0=>simp at h1 h2;subst h1;subst h2;exact ji _
  | 1=>simp at h1 h2;subst h1;subst h2;exact .bool _
  |i+2=>simp at h1
theorem BF (s:List UInt8)(n:Int)(hs:s.length<4611686018427387904):ak Pr 141 [.str s,.int .u8 n] (.int .i64 (Lib.lastIndexByte ⟨s.toArray⟩ n)):=
 .U3 (dF Tryz.func141 (by kernel_rfl) (by kernel_rfl)) fun M w b hb hI hn hM=>by
  obtain⟨⟨l⟩⟩:=b
  simp only at hb
  subst hb
  refine (Tryz.strings_LastIndexByte ⟨⟨l⟩⟩ n hs w).mono ?_
  rintro e w' ⟨rfl,rfl⟩
  exact⟨_,rfl,.refl _ _,.int _ _⟩
end Go.Proofs
