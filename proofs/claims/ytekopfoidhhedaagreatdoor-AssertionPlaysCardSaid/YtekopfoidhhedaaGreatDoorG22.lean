import Derived.Test.YtekopfoidhhedaaGreatDoorG21
import Derived.Test.YtekopfoidhhedaaGreatDoorG19
import Derived.Test.YtekopfoidhhedaaGreatDoorG13
import Derived.Test.YtekopfoidhhedaaGreatDoorG10
set_option linter.unusedVariables false
set_option linter.unusedSimpArgs false
set_option linter.unnecessarySimpa false
namespace Go.Proofs
open Go Go.Id
structure jO where
 id:List UInt8
 addr:List UInt8
 keys:List Key
 nk:Bool
 f:Int
 u:Int
def jO.cs (p:jO):List D:=[.str p.id,.str p.addr,.slice 6 p.nk (p.keys.map Key.cs) none,.int .i64 p.f,.int .i64 p.u]
def QZ:jO:=⟨[],[],[],true,0,0⟩
def oO:List UInt8:=[104,116,116,112,115,58,47,47]
def uh (s:List UInt8):Bool:=b_ s && oO.isPrefixOf s
def O7 (f u:Int):Bool:=decide (f≥0) && decide (f<u) && decide (u≤1099511627776)
def jr (p:jO):Int:=if bg p.id=false then 5 else if uh p.addr=false then 4 else if O7 p.f p.u=false then 2 else if p.keys.isEmpty=true then 6 else gq p.keys
def sp (c:UInt8):List UInt8→Option (List UInt8 × List UInt8)
 | []=>none
 |b::s=>if b=c then some ([],s) else (sp c s).map fun q=>(b::q.1,q.2)
theorem Z9 {c:UInt8}:∀{s l r:List UInt8},sp c s=some (l,r)→s=l++c::r∧c ∉ l
 | [],l,r,h=>by cases h
 |b::s,l,r,h=>by
  unfold sp at h
  split at h
  ·rename_i hb;cases h;subst hb;simp
  ·rename_i hb
   obtain⟨⟨l',r'⟩,h1,h2⟩:=abR.1 h
   obtain⟨h3,h4⟩:=Z9 h1
   cases h2
   refine⟨by rw[h3];rfl,?_⟩
   simp only[ael,not_or]
   exact⟨fun e=>hb e.symm,h4⟩
theorem ajO {c:UInt8}{r:List UInt8}:∀{l:List UInt8},c ∉ l→sp c (l++c::r)=some (l,r)
 | [],_=>by simp[sp]
 |b::l,h=>by
  simp only[ael,not_or] at h
  rw[abS,sp,if_neg (fun e=>h.1 e.symm),ajO h.2];rfl
theorem ahT {c:UInt8}{s l r:List UInt8}(h:sp c s=some (l,r)):bH c [] s=l::bH c [] r:=by
 obtain⟨rfl,h2⟩:=Z9 h
 rw[yM c l [] _ h2,M_]
 simp
def rmW (w l:List UInt8):Option (List UInt8):=if (w++[32]).isPrefixOf l=true then some (l.drop (w.length+1)) else none
def idW:List UInt8:=[105,100]
def adW:List UInt8:=[97,100,100,114,101,115,115]
def vaW:List UInt8:=[118,97,108,105,100]
def keW:List UInt8:=[107,101,121]
def ak7 (x:List UInt8):Int:=
 if (!((Lib.cut x [32]).2.2) || (xB (Lib.cut x [32]).1).2 == 4 || (xB (Lib.cut x [32]).2.1).2 == 4)=true then 4
 else if ((xB (Lib.cut x [32]).1).2 != 0 || (xB (Lib.cut x [32]).2.1).2 != 0)=true then 27 else 0
def ak8 (x:List UInt8):Int:=(xB (Lib.cut x [32]).1).1
def ak9 (x:List UInt8):Int:=(xB (Lib.cut x [32]).2.1).1
def idE (x:List UInt8):Int:=if x.contains 32=true then 4 else if bg x=true then 0 else 5
def adE (x:List UInt8):Int:=match sO x with|none=>4|some a=>if uh a=true then 0 else 4
def adV (x:List UInt8):List UInt8:=(sO x).getD []
def vaE (x:List UInt8):Int:=if (ak7 x != 0)=true then ak7 x else if O7 (ak8 x) (ak9 x)=true then 0 else 2
def keR (x:List UInt8):Key:=(OH (bH 32 [] x)).1
def Z_ (l:List Key)(x:List UInt8):Int:=if ((OH (bH 32 [] x)).2 != 0)=true then (OH (bH 32 [] x)).2 else gq (l++[keR x])
def woP (n:Nat):List UInt8:=if n=1 then idW else if n=2 then adW else if n=3 then vaW else keW
def stE (n:Nat)(p:jO)(l:List UInt8):Int:=
 match rmW (woP n) l with
 |none=>4
 |some x=>if n=1 then idE x else if n=2 then adE x else if n=3 then vaE x else Z_ p.keys x
def stP (n:Nat)(p:jO)(l:List UInt8):jO:=
 match rmW (woP n) l with
 |none=>p
 |some x=>if n=1 then { p with id:=x } else if n=2 then { p with addr:=adV x } else if n=3 then { p with f:=ak8 x,u:=ak9 x } else { p with keys:=p.keys++[keR x],nk:=false }
def anm (n:Nat)(p:jO):jO × Int × Int:=if n<4 then (QZ,n,4) else if n=4 then (QZ,4,6) else (p,0,0)
def ajP (n:Nat)(p:jO):Jj→jO × Int × Int
 | []=>anm n p
 | [l]=>if l=[] then anm n p else (QZ,n,4)
 |l::m::t=>if stE n p l=0 then ajP (n+1) (stP n p l) (m::t) else (QZ,n,stE n p l)
def pP (s:List UInt8):jO × Int × Int:=if 4096<s.length then (QZ,0,3) else ajP 1 QZ (bH 10 [] s)
theorem ano {l:List Key}{x:List UInt8}:Z_ l x=0↔(OH (bH 32 [] x)).2=0∧gq (l++[keR x])=0:=by
 unfold Z_
 by_cases h:(OH (bH 32 [] x)).2=0
 ·simp[h]
 ·simp[h]
theorem yN {x:List UInt8}:∀(ls:Jj) (n:Int) (XG rs:List Key),lC n XG (ls++[[]])=(rs,0,0)→lC n XG (ls++[x,[]])=if Z_ rs x=0 then (rs++[keR x],0,0) else ([],n+(ls.length:Int)+1,Z_ rs x)
 | [],n,XG,rs,h=>by
  rw[abT,VQ n XG rfl] at h
  cases h
  rw[abT]
  by_cases h1:(OH (bH 32 [] x)).2=0
  ·by_cases h2:gq (XG++[keR x])=0
   ·rw[if_pos (ano.2 ⟨h1,h2⟩),VU n XG (k:=keR x) (Prod.ext rfl h1) h2,VQ _ _ rfl]
   ·have:Z_ XG x=gq (XG++[keR x]):=by unfold Z_;rw[if_neg (by simp[h1])]
    rw[this,if_neg h2,VT n XG (k:=keR x) (Prod.ext rfl h1) h2]
    simp
  ·have:Z_ XG x=(OH (bH 32 [] x)).2:=by unfold Z_;rw[if_pos (by simpa using h1)]
   rw[this,if_neg h1,VR n XG (k:=keR x) (e:=(OH (bH 32 [] x)).2) rfl h1]
   simp
 |l::ls,n,XG,rs,h=>by
  have hm:∃m t,ls++[[]]=m::t:=by cases ls <;> simp
  obtain⟨m,t,hm⟩:=hm
  have hm2:∃m t,ls++[x,[]]=m::t:=by cases ls <;> simp
  obtain⟨m2,t2,hm2⟩:=hm2
  rw[abS,hm] at h
  rw[abS,hm2]
  by_cases h1:(OH (bH 32 [] l)).2=0
  ·by_cases h2:gq (XG++[(OH (bH 32 [] l)).1])=0
   ·rw[VU n XG (k:=(OH (bH 32 [] l)).1) (Prod.ext rfl h1) h2] at h ⊢
    rw[← hm] at h
    rw[← hm2,yN ls (n+1) _ rs h]
    simp only[abN]
    split
    ·rfl
    ·congr 2;push_cast;omega
   ·rw[VT n XG (k:=(OH (bH 32 [] l)).1) (Prod.ext rfl h1) h2] at h
    exact absurd (congrArg (·.2.2) h) h2
  ·rw[VR n XG (k:=(OH (bH 32 [] l)).1) (e:=(OH (bH 32 [] l)).2) rfl h1] at h
   exact absurd (congrArg (·.2.2) h) h1
def Q5 (ls:Jj):List UInt8:=ls.flatMap fun l=>l++[10]
theorem V3:∀ls:Jj,(∀l∈ls,(10:UInt8) ∉ l)→bH 10 [] (Q5 ls)=ls++[[]]
 | [],_=>rfl
 |l::ls,h=>by
  have e:Q5 (l::ls)=l++10::Q5 ls:=by simp[Q5]
  rw[e,ahT (ajO (h l (by simp))),V3 ls fun x hx=>h x (by simp[hx])];rfl
structure Na (ls:Jj) (rs:List Key):Prop where
 no:∀l∈ls,(10:UInt8) ∉ l
 pk:lC 0 [] (ls++[[]])=(rs,0,0)
theorem Na.nil:Na [] []:=⟨by simp,rfl⟩
theorem Na.step {ls:Jj}{rs:List Key}(h:Na ls rs){x:List UInt8}(hx:(10:UInt8) ∉ x)(hl:(Q5 (ls++[x])).length≤4096):
  pK (Q5 (ls++[x]))=if Z_ rs x=0 then (rs++[keR x],0,0) else ([],(ls.length:Int)+1,Z_ rs x):=by
 have hno:∀l∈ls++[x],(10:UInt8) ∉ l:=by
  intro l hl
  rcases List.mem_append.1 hl with hl|hl
  ·exact h.no l hl
  ·rw[ad1.1 hl];exact hx
 rw[aeE hl,V3 _ hno,List.append_assoc]
 show lC 0 [] (ls++[x,[]])=_
 rw[yN ls 0 [] rs h.pk]
 simp
theorem Na.next {ls:Jj}{rs:List Key}(h:Na ls rs){x:List UInt8}(hx:(10:UInt8) ∉ x)(he:Z_ rs x=0):Na (ls++[x]) (rs++[keR x]):=by
 refine⟨?_,?_⟩
 ·intro l hl
  rcases List.mem_append.1 hl with hl|hl
  ·exact h.no l hl
  ·rw[ad1.1 hl];exact hx
 ·rw[List.append_assoc]
  show lC 0 [] (ls++[x,[]])=_
  rw[yN ls 0 [] rs h.pk,if_pos he]
def jO.ok (p:jO):Prop:=p.id.length≤1099511627776∧p.addr.length≤1099511627776∧p.keys.length≤1099511627776∧(p.nk=true→p.keys=[])∧∀k∈p.keys,k.ok
@[simp] theorem aoP {S:Nat→Prop}(p:jO):(∀d∈p.cs,bY S d)↔True:=by
 simp only[iff_true,jO.cs,ael,akg,or_false]
 rintro d (rfl|rfl|rfl|rfl|rfl)
 ·simp
 ·simp
 ·rw[oI];exact⟨(DT _).2 trivial,by simp⟩
 ·simp
 ·simp
theorem mF {s:List UInt8}(h:bg s=true):s.length≤64:=by
 unfold bg at h
 simp only[ait,decide_eq_true_eq] at h
 omega
theorem FW {s:List UInt8}(h:b_ s=true):s.length≤256:=by
 unfold b_ at h
 simp only[ait,decide_eq_true_eq] at h
 omega
theorem len8 {s:List UInt8}:oO.isPrefixOf s=(decide ((s.length:Int)≥8) && s.take 8 == oO):=by
 rw[agZ]
 simp only[List.isPrefixOf_iff_prefix,ait,decide_eq_true_eq,beq_iff_eq]
 constructor
 ·rintro ⟨t,rfl⟩
  refine⟨?_,?_⟩
  ·simp[oO];omega
  ·rw[show (8:Nat)=oO.length from rfl,List.take_left']
   rfl
 ·rintro ⟨_,h⟩
  exact⟨s.drop 8,by rw[← h];exact aki 8 s⟩
theorem Yu (s:List UInt8):uh s=(b_ s && (decide ((s.length:Int)≥8) && s.take 8 == [104,116,116,112,115,58,47,47])):=by unfold uh;rw[len8];rfl
set_option maxRecDepth 10000
set_option maxHeartbeats 4000000
theorem Yv (f u:Int):ay Pr 148 [.agg [.int .i64 f,.int .i64 u]] (.bool (O7 f u)):=by
 refine gK Tryz.func148 Tryz.ntmps148 ?_
 refine aG 1 [1,2] ?_
 refine WP.S [1,2] fun _ z=>?_
 refine ah.take 4 fun J hJ=>?_
 simp +decide only[W,ak,ng,o8,lW,↓reduceIte]
 refine hJ _ _ ?_
 clear hJ J
 refine ah.part 6 rfl (fun q1=>?_) (fun q1=>?_)
 ·skip
  refine ah.take 7 fun J hJ=>?_
  simp +decide only[W,ak,ng,o8,lW,jX,q1,↓reduceIte]
  refine hJ _ _ ?_
  clear hJ J
  refine ah.part 13 rfl (fun q2=>?_) (fun q2=>?_)
  ·skip
   simp +decide only[W,ak,jX,o8,lW,q2,↓reduceIte]
   apply z;clear z
   apply WP.ret
   exact zV3 @O7.eq_def q1 q2
  skip
  simp +decide only[W,ak,q2,↓reduceIte]
  apply z;clear z
  apply WP.ret
  exact zV3 @O7.eq_def q1 q2
 skip
 simp +decide only[W,ak,q1,↓reduceIte]
 apply z;clear z
 apply WP.ret
 exact zV2 @O7.eq_def q1
theorem Yw (f u:Int):ay Pr 125 [.agg [.int .i64 f,.int .i64 u]] (.bool (O7 f u)):=by
 refine gK Tryz.func125 Tryz.ntmps125 ?_
 refine aG 1 [1,2] ?_
 refine WP.S [1,2] fun _ z=>?_
 refine ah.take 4 fun J hJ=>?_
 simp +decide only[W,ak,ng,o8,lW,↓reduceIte]
 refine hJ _ _ ?_
 clear hJ J
 refine ah.part 6 rfl (fun q1=>?_) (fun q1=>?_)
 ·skip
  refine ah.take 7 fun J hJ=>?_
  simp +decide only[W,ak,ng,o8,lW,jX,q1,↓reduceIte]
  refine hJ _ _ ?_
  clear hJ J
  refine ah.part 13 rfl (fun q2=>?_) (fun q2=>?_)
  ·skip
   simp +decide only[W,ak,jX,o8,lW,q2,↓reduceIte]
   apply z;clear z
   apply WP.ret
   exact zV3 @O7.eq_def q1 q2
  skip
  simp +decide only[W,ak,q2,↓reduceIte]
  apply z;clear z
  apply WP.ret
  exact zV3 @O7.eq_def q1 q2
 skip
 simp +decide only[W,ak,q1,↓reduceIte]
 apply z;clear z
 apply WP.ret
 exact zV2 @O7.eq_def q1
theorem Jk (n:Int):ay Pr 90 [.int .i64 n] (.int .i64 (aN n)):=by
 refine gK Tryz.func90 Tryz.ntmps90 ?_
 refine aG 2 [0,2] ?_
 apply WP.ret
 exact zV1 @aN.eq_def
theorem V4 (s:List UInt8)(hs:s.length≤140737488355328):ay Pr 147 [.str s] (.bool (uh s)):=by
 refine ay.W Tryz.func147 Tryz.ntmps147 ?_
 simp only[aT]
 refine aG 1 [0,2] ?_
 refine WP.S [0,2] fun _ z=>?_
 simp +decide only[W,ak,↓reduceIte]
 refine aj.P (Tc _ (by first|assumption|omega)) rfl rfl ?_
 refine ah.take 1 fun J hJ=>?_
 simp +decide only[W,ak,↓reduceIte]
 refine hJ _ _ ?_
 clear hJ J
 refine ah.part 5 rfl (fun q1=>?_) (fun q1=>?_)
 ·skip
  simp +decide only[W,ak,q1,↓reduceIte]
  refine aj.P (O5 _ _) rfl rfl ?_
  simp +decide only[W,ak,↓reduceIte]
  apply z;clear z
  apply WP.ret
  exact Ends.P rfl (Le.of_eq (by first|(simp +decide only[St.get,W,uh,oO,Lib.hasPrefix,q1,↓reduceIte];done)|(simp[St.get,lk,W,bne,uh,oO,Lib.hasPrefix,q1];done)|(simp_all[St.get,lk,W,LN,bne,uh,oO,Lib.hasPrefix];done)|(simp_all[St.get,lk,W,LN,bne,uh,oO,Lib.hasPrefix];intros;first|omega|(rw[agZ];simp;try omega))))
 skip
 simp +decide only[W,ak,q1,↓reduceIte]
 apply z;clear z
 apply WP.ret
 exact Ends.P rfl (Le.of_eq (by first|(simp +decide only[St.get,W,uh,oO,q1,↓reduceIte];done)|(simp[St.get,lk,W,bne,uh,oO,Lib.hasPrefix,q1];done)|(simp_all[St.get,lk,W,LN,bne,uh,oO,Lib.hasPrefix];done)|(simp_all[St.get,lk,W,LN,bne,uh,oO,Lib.hasPrefix];intros;first|omega|(rw[agZ];simp;try omega))))
theorem O8 (s:List UInt8)(hs:s.length≤140737488355328):ay Pr 124 [.str s] (.bool (uh s)):=by
 refine gK Tryz.func124 Tryz.ntmps124 ?_
 refine aG 1 [0,2] ?_
 refine WP.S [0,2] fun _ z=>?_
 simp +decide only[W,ak,↓reduceIte]
 refine aj.P (zW _ (by first|assumption|omega)) rfl rfl ?_
 refine ah.take 1 fun J hJ=>?_
 simp +decide only[W,ak,↓reduceIte]
 refine hJ _ _ ?_
 clear hJ J
 refine ah.part 5 rfl (fun q1=>?_) (fun q1=>?_)
 ·skip
  refine ah.take 5 fun J hJ=>?_
  simp +decide only[W,ak,q1,↓reduceIte]
  refine hJ _ _ ?_
  clear hJ J
  refine ah.part 10 rfl (fun q2=>?_) (fun q2=>?_)
  ·skip
   have hl8:8≤s.length:=by have:=of_decide_eq_true q2;omega
   simp +decide only[W,ak,q2,hl8,↓reduceIte,Int.reduceToNat]
   apply z;clear z
   apply WP.ret
   exact zV3 @Yu q1 q2
  skip
  simp +decide only[W,ak,q2,↓reduceIte]
  apply z;clear z
  apply WP.ret
  exact zV3 @Yu q1 q2
 skip
 simp +decide only[W,ak,q1,↓reduceIte]
 apply z;clear z
 apply WP.ret
 exact zV2 @Yu q1
abbrev kP:List Nat:=[1,2,3,8,13,18]
theorem abL (p:jO)(hp:p.ok):ay Pr 89 [.agg [.str p.id,.str p.addr,.slice 6 p.nk (p.keys.map Key.cs) none,.int .i64 p.f,.int .i64 p.u]] (.int .i64 (jr p)):=by
 have h1:p.id.length≤140737488355328:=by have:=hp.1;omega
 have h2:p.addr.length≤140737488355328:=by have:=hp.2.1;omega
 refine gK Tryz.func89 Tryz.ntmps89 ?_
 refine aG 3 kP ?_
 refine WP.S kP fun _ z=>?_
 simp +decide only[W,ak,pV,qK,nT,↓reduceIte]
 refine aj.P (S_ _ h1) rfl rfl ?_
 simp +decide only[W,ak,↓reduceIte]
 apply z;clear z
 refine WP.cond rfl (fun q1=>?_) (fun q1=>?_)
 ·skip
  refine aJ 1 kP q1 ?_
  apply WP.ret
  exact zV1 @jr.eq_def
 skip
 refine WP.S kP fun _ z=>?_
 simp +decide only[W,ak,tV,qK,nT,q1,↓reduceIte]
 refine aj.P (V4 _ h2) rfl rfl ?_
 simp +decide only[W,ak,↓reduceIte]
 apply z;clear z
 refine WP.cond rfl (fun q2=>?_) (fun q2=>?_)
 ·skip
  refine aJ 1 kP q2 ?_
  apply WP.ret
  exact zV1 @jr.eq_def
 skip
 refine WP.S kP fun _ z=>?_
 simp +decide only[W,ak,lq,yC,u_,q2,↓reduceIte]
 refine aj.P (Yv _ _) rfl rfl ?_
 simp +decide only[W,ak,↓reduceIte]
 apply z;clear z
 refine WP.cond rfl (fun q3=>?_) (fun q3=>?_)
 ·skip
  refine aJ 1 kP q3 ?_
  apply WP.ret
  exact zV1 @jr.eq_def
 skip
 refine aJ 1 kP q3 ?_
 refine WP.cond rfl (fun q4=>?_) (fun q4=>?_)
 ·skip
  have hz:p.keys.isEmpty=true:=by simpa using q4
  refine aJ 1 kP q4 ?_
  apply WP.ret
  exact zV2 @jr.eq_def hz
 skip
 have hz:p.keys.isEmpty=false:=by simpa using q4
 refine aG 1 [] ?_
 refine WP.S kP fun _ z=>?_
 simp +decide only[W,ak,m_,uV,uX,q4,↓reduceIte]
 refine aj.P (QT p.keys p.nk hp.2.2.1 hp.2.2.2.1 hp.2.2.2.2) rfl rfl ?_
 simp +decide only[W,ak,↓reduceIte]
 apply z;clear z
 apply WP.ret
 exact zV2 @jr.eq_def hz
abbrev iP:List Nat:=[1,2,6,10,14,18]
theorem V5 (p:jO)(hp:p.ok):ay Pr 69 [.agg [.str p.id,.str p.addr,.slice 6 p.nk (p.keys.map Key.cs) none,.int .i64 p.f,.int .i64 p.u]] (.int .i64 (jr p)):=by
 have h1:p.id.length≤140737488355328:=by have:=hp.1;omega
 have h2:p.addr.length≤140737488355328:=by have:=hp.2.1;omega
 refine gK Tryz.func69 Tryz.ntmps69 ?_
 refine aG 2 iP ?_
 refine WP.S iP fun _ z=>?_
 simp +decide only[W,ak,pV,qK,nT,↓reduceIte]
 refine aj.P (iI _ h1) rfl rfl ?_
 simp +decide only[W,ak,↓reduceIte]
 apply z;clear z
 refine WP.cond rfl (fun q1=>?_) (fun q1=>?_)
 ·skip
  simp only[adh] at q1
  refine aJ 1 iP q1 ?_
  apply WP.ret
  exact zV2 @jr.eq_def q1
 skip
 simp only[afE] at q1
 refine aG 2 [] ?_
 refine WP.S iP fun _ z=>?_
 simp +decide only[W,ak,tV,qK,nT,q1,↓reduceIte]
 refine aj.P (O8 _ h2) rfl rfl ?_
 simp +decide only[W,ak,↓reduceIte]
 apply z;clear z
 refine WP.cond rfl (fun q2=>?_) (fun q2=>?_)
 ·skip
  simp only[adh] at q2
  refine aJ 1 iP q2 ?_
  apply WP.ret
  exact zV3 @jr.eq_def q1 q2
 skip
 simp only[afE] at q2
 refine aG 2 [] ?_
 refine WP.S iP fun _ z=>?_
 simp +decide only[W,ak,lq,yC,u_,q2,↓reduceIte]
 refine aj.P (Yw _ _) rfl rfl ?_
 simp +decide only[W,ak,↓reduceIte]
 apply z;clear z
 refine WP.cond rfl (fun q3=>?_) (fun q3=>?_)
 ·skip
  simp only[adh] at q3
  refine aJ 1 iP q3 ?_
  apply WP.ret
  exact zV4 @jr.eq_def q1 q2 q3
 skip
 simp only[afE] at q3
 refine aJ 3 iP q3 ?_
 refine WP.cond rfl (fun q4=>?_) (fun q4=>?_)
 ·skip
  have hz:p.keys.isEmpty=true:=by simpa using q4
  refine aJ 1 iP q4 ?_
  apply WP.ret
  exact zV5 @jr.eq_def q1 q2 q3 hz
 skip
 have hz:p.keys.isEmpty=false:=by simpa using q4
 refine aG 1 [] ?_
 refine WP.S iP fun _ z=>?_
 simp +decide only[W,ak,m_,uV,uX,q4,↓reduceIte]
 refine aj.P (QU p.keys p.nk hp.2.2.1 hp.2.2.2.1 hp.2.2.2.2) rfl rfl ?_
 simp +decide only[W,ak,↓reduceIte]
 apply z;clear z
 apply WP.ret
 exact zV5 @jr.eq_def q1 q2 q3 hz
def TA (a b:Int):Int:=IntKind.u64.wrap (BitVec.ofInt IntKind.u64.bits a ^^^ BitVec.ofInt IntKind.u64.bits b).toNat
def aac (h:Int)(c:UInt8):Int:=IntKind.u64.wrap (TA h (IntKind.u64.wrap c.toNat) * 1099511628211)
theorem J5 (a b:Int):IntKind.u64.wrap ((BitVec.ofInt IntKind.u64.bits a ^^^ BitVec.ofInt IntKind.u64.bits b).toNat:Int)=TA a b:=rfl
def h0U:Int:=14695981039346656037
def Jl (s:List UInt8):Int:=s.foldl aac h0U
theorem Nb (s:List UInt8)(k:Nat)(h:k<s.length):Jl (s.take (k+1))=aac (Jl (s.take k)) s[k]:=by
 rw[G8 h,Jl,List.foldl_append];rfl
def V6 (a:Int):Int:=a.fdiv (2 ^ min 33 IntKind.u64.bits)
theorem aad (a:Int):a.fdiv (2 ^ min 33 IntKind.u64.bits)=V6 a:=rfl
def ak_ (h:Int):Int:=
 TA (IntKind.u64.wrap (TA (IntKind.u64.wrap (TA h (V6 h) * 18397679294719823053)) (V6 (IntKind.u64.wrap (TA h (V6 h) * 18397679294719823053))) * 14181476777654086739))
  (V6 (IntKind.u64.wrap (TA (IntKind.u64.wrap (TA h (V6 h) * 18397679294719823053)) (V6 (IntKind.u64.wrap (TA h (V6 h) * 18397679294719823053))) * 14181476777654086739)))
def TB (s:List UInt8):Int:=ak_ (Jl s)
theorem wrap_u64 (n:Int):0≤IntKind.u64.wrap n∧IntKind.u64.wrap n<18446744073709551616:=by
 have:IntKind.u64.wrap n=n % 18446744073709551616:=by rfl
 rw[this]
 exact⟨Int.emod_nonneg _ (by decide),Int.emod_lt_of_pos _ (by decide)⟩
theorem jB {n:Int}(h0:0≤n)(h1:n<18446744073709551616):IntKind.u64.wrap n=n:=by
 have:IntKind.u64.wrap n=n % 18446744073709551616:=by rfl
 rw[this]
 exact Int.emod_eq_of_lt h0 h1
theorem vH (s:List UInt8):0≤TB s∧TB s<18446744073709551616:=wrap_u64 _
abbrev aae:List Nat:=[0,2,3,4,6,7,8]
theorem anp (s:List UInt8)(hs:s.length≤140737488355328):ay Pr 139 [.str s] (.int .u64 (TB s)):=by
 refine gK Tryz.func139 Tryz.ntmps139 ?_
 refine aG 5 aae ?_
 refine WP.lp [0,6] (X:={k:Nat // k≤s.length}) (fun x=>match x with| ⟨(k),_⟩=>[(3,.int .u64 (Jl (s.take k))),(7,.int .i64 k)]) (fun x=>match x with| ⟨(k),_⟩=>[]) (fun x=>match x with| ⟨(k),_⟩=>s.length - k) (by simp +decide only[W,↓reduceIte];rfl) ?_ ⟨(0),ada _⟩ ?_
 rotate_left
 ·exact zZ2 @Jl.eq_def @h0U.eq_def
 rintro ⟨k,hk⟩
 dsimp only
 simp only[abS,abT]
 refine aG 2 aae ?_
 refine WP.cond rfl (fun q1=>?_) (fun q1=>?_)
 ·skip
  have hlt:=aO q1
  have hg:s[k]?=some s[k]:=kU hlt
  have hfn:=Nb s k hlt
  refine oC 6 aae q1 hg @J5 ?_
  show ∃y,_∧Weak _ _ _
  refine⟨⟨k+1,?_⟩,?_,?_⟩
  ·omega
  ·dsimp only;omega
  exact zZ3 hfn @aac.eq_def (aU hlt hs)
 skip
 have hge:=aP q1
 have hte:s.take k=s:=ajr hge
 refine oC 6 aae q1 @J5 @aad ?_
 apply WP.ret
 exact Md @TB.eq_def @ak_.eq_def hte
theorem ahU (s:List UInt8)(hs:s.length≤140737488355328):ay Pr 227 [.str s] (.int .u64 (TB s)):=by
 refine gK Tryz.func227 Tryz.ntmps227 ?_
 refine aG 5 [0,2,3,4,8] ?_
 refine WP.lp [0] (X:={k:Nat // k≤s.length}) (fun x=>match x with| ⟨(k),_⟩=>[(3,.int .u64 (Jl (s.take k))),(4,.int .i64 k)]) (fun x=>match x with| ⟨(k),_⟩=>[]) (fun x=>match x with| ⟨(k),_⟩=>s.length - k) (by simp +decide only[W,↓reduceIte];rfl) ?_ ⟨(0),ada _⟩ ?_
 rotate_left
 ·exact zZ2 @Jl.eq_def @h0U.eq_def
 rintro ⟨k,hk⟩
 dsimp only
 simp only[abS,abT]
 refine aG 2 [0,2,3,4,8] ?_
 refine WP.cond rfl (fun q1=>?_) (fun q1=>?_)
 ·skip
  have hlt:=aO q1
  have hg:s[k]?=some s[k]:=kU hlt
  have hfn:=Nb s k hlt
  refine oC 5 [] q1 hg @J5 ?_
  show ∃y,_∧Weak _ _ _
  refine⟨⟨k+1,?_⟩,?_,?_⟩
  ·omega
  ·dsimp only;omega
  exact zZ3 hfn @aac.eq_def (aU hlt hs)
 skip
 have hge:=aP q1
 have hte:s.take k=s:=ajr hge
 refine oC 6 [0,2,3,4,8] q1 @J5 @aad ?_
 apply WP.ret
 exact Md @TB.eq_def @ak_.eq_def hte
def JL (i:Nat):UInt8:=UInt8.ofNat (if i<10 then 48+i else 87+i)
def hdN (n:Int)(i:Nat):Nat:=((n / 16 ^ i) % 16).toNat
def yO (n:Int):Nat→List UInt8
 | 0=>[]
 |k+1=>JL (hdN n k)::yO n k
def yP (n:Int):List UInt8:=yO n 16
theorem vI (n:Int):∀k,(yO n k).length=k
 | 0=>rfl
 |k+1=>by simp[yO,vI n k]
theorem TD (n:Int)(i:Nat):hdN n i<16:=by unfold hdN;omega
theorem TG (n:Int)(i:Nat):((hdN n i:Nat):Int)=(n / 16 ^ i) % 16:=by unfold hdN;omega
def mO (n:Int)(k:Nat):List D:=List.replicate (16 - k) (.int .u8 0)++(yO n k).map fun c=> .int .u8 c.toNat
theorem Yx (n:Int){k:Nat}(h:k≤16):(mO n k).length=16:=by simp[mO,vI];omega
theorem Yy (n:Int){k:Nat}(h:k<16):(mO n k).take (15 - k)++D.int .u8 (JL (hdN n k)).toNat::(mO n k).drop (15 - k+1)=mO n (k+1):=by
 have e:16 - k=(15 - k)+1:=by omega
 have eA:mO n k=List.replicate (15 - k) (D.int .u8 0)++(D.int .u8 0::(yO n k).map fun c=> .int .u8 c.toNat):=by
  rw[mO,e,List.replicate_succ'];simp
 have eB:mO n (k+1)=List.replicate (15 - k) (D.int .u8 0)++(D.int .u8 (JL (hdN n k)).toNat::(yO n k).map fun c=> .int .u8 c.toNat):=by
  rw[mO,show 16 - (k+1)=15 - k by omega];rfl
 rw[eA,eB,List.take_left' (by simp),List.drop_append,amX (by simp)]
 simp
theorem Yz (n:Int):mO n 16=(yP n).map fun c=> .int .u8 c.toNat:=by simp[mO,yP]
@[simp] theorem ak' {S:Nat→Prop}(n:Int)(k:Nat):(∀d∈mO n k,bY S d)↔True:=by
 simp only[iff_true,mO,List.mem_append,List.mem_map,List.mem_replicate]
 rintro d (⟨_,rfl⟩ | ⟨x,_,rfl⟩) <;> simp
theorem aaf:∀i,i<16→adU[i]?=some ((JL i).toNat:Int):=by decide
theorem aeG {i:Nat}(h:i<16):(JF.drop i).head?=some (.int .u8 (JL i).toNat):=by
 rw[List.head?_drop,JF,adw,aaf i h];rfl
theorem V7:IntKind.u64.bits=64:=rfl
theorem uj {a:Int}(h0:0≤a)(h1:a<18446744073709551616):(BitVec.ofInt IntKind.u64.bits a).toNat=a.toNat:=by
 rw[BitVec.toNat_ofInt,V7]
 congr 1
 exact Int.emod_eq_of_lt h0 h1
theorem ala {a:Int}(h0:0≤a)(h1:a<18446744073709551616):IntKind.u64.wrap ((BitVec.ofInt IntKind.u64.bits a &&& BitVec.ofInt IntKind.u64.bits 15).toNat:Int)=a % 16:=by
 have e:(BitVec.ofInt IntKind.u64.bits a &&& BitVec.ofInt IntKind.u64.bits 15).toNat=a.toNat % 16:=by
  rw[BitVec.toNat_and,uj h0 h1,uj (by decide) (by decide)]
  exact Nat.and_two_pow_sub_one_eq_mod a.toNat 4
 rw[e,jB (by omega) (by omega)]
 omega
theorem V8 (k:Nat):(0:Int)<16 ^ k:=Int.pow_pos (by decide)
theorem TI {n:Int}(h0:0≤n)(h1:n<18446744073709551616)(k:Nat):0≤n / 16 ^ k∧n / 16 ^ k<18446744073709551616:=by
 have:=V8 k
 refine⟨Int.ediv_nonneg h0 (by omega),Int.lt_of_le_of_lt (Int.ediv_le_self _ h0) h1⟩
theorem ahV {n:Int}(h0:0≤n){k:Nat}(hk:k<16):n.fdiv (2 ^ (min (4 * k) IntKind.u64.bits))=n / 16 ^ k:=by
 rw[V7,amv (by omega),Int.pow_mul,Int.fdiv_eq_ediv_of_nonneg _ (by have:=V8 k;exact Int.le_of_lt this)]
 rfl
theorem ahW {n:Int}(h0:0≤n)(h1:n<18446744073709551616){k:Nat}(hk:k<16):
  IntKind.u64.wrap ((BitVec.ofInt IntKind.u64.bits (n.fdiv (2 ^ (min (4 * k) IntKind.u64.bits))) &&& BitVec.ofInt IntKind.u64.bits 15).toNat:Int)=((hdN n k:Nat):Int):=by
 rw[ahV h0 hk]
 obtain⟨a,b⟩:=TI h0 h1 k
 rw[ala a b,TG]
theorem ahX {n:Int}(h0:0≤n)(k:Nat):(n / 16 ^ k).tmod 16=((hdN n k:Nat):Int):=by
 have:=V8 k
 rw[amg (Int.ediv_nonneg h0 (by omega)),TG]
theorem ahY {n:Int}(h0:0≤n)(h1:n<18446744073709551616)(k:Nat):IntKind.u64.wrap ((n / 16 ^ k).tdiv 16)=n / 16 ^ (k+1):=by
 have hp:=V8 k
 have e:(n / 16 ^ k).tdiv 16=n / 16 ^ (k+1):=by
  rw[Int.tdiv_eq_ediv_of_nonneg (Int.ediv_nonneg h0 (by omega)),Int.pow_succ,Int.ediv_ediv_of_nonneg (by omega)]
 rw[e]
 obtain⟨a,b⟩:=TI h0 h1 (k+1)
 exact jB a b
def apE:List UInt8:=[48,49,50,51,52,53,54,55,56,57,97,98,99,100,101,102]
theorem abM:∀i,i<16→(apE.take (i+1)).drop i=[JL i]:=by decide
def hv (c:UInt8):Int:=if 48≤c.toNat∧c.toNat≤57 then c.toNat - 48 else if 97≤c.toNat∧c.toNat≤102 then c.toNat - 87 else -1
def ixD (c:UInt8):Nat→Int
 | 0=>-1
 |k+1=>if JL k=c then (k:Int) else ixD c k
theorem ahZ:∀n,n<256→hv (UInt8.ofNat n)=ixD (UInt8.ofNat n) 16:=by decide +kernel
theorem anq (c:UInt8):ixD c 16=hv c:=by
 have:=ahZ c.toNat c.toNat_lt
 rw[UInt8.ofNat_toNat] at this
 exact this.symm
theorem TJ (c:UInt8):-1≤hv c∧hv c<16:=by unfold hv;split <;> (try split) <;> omega
theorem alc:∀i,i<16→hv (JL i)=(i:Int):=by decide
def rhF (n:Int):List UInt8→Option Int
 | []=>some n
 |c::s=>if hv c<0 then none else rhF (IntKind.u64.wrap (n * 16+hv c)) s
def UN (s:List UInt8):Int × Int:=if s.length=16 then (match rhF 0 s with|some n=>(n,0)|none=>(0,4)) else (0,4)
def BQ (s:List UInt8):D:= .aQ [.int .u64 (UN s).1,.int .i64 (UN s).2]
theorem aeH {s:List UInt8}(h:s.length≠16):UN s=(0,4):=by unfold UN;rw[if_neg h]
theorem yQ {s:List UInt8}(h:rhF 0 s=none):UN s=(0,4):=by unfold UN;rw[h];split <;> rfl
theorem Nc {s:List UInt8}{n:Int}(hl:s.length=16)(h:rhF 0 s=some n):UN s=(n,0):=by unfold UN;rw[if_pos hl,h]
theorem ald {n v:Int}(h0:0≤v)(h1:v<16):IntKind.u64.wrap ((BitVec.ofInt IntKind.u64.bits (IntKind.u64.wrap (n * 2 ^ (min 4 IntKind.u64.bits))) ||| BitVec.ofInt IntKind.u64.bits (IntKind.u64.wrap v)).toNat:Int)=IntKind.u64.wrap (n * 16+v):=by
 have hw:∀m:Int,IntKind.u64.wrap m=m % 18446744073709551616:=fun m=>rfl
 have e16:n * 2 ^ (min 4 IntKind.u64.bits)=n * 16:=rfl
 rw[e16,jB (n:=v) h0 (by omega)]
 obtain⟨a,b⟩:=wrap_u64 (n * 16)
 have hx:∃x:Nat,x<1152921504606846976∧(IntKind.u64.wrap (n * 16)).toNat=x <<< 4:=by
  refine⟨(n % 1152921504606846976).toNat,by omega,?_⟩
  rw[Nat.shiftLeft_eq,hw]
  omega
 obtain⟨x,hx1,hx2⟩:=hx
 have e:(BitVec.ofInt IntKind.u64.bits (IntKind.u64.wrap (n * 16)) ||| BitVec.ofInt IntKind.u64.bits v).toNat=x <<< 4+v.toNat:=by
  rw[BitVec.toNat_or,uj a b,uj h0 (by omega),hx2]
  exact (Nat.shiftLeft_add_eq_or_of_lt (by omega) x).symm
 rw[e]
 have e2:((x <<< 4+v.toNat:Nat):Int)=IntKind.u64.wrap (n * 16)+v:=by
  rw[← hx2];omega
 rw[e2,jB (by omega) (by
  have:(IntKind.u64.wrap (n * 16)).toNat=x <<< 4:=hx2
  rw[Nat.shiftLeft_eq] at this
  omega),hw,hw]
 omega
theorem aag {n:Int}(h0:0≤n)(h1:n<18446744073709551616):∀k,k≤16→rhF (n / 16 ^ k) (yO n k)=some n
 | 0,_=>by simp[yO,rhF]
 |k+1,hk=>by
  have hd:=alc _ (TD n k)
  rw[yO,rhF,hd,if_neg (by omega)]
  have e:n / 16 ^ (k+1) * 16+((hdN n k:Nat):Int)=n / 16 ^ k:=by
   rw[TG,Int.pow_succ,← Int.ediv_ediv_of_nonneg (by have:=V8 k;omega)]
   omega
  rw[e]
  obtain⟨a,b⟩:=TI h0 h1 k
  rw[jB a b]
  exact aag h0 h1 k (by omega)
theorem ah0 {n:Int}(h0:0≤n)(h1:n<18446744073709551616):UN (yP n)=(n,0):=by
 refine Nc (vI n 16) ?_
 have:=aag h0 h1 16 (ag4 _)
 rw[show n / 16 ^ 16=0 from Int.ediv_eq_zero_of_lt h0 (by omega)] at this
 exact this
theorem abO:JF.take 16=JF:=rfl
theorem aeI {k:Nat}(h:k<16):JF[k]?=some (.int .u8 (JL k).toNat):=by rw[JF,adw,aaf k h];rfl
theorem ajQ (a b:UInt8):((a.toNat:Int) == (b.toNat:Int))=true↔a=b:=by
 simp only[beq_iff_eq]
 exact⟨fun e=>aoA.1 (by omega),fun e=>by rw[e]⟩
theorem anr {a b:UInt8}(h:((a.toNat:Int) == (b.toNat:Int))=false):¬a=b:=fun e=>by rw[(ajQ a b).2 e] at h;cases h
theorem ah1 {k:Nat}(h:k<16):List.drop k (List.take (k+1) [(48:UInt8),49,50,51,52,53,54,55,56,57,97,98,99,100,101,102])=[JL k]:=abM k h
theorem sub48 {c:UInt8}(h0:48≤c.toNat)(h1:c.toNat≤57):hv c=c.toNat - 48∧IntKind.u64.wrap (IntKind.u8.wrap ((c.toNat:Int) - 48))=hv c:=by
 have e:hv c=c.toNat - 48:=by unfold hv;rw[if_pos ⟨h0,h1⟩]
 have e8:IntKind.u8.wrap ((c.toNat:Int) - 48)=((c.toNat:Int) - 48) % 256:=rfl
 rw[e,e8,Int.emod_eq_of_lt (by omega) (by omega),jB (by omega) (by omega)]
 exact⟨rfl,rfl⟩
theorem ajR {c:UInt8}(h0:97≤c.toNat)(h1:c.toNat≤102):hv c=c.toNat - 87∧IntKind.u64.wrap (IntKind.u64.wrap (IntKind.u8.wrap ((c.toNat:Int) - 97))+10)=hv c:=by
 have e:hv c=c.toNat - 87:=by unfold hv;rw[if_neg (by omega),if_pos ⟨h0,h1⟩]
 have e8:IntKind.u8.wrap ((c.toNat:Int) - 97)=((c.toNat:Int) - 97) % 256:=rfl
 rw[e,e8,Int.emod_eq_of_lt (by omega) (by omega),jB (n:=(c.toNat:Int) - 97) (by omega) (by omega),jB (by omega) (by omega)]
 exact⟨rfl,by omega⟩
theorem FX (a b:Int):IntKind.u64.wrap (IntKind.u64.wrap a+b)=IntKind.u64.wrap (a+b):=by
 have hw:∀m:Int,IntKind.u64.wrap m=m % 18446744073709551616:=fun m=>rfl
 rw[hw,hw,hw,Int.emod_add_emod]
@[simp] theorem ant {S:Nat→Prop}:(∀d∈JF,bY S d)↔True:=by
 simp only[iff_true,JF,List.mem_map]
 rintro d ⟨x,_,rfl⟩
 exact .int _ _
@[simp] theorem anu {S:Nat→Prop}(s:List UInt8):bY S (BQ s)↔True:=by simp[BQ]
theorem anv (n:Int)(h0:0≤n)(h1:n<18446744073709551616):ay Pr 138 [.int .u64 n] (.str (yP n)):=by
 refine gK Tryz.func138 Tryz.ntmps138 ?_
 refine WP.sr [0] (by kernel_rfl) fun K hK=>?_
 simp +decide only[W,ak,↓reduceIte]
 refine hK _ _ ?_
 clear hK K
 refine WP.sr [0,3] (by kernel_rfl) fun K hK=>?_
 simp +decide only[W,ak,yH,↓reduceIte]
 refine hK _ _ ?_
 clear hK K
 refine WP.seq ?_
 refine WP.sr [0,3,5] (by kernel_rfl) fun K hK=>?_
 simp +decide only[W,ak,↓reduceIte]
 refine hK _ _ ?_
 clear hK K
 refine WP.block ?_
 refine WP.lp [0,3] (X:={k:Nat // k≤16}) (fun x=>match x with| ⟨(k),_⟩=>[(5,.int .i64 k)]) (fun x=>match x with| ⟨(k),_⟩=>[(0,.box 226 (mO n k))]) (fun x=>match x with| ⟨(k),_⟩=>16 - k) (by simp +decide only[W,↓reduceIte];rfl) ?_ ⟨(0),ada _⟩ ?_
 rotate_left
 ·exact Weak.store (by simp[St.get,lk,W,Le.refl,W]) (by simp[lk,mO,yO,List.replicate]) (by simp[lk]) (by simp[aB,lk]) (by simp[lk])
 rintro ⟨k,hk⟩
 dsimp only
 simp only[abS,abT]
 refine WP.sr [0,3,5,6] (by kernel_rfl) fun K hK=>?_
 simp +decide only[W,ak,↓reduceIte]
 refine hK _ _ ?_
 clear hK K
 refine WP.seq ?_
 refine WP.cond (b:=_) rfl (fun q1=>?_) (fun q1=>?_)
 ·skip
  have hlt:k<16:=by have:=of_decide_eq_true q1;omega
  have hw1:IntKind.wrap .i64 (15 - (k:Int))=((15 - k:Nat):Int):=by rw[wrap_i64 (by omega) (by omega)];omega
  have hw2:IntKind.wrap .i64 (4 * (k:Int))=((4 * k:Nat):Int):=by rw[wrap_i64 (by omega) (by omega)];omega
  have hda:=ahW h0 h1 hlt
  have hdl:=TD n k
  have hdh:=aeG hdl
  have hcl:=Yx n hk
  have hpu:=Yy n hlt
  have h15:15 - k<16:=by omega
  have h16:15 - k+1≤16:=by omega
  refine aG 3 [] ?_
  refine WP.sr [0,3,4,5] (by kernel_rfl) fun K hK=>?_
  simp +decide only[W,ak,q1,↓reduceIte]
  refine hK _ _ ?_
  clear hK K
  refine WP.region (by kernel_rfl) fun K hK=>?_
  simp +decide only[W,ak,wQ,S9,LU,hw1,hw2,hda,hdl,hdh,hcl,h15,h16,aos,Int.natCast_nonneg,↓reduceIte]
  refine hK _ _ ?_
  clear hK K
  show WP _ _ _ _ _ _
  refine WP.region (by kernel_rfl) fun K hK=>?_
  simp +decide only[W,ak,↓reduceIte]
  refine hK _ _ ?_
  clear hK K
  show ∃y,_∧Weak _ _ _
  refine⟨⟨k+1,?_⟩,?_,?_⟩
  ·omega
  ·dsimp only;omega
  ·exact Weak.store (by simp[St.get,lk,Le.refl,aU hlt (by decide)]) (by simp[lk];simpa using hpu) (by simp[lk]) (by simp[aB,lk]) (by simp[lk])
 ·skip
  have aeJ:k=16:=by have:=of_decide_eq_false q1;omega
  subst aeJ
  refine aG 2 [] ?_
  refine WP.akM (s:=yP n) (b:=0) (T:=226) (by kernel_rfl) rfl rfl rfl rfl rfl rfl rfl wQ qW pW uZ rfl (by simp[lk,Yz]) (vI n 16) fun K hK=>?_
  ·skip
   simp +decide only[W,ak,↓reduceIte]
   refine hK _ _ ?_
   clear hK K
   show WP _ _ _ _ _ _
   refine WP.ret ?_
   exact Ends.pure (.inr rfl) rfl (Le.of_eq (by first|(simp +decide only[St.get,lk,W,↓reduceIte];done)|(simp[St.get,lk,W,bne,q1];done)|(simp_all[St.get,lk,W,LN,bne];done)|(simp_all[St.get,lk,W,LN,bne];intros;first|omega|(rw[agZ];simp;try omega)))) (by simp)
abbrev Ea:List Nat:=[0,2,3,4,5,7]
theorem ah2 (n:Int)(h0:0≤n)(h1:n<18446744073709551616):ay Pr 226 [.int .u64 n] (.str (yP n)):=by
 refine ay.W Tryz.func226 Tryz.ntmps226 ?_
 simp only[aT]
 refine aG 5 Ea ?_
 refine WP.lp [] (X:={k:Nat // k≤16}) (fun x=>match x with| ⟨(k),_⟩=>[(0,.int .u64 (n / 16 ^ k)),(3,.str (yO n k)),(4,.int .i64 k)]) (fun x=>match x with| ⟨(k),_⟩=>[]) (fun x=>match x with| ⟨(k),_⟩=>16 - k) (by simp +decide only[W,↓reduceIte];rfl) ?_ ⟨(0),ada _⟩ ?_
 rotate_left
 ·exact Weak.nil (by simp[St.get,lk,W,Le.refl,yO,W]) (by simp[W])
 rintro ⟨k,hk⟩
 dsimp only
 simp only[abS,abT]
 refine aG 2 Ea ?_
 refine WP.cond rfl (fun q1=>?_) (fun q1=>?_)
 ·skip
  have hlt:k<16:=by have:=of_decide_eq_true q1;omega
  have hre:=ahX h0 k
  have hqo:=ahY h0 h1 k
  have hdl:=TD n k
  have hp1:IntKind.u64.wrap (((hdN n k:Nat):Int)+1)=((hdN n k+1:Nat):Int):=by rw[jB (by omega) (by omega)];omega
  have hds:List.drop (hdN n k) ((48:UInt8)::List.take (hdN n k) [49,50,51,52,53,54,55,56,57,97,98,99,100,101,102])=[JL (hdN n k)]:=ah1 hdl
  have hb1:hdN n k≤hdN n k+1:=by omega
  have hb2:hdN n k+1≤16:=by omega
  have hle:=vI n k
  refine jd 4 Ea q1 hre ?_
  refine WP.S Ea fun _ z=>?_
  simp +decide only[W,ak,hp1,hds,hb1,hb2,Int.natCast_nonneg,↓reduceIte]
  refine⟨by simp only[hle];omega,?_⟩
  apply z;clear z
  refine aJ 2 [] hqo ?_
  show ∃y,_∧Weak _ _ _
  refine⟨⟨k+1,?_⟩,?_,?_⟩
  ·omega
  ·dsimp only;omega
  exact Weak.nil (by simp[St.get,lk,Le.refl,yO,aU hlt (by decide)]) (by simp[W])
 skip
 have aeJ:k=16:=by have:=of_decide_eq_false q1;omega
 subst aeJ
 refine aG 2 Ea ?_
 apply WP.ret
 exact Ends.P rfl (Le.of_eq (by first|(simp +decide only[St.get,W,yP,↓reduceIte];done)|(simp[St.get,lk,W,bne,yP,q1];done)|(simp_all[St.get,lk,W,LN,bne,yP];done)|(simp_all[St.get,lk,W,LN,bne,yP];intros;first|omega|(rw[agZ];simp;try omega))))
abbrev kQ:List Nat:=[0,2,3,4,5,6,7,8,11,13,14,15,17,18,19,26,30]
theorem abP (s:List UInt8)(hs:s.length≤140737488355328):ay Pr 142 [.str s] (BQ s):=by
 refine gK Tryz.func142 Tryz.ntmps142 ?_
 refine aG 3 kQ ?_
 refine WP.cond rfl (fun q1=>?_) (fun q1=>?_)
 ·skip
  have hR:=aeH (s:=s) (by intro e;have:=q1;simp[e] at this)
  refine aJ 1 kQ q1 ?_
  apply WP.ret
  exact zX2 @BQ.eq_def hR
 skip
 have ale:s.length=16:=by have:=q1;simp at this;omega
 refine aJ 5 kQ q1 ?_
 refine WP.lp [0,13] (X:={x:(Nat) × (Int) // match x with|(i,a)=>i≤s.length∧rhF 0 s=rhF a (s.drop i)}) (fun x=>match x with| ⟨(i,a),_⟩=>[(4,.int .u64 a),(14,.int .i64 i)]) (fun x=>match x with| ⟨(i,a),_⟩=>[]) (fun x=>match x with| ⟨(i,a),_⟩=>s.length - i) (by simp +decide only[W,↓reduceIte];rfl) ?_ ⟨(0,0),⟨ada _,rfl⟩⟩ ?_
 rotate_left
 ·exact OC
 rintro ⟨⟨i,a⟩,⟨hi,hI⟩⟩
 dsimp only
 simp only[abS,abT]
 refine aG 2 kQ ?_
 refine WP.cond rfl (fun q2=>?_) (fun q2=>?_)
 ·skip
  have hlt:=aO q2
  have hg:s[i]?=some s[i]:=kU hlt
  rw[bZ hlt,rhF] at hI
  refine jd 8 kQ q2 @abO ?_
  refine WP.lp [0,4,5,13,14,17] (X:={k:Nat // k≤16}) (fun x=>match x with| ⟨(k),_⟩=>[(6,.int .i64 (ixD s[i] k)),(18,.int .i64 k)]) (fun x=>match x with| ⟨(k),_⟩=>[]) (fun x=>match x with| ⟨(k),_⟩=>16 - k) (by simp +decide only[W,↓reduceIte];rfl) ?_ ⟨(0),ada _⟩ ?_
  rotate_left
  ·exact Weak.nil (by simp[St.get,lk,W,Le.refl,ixD]) (by simp[W])
  rintro ⟨k,hk⟩
  dsimp only
  simp only[abS,abT]
  refine aG 2 kQ ?_
  refine WP.cond rfl (fun q3=>?_) (fun q3=>?_)
  ·skip
   have hlt2:k<16:=by have:=of_decide_eq_true q3;omega
   have hdk:=aeI hlt2
   refine CO 5 kQ hg q3 hlt2 hdk ?_
   refine WP.cond rfl (fun q4=>?_) (fun q4=>?_)
   ·skip
    have hx:=(ajQ _ _).1 q4
    refine aJ 2 [] hx ?_
    show ∃y,_∧Weak _ _ _
    refine⟨⟨k+1,?_⟩,?_,?_⟩
    ·omega
    ·dsimp only;omega
    exact Weak.nil (by simp[St.get,lk,Le.refl,ixD,hx,aU hlt2 (by decide)]) (by simp[W])
   skip
   have hx:=anr q4
   refine aJ 2 [] q4 ?_
   show ∃y,_∧Weak _ _ _
   refine⟨⟨k+1,?_⟩,?_,?_⟩
   ·omega
   ·dsimp only;omega
   exact Weak.nil (by simp[St.get,lk,Le.refl,ixD,hx,aU hlt2 (by decide)]) (by simp[W])
  skip
  have aeJ:k=16:=by have:=of_decide_eq_false q3;omega
  subst aeJ
  have hvx:=anq s[i]
  refine aJ 3 kQ hvx ?_
  refine WP.cond rfl (fun q5=>?_) (fun q5=>?_)
  ·skip
   have hR:=yQ (s:=s) (by rw[hI,if_pos (of_decide_eq_true q5)])
   refine aJ 1 kQ q5 ?_
   apply WP.ret
   exact zX2 @BQ.eq_def hR
  skip
  have hn0:¬hv s[i]<0:=by exact of_decide_eq_false q5
  have hvr:=(TJ s[i]).2
  rw[if_neg hn0] at hI
  have hor:=ald (n:=a) (v:=hv s[i]) (by omega) hvr
  refine jd 3 [] q5 hor ?_
  show ∃y,_∧Weak _ _ _
  refine⟨⟨(i+1,IntKind.u64.wrap (a * 16+hv s[i])),?_⟩,?_,?_⟩
  ·exact⟨by omega,hI⟩
  ·dsimp only;omega
  exact zZ1 (aU hlt (show s.length≤140737488355328 by omega))
 skip
 have hge:=aP q2
 rw[dR hge] at hI
 have hR:=Nc ale hI
 refine aJ 2 kQ q2 ?_
 apply WP.ret
 exact zX2 @BQ.eq_def hR
def TK (s:List UInt8):List UInt8:=yP (TB s)
theorem yR (s:List UInt8):(TK s).length=16:=vI _ 16
def Eb (k:List UInt8):List UInt8:=Lib.itoa (k.length:Int)++[58]++k
def yS (k s:List UInt8):List UInt8:=TK (Eb k++TK (Eb k++s))
theorem aeK (n:Nat):Lib.itoa (n:Int)=Lib.decDigits n:=by unfold Lib.itoa;rw[if_neg (by omega)];simp
theorem aeL (k:List UInt8):Eb k=Lib.decDigits k.length++[58]++k:=by rw[Eb,aeK]
theorem V9 {k:List UInt8}(h:k.length≤1099511627776):(Eb k).length≤1099511627900:=by
 have:=D9 (n:=(k.length:Int)) ⟨by omega,by omega⟩
 simp only[Eb,abf,abN,acS]
 omega
theorem abQ:∀n,n<10→List.drop n ((48:UInt8)::List.take n [49,50,51,52,53,54,55,56,57])=[UInt8.ofNat (48+n)]:=by decide
theorem aah {n:Nat}(h:n<10):Lib.decDigits n=[UInt8.ofNat (48+n)]:=Lib.decDigits_one h
theorem ah3 {n:Nat}(h:10≤n):Lib.decDigits n=Lib.decDigits (n / 10)++Lib.decDigits (n % 10):=by
 rw[Lib.decDigits,dif_neg (by omega),aah (n:=n % 10) (by omega)]
theorem aai:∀(k n:Nat),n<10 ^ k→Lib.nDigits n≤k+1
 | 0,n,h=>by
  have:n=0:=by simp at h;exact h
  subst this
  rw[Lib.nDigits,dif_pos (by omega)]
  omega
 |k+1,n,h=>by
  rw[Lib.nDigits]
  split
  ·omega
  ·have:=aai k (n / 10) (by rw[Nat.pow_succ] at h;omega)
   omega
theorem TM (n:Nat)(h:n<9223372036854775808):(Lib.decDigits n).length≤20:=by
 rw[Lib.decDigits_length]
 exact aai 19 n (by omega)
abbrev fB:List Nat:=[0,2,3,4,5,6,10,12,18,28]
theorem V_ (s:List UInt8)(hs:s.length≤140737488355328):ay Pr 185 [.str s] (BQ s):=by
 refine gK Tryz.func185 Tryz.ntmps185 ?_
 refine aG 3 fB ?_
 refine WP.cond rfl (fun q1=>?_) (fun q1=>?_)
 ·skip
  have hR:=aeH (s:=s) (by intro e;have:=q1;simp[e] at this)
  refine aJ 1 fB q1 ?_
  apply WP.ret
  exact zX2 @BQ.eq_def hR
 skip
 have ale:s.length=16:=by have:=q1;simp at this;omega
 refine aJ 5 fB q1 ?_
 refine WP.lp [0] (X:={x:(Nat) × (Int) // match x with|(i,a)=>i≤16∧rhF 0 s=rhF a (s.drop i)}) (fun x=>match x with| ⟨(i,a),_⟩=>[(4,.int .u64 a),(5,.int .i64 i)]) (fun x=>match x with| ⟨(i,a),_⟩=>[]) (fun x=>match x with| ⟨(i,a),_⟩=>16 - i) (by simp +decide only[W,↓reduceIte];rfl) ?_ ⟨(0,0),⟨ada _,rfl⟩⟩ ?_
 rotate_left
 ·exact OC
 rintro ⟨⟨i,a⟩,⟨hi,hI⟩⟩
 dsimp only
 simp only[abS,abT]
 refine aG 2 fB ?_
 refine WP.cond rfl (fun q2=>?_) (fun q2=>?_)
 ·skip
  have hlt:i<16:=by have:=of_decide_eq_true q2;omega
  have hlt2:i<s.length:=by omega
  have hg:s[i]?=some s[i]:=kU hlt2
  rw[bZ hlt2,rhF] at hI
  refine jd 7 fB q2 hg ?_
  refine WP.S fB fun _ z=>?_
  refine ah.take 3 fun J hJ=>?_
  simp +decide only[W,ak,↓reduceIte]
  refine hJ _ _ ?_
  clear hJ J
  refine ah.part 21 rfl (fun q3=>?_) (fun q3=>?_)
  ·skip
   simp +decide only[W,ak,q3,↓reduceIte]
   apply z;clear z
   refine WP.cond rfl (fun q4=>?_) (fun q4=>?_)
   ·skip
    have h4:48≤s[i].toNat∧s[i].toNat≤57:=by have aq1:=q1;have aq2:=q2;have aq3:=q3;have aq4:=q4;simp only[decide_eq_true_eq] at aq1 aq2 aq3 aq4;omega
    obtain⟨hvc,hwc⟩:=sub48 h4.1 h4.2
    have hn0:¬hv s[i]<0:=by omega
    have hvr:=(TJ s[i]).2
    rw[if_neg hn0] at hI
    have hwa:=FX (a * 16) (hv s[i])
    refine oC 3 [] q4 hwc hwa ?_
    show ∃y,_∧Weak _ _ _
    refine⟨⟨(i+1,IntKind.u64.wrap (a * 16+hv s[i])),?_⟩,?_,?_⟩
    ·exact⟨by omega,hI⟩
    ·dsimp only;omega
    exact zZ1 (aU hlt (by decide))
   skip
   refine WP.S fB fun _ z=>?_
   refine ah.take 3 fun J hJ=>?_
   simp +decide only[W,ak,q4,↓reduceIte]
   refine hJ _ _ ?_
   clear hJ J
   refine ah.part 31 rfl (fun q5=>?_) (fun q5=>?_)
   ·skip
    simp +decide only[W,ak,q5,↓reduceIte]
    apply z;clear z
    refine WP.cond rfl (fun q6=>?_) (fun q6=>?_)
    ·skip
     have h4:97≤s[i].toNat∧s[i].toNat≤102:=by have aq1:=q1;have aq2:=q2;have aq3:=q3;have aq4:=q4;have aq5:=q5;have aq6:=q6;simp only[decide_eq_true_eq,decide_eq_false_iff_not] at aq1 aq2 aq3 aq4 aq5 aq6;omega
     obtain⟨hvc,hwc⟩:=ajR h4.1 h4.2
     have hn0:¬hv s[i]<0:=by omega
     have hvr:=(TJ s[i]).2
     rw[if_neg hn0] at hI
     have hwa:=FX (a * 16) (hv s[i])
     refine oC 3 [] q6 hwc hwa ?_
     show ∃y,_∧Weak _ _ _
     refine⟨⟨(i+1,IntKind.u64.wrap (a * 16+hv s[i])),?_⟩,?_,?_⟩
     ·exact⟨by omega,hI⟩
     ·dsimp only;omega
     exact zZ1 (aU hlt (by decide))
    skip
    have hz:hv s[i]=-1:=by have aq1:=q1;have aq2:=q2;have aq3:=q3;have aq4:=q4;have aq5:=q5;have aq6:=q6;simp only[decide_eq_true_eq,decide_eq_false_iff_not] at aq1 aq2 aq3 aq4 aq5 aq6;unfold hv;rw[if_neg (by omega),if_neg (by omega)]
    have hR:=yQ (s:=s) (by rw[hI,if_pos (by omega)])
    refine aJ 1 fB q6 ?_
    apply WP.ret
    exact zX2 @BQ.eq_def hR
   skip
   have hz:hv s[i]=-1:=by have aq1:=q1;have aq2:=q2;have aq3:=q3;have aq4:=q4;have aq5:=q5;simp only[decide_eq_true_eq,decide_eq_false_iff_not] at aq1 aq2 aq3 aq4 aq5;unfold hv;rw[if_neg (by omega),if_neg (by omega)]
   have hR:=yQ (s:=s) (by rw[hI,if_pos (by omega)])
   simp +decide only[W,ak,q5,↓reduceIte]
   apply z;clear z
   refine WP.cond (b:=false) (by first|rfl|simp[W,q1,q2,hg,q3,q4,q5,hR]) nofun (fun _=>?_)
   refine aG 1 fB ?_
   apply WP.ret
   exact zX2 @BQ.eq_def hR
  skip
  simp +decide only[W,ak,q3,↓reduceIte]
  apply z;clear z
  refine WP.cond (b:=false) (by first|rfl|simp[W,q1,q2,hg,q3]) nofun (fun _=>?_)
  refine WP.S fB fun _ z=>?_
  refine ah.take 3 fun J hJ=>?_
  simp +decide only[W,ak,↓reduceIte]
  refine hJ _ _ ?_
  clear hJ J
  refine ah.part 31 rfl (fun q7=>?_) (fun q7=>?_)
  ·skip
   simp +decide only[W,ak,q7,↓reduceIte]
   apply z;clear z
   refine WP.cond rfl (fun q8=>?_) (fun q8=>?_)
   ·skip
    have h4:97≤s[i].toNat∧s[i].toNat≤102:=by have aq1:=q1;have aq2:=q2;have aq3:=q3;have aq7:=q7;have aq8:=q8;simp only[decide_eq_true_eq,decide_eq_false_iff_not] at aq1 aq2 aq3 aq7 aq8;omega
    obtain⟨hvc,hwc⟩:=ajR h4.1 h4.2
    have hn0:¬hv s[i]<0:=by omega
    have hvr:=(TJ s[i]).2
    rw[if_neg hn0] at hI
    have hwa:=FX (a * 16) (hv s[i])
    refine oC 3 [] q8 hwc hwa ?_
    show ∃y,_∧Weak _ _ _
    refine⟨⟨(i+1,IntKind.u64.wrap (a * 16+hv s[i])),?_⟩,?_,?_⟩
    ·exact⟨by omega,hI⟩
    ·dsimp only;omega
    exact zZ1 (aU hlt (by decide))
   skip
   have hz:hv s[i]=-1:=by have aq1:=q1;have aq2:=q2;have aq3:=q3;have aq7:=q7;have aq8:=q8;simp only[decide_eq_true_eq,decide_eq_false_iff_not] at aq1 aq2 aq3 aq7 aq8;unfold hv;rw[if_neg (by omega),if_neg (by omega)]
   have hR:=yQ (s:=s) (by rw[hI,if_pos (by omega)])
   refine aJ 1 fB q8 ?_
   apply WP.ret
   exact zX2 @BQ.eq_def hR
  skip
  have hz:hv s[i]=-1:=by have aq1:=q1;have aq2:=q2;have aq3:=q3;have aq7:=q7;simp only[decide_eq_true_eq,decide_eq_false_iff_not] at aq1 aq2 aq3 aq7;unfold hv;rw[if_neg (by omega),if_neg (by omega)]
  have hR:=yQ (s:=s) (by rw[hI,if_pos (by omega)])
  simp +decide only[W,ak,q7,↓reduceIte]
  apply z;clear z
  refine WP.cond (b:=false) (by first|rfl|simp[W,q1,q2,hg,q3,q7,hR]) nofun (fun _=>?_)
  refine aG 1 fB ?_
  apply WP.ret
  exact zX2 @BQ.eq_def hR
 skip
 have hge:16≤i:=by have:=of_decide_eq_false q2;omega
 have hR:=Nc ale (by rw[hI,dR (show s.length≤i by omega)];rfl)
 refine aJ 2 fB q2 ?_
 apply WP.ret
 exact zX2 @BQ.eq_def hR
theorem ajS (s:List UInt8)(hs:s.length≤140737488355328):ay Pr 81 [.str s] (.str (TK s)):=by
 refine gK Tryz.func81 Tryz.ntmps81 ?_
 refine aG 1 [0,2] ?_
 refine WP.S [0,2] fun _ z=>?_
 simp +decide only[W,ak,↓reduceIte]
 refine aj.P (anp s hs) rfl rfl ?_
 simp +decide only[W,↓reduceIte]
 refine aj.P (anv (TB s) (vH s).1 (vH s).2) rfl rfl ?_
 simp +decide only[W,ak,↓reduceIte]
 apply z;clear z
 apply WP.ret
 exact zV1 @TK.eq_def
theorem aaj (s:List UInt8)(hs:s.length≤140737488355328):ay Pr 187 [.str s] (.str (TK s)):=by
 refine gK Tryz.func187 Tryz.ntmps187 ?_
 refine aG 1 [0,2] ?_
 refine WP.S [0,2] fun _ z=>?_
 simp +decide only[W,ak,↓reduceIte]
 refine aj.P (ahU s hs) rfl rfl ?_
 simp +decide only[W,↓reduceIte]
 refine aj.P (ah2 (TB s) (vH s).1 (vH s).2) rfl rfl ?_
 simp +decide only[W,ak,↓reduceIte]
 apply z;clear z
 apply WP.ret
 exact zV1 @TK.eq_def
theorem aeM (k s:List UInt8)(hk:k.length≤1099511627776)(hs:s.length≤1099511627776):ay Pr 35 [.str k,.str s] (.str (yS k s)):=by
 have hi:=D9 (n:=(k.length:Int)) ⟨by omega,by omega⟩
 have hp:=V9 hk
 refine gK Tryz.func35 Tryz.ntmps35 ?_
 refine aG 1 [0,1,4,5] ?_
 refine WP.S [0,1,4,5] fun _ z=>?_
 simp +decide only[W,ak,↓reduceIte]
 refine aj.P (Vu _ (by omega) (by omega)) rfl rfl ?_
 simp +decide only[W,ak,↓reduceIte]
 refine⟨by simp;omega,by simp;omega,?_⟩
 apply z;clear z
 refine WP.S [0,1,4,5] fun _ z=>?_
 simp +decide only[W,ak,↓reduceIte]
 refine⟨by simp;omega,?_⟩
 refine aj.pure (ajS (Eb k++s) (by simp only[abf];omega)) rfl (by simp[Eb,fg]) (by simp) ?_
 simp +decide only[W,ak,↓reduceIte]
 refine⟨by simp[yR];omega,?_⟩
 refine aj.pure (ajS (Eb k++TK (Eb k++s)) (by simp only[abf,yR];omega)) rfl (by simp[Eb,fg]) (by simp) ?_
 simp +decide only[W,ak,↓reduceIte]
 apply z;clear z
 apply WP.ret
 exact zV1 @yS.eq_def
theorem aeN (n:Nat)(hn:n<9223372036854775808):ay Pr 186 [.int .i64 (n:Int)] (.str (Lib.decDigits n)):=by
 revert hn
 refine Nat.strongRecOn (motive:=fun n=>n<9223372036854775808→ay Pr 186 [.int .i64 (n:Int)] (.str (Lib.decDigits n))) n ?_
 clear n;intro n ih hn
 refine gK Tryz.func186 Tryz.ntmps186 ?_
 refine aG 3 [0,2,4] ?_
 refine WP.cond rfl (fun q1=>?_) (fun q1=>?_)
 ·skip
  have hlt:n<10:=by have:=of_decide_eq_true q1;omega
  have hp1:IntKind.wrap .i64 ((n:Int)+1)=((n+1:Nat):Int):=by rw[wrap_i64 (by omega) (by omega)];omega
  have hds:=abQ n hlt
  have hb1:n≤n+1:=by omega
  have hb2:n+1≤10:=by omega
  have hdd:=aah hlt
  refine OY 1 [0,2,4] q1 hp1 hds hb1 hb2 ?_
  apply WP.ret
  exact zV1 hdd
 skip
 have hge:10≤n:=by have:=of_decide_eq_false q1;omega
 have hq:IntKind.wrap .i64 ((n:Int).tdiv 10)=((n / 10:Nat):Int):=by rw[Int.tdiv_eq_ediv_of_nonneg (by omega),wrap_i64 (by omega) (by omega)];omega
 have hr:(n:Int).tmod 10=((n % 10:Nat):Int):=by rw[amg (by omega)];omega
 have hdd:=ah3 hge
 have hl1:=TM (n / 10) (by omega)
 have hl2:=TM (n % 10) (by omega)
 refine aG 1 [] ?_
 refine WP.S [0,2,4] fun _ z=>?_
 simp +decide only[W,ak,q1,hq,↓reduceIte]
 refine aj.P (ih (n / 10) (by omega) (by omega)) rfl rfl ?_
 simp +decide only[W,ak,hr,↓reduceIte]
 refine aj.P (ih (n % 10) (by omega) (by omega)) rfl rfl ?_
 simp +decide only[W,ak,↓reduceIte]
 refine⟨by omega,?_⟩
 apply z;clear z
 apply WP.ret
 exact zV1 hdd
theorem J6 (k s:List UInt8)(hk:k.length≤1099511627776)(hs:s.length≤1099511627776):ay Pr 131 [.str k,.str s] (.str (yS k s)):=by
 have hi:=TM k.length (by omega)
 have hp:=V9 hk
 refine gK Tryz.func131 Tryz.ntmps131 ?_
 refine aG 1 [0,1,4,5] ?_
 refine WP.S [0,1,4,5] fun _ z=>?_
 simp +decide only[W,ak,↓reduceIte]
 refine aj.P (aeN k.length (by omega)) rfl rfl ?_
 simp +decide only[W,ak,↓reduceIte]
 refine⟨by simp;omega,by simp;omega,?_⟩
 apply z;clear z
 refine WP.S [0,1,4,5] fun _ z=>?_
 simp +decide only[W,ak,↓reduceIte]
 refine⟨by simp;omega,?_⟩
 refine aj.pure (aaj (Eb k++s) (by simp only[abf];omega)) rfl (by simp[aeL,fg]) (by simp) ?_
 simp +decide only[W,ak,↓reduceIte]
 refine⟨by simp[yR];omega,?_⟩
 refine aj.pure (aaj (Eb k++TK (Eb k++s)) (by simp only[abf,yR];omega)) rfl (by simp[aeL,fg]) (by simp) ?_
 simp +decide only[W,ak,↓reduceIte]
 apply z;clear z
 apply WP.ret
 exact zV1 @yS.eq_def
def vN:Option (List UInt8 × List UInt8)→D
 |none=> .junk
 |some q=> .str q.1
@[simp] theorem apH {S:Nat→Prop}(o:Option (List UInt8 × List UInt8)):bY S (vN o)↔True:=by cases o <;> simp[vN]
def vU (x:List UInt8):D:=if ak7 x=0 then .agg [.int .i64 (ak8 x),.int .i64 (ak9 x)] else .junk
@[simp] theorem apI {S:Nat→Prop}(x:List UInt8):bY S (vU x)↔True:=by unfold vU;split <;> simp
theorem ah4 (h:55<Tryz.prog.types.size):(Tryz.prog.types[55]'h).size=5:=by kernel_rfl
end Go.Proofs
