import Derived.Test.YtekopfoidhhedaaGreatDoorG08
import Derived.Test.YtekopfoidhhedaaGreatDoorG07
import Derived.Test.YtekopfoidhhedaaGreatDoorG04
import Derived.Test.YtekopfoidhhedaaGreatDoorG02
import Derived.Test.YtekopfoidhhedaaGreatDoorG05
import Derived.Shelf.Sort.Plain
set_option linter.unusedVariables false
set_option linter.unusedSimpArgs false
set_option linter.unnecessarySimpa false
namespace Go.Proofs
open Go Go.Id
structure kK where
 id:List UInt8
 addr:List UInt8
 keys:List Key
 nk:Bool
 f:Int
 u:Int
def kK.cs (p:kK):List D:=[.str p.id,.str p.addr,.slice 6 p.nk (p.keys.map Key.cs) none,.int .i64 p.f,.int .i64 p.u]
def Ob:kK:=⟨[],[],[],true,0,0⟩
def uM:List UInt8:=[104,116,116,112,115,58,47,47]
def wQ (s:List UInt8):Bool:=bK s && uM.isPrefixOf s
def zL (f u:Int):Bool:=decide (f≥0) && decide (f<u) && decide (u≤1099511627776)
def eu (p:kK):Int:=if aX p.id=false then 5 else if wQ p.addr=false then 4 else if zL p.f p.u=false then 2 else if p.keys.isEmpty=true then 6 else dZ p.keys
def sp (c:UInt8):List UInt8→Option (List UInt8 × List UInt8)
 | []=>none
 |b::s=>if b=c then some ([],s) else (sp c s).map fun q=>(b::q.1,q.2)
theorem Xf {c:UInt8}:∀{s l r:List UInt8},sp c s=some (l,r)→s=l++c::r∧c ∉ l
 | [],l,r,h=>by cases h
 |b::s,l,r,h=>by
  unfold sp at h
  split at h
  ·rename_i hb;cases h;subst hb;simp
  ·rename_i hb
   obtain⟨⟨l',r'⟩,h1,h2⟩:=Option.map_eq_some_iff.1 h
   obtain⟨h3,h4⟩:=Xf h1
   cases h2
   refine⟨by rw[h3];rfl,?_⟩
   simp only[List.mem_cons,not_or]
   exact⟨fun e=>hb e.symm,h4⟩
theorem afQ {c:UInt8}{r:List UInt8}:∀{l:List UInt8},c ∉ l→sp c (l++c::r)=some (l,r)
 | [],_=>by simp[sp]
 |b::l,h=>by
  simp only[List.mem_cons,not_or] at h
  rw[List.cons_append,sp,if_neg (fun e=>h.1 e.symm),afQ h.2];rfl
theorem ad9 {c:UInt8}{s l r:List UInt8}(h:sp c s=some (l,r)):bn c [] s=l::bn c [] r:=by
 obtain⟨rfl,h2⟩:=Xf h
 rw[wP c l [] _ h2,JM]
 simp
def rmW (w l:List UInt8):Option (List UInt8):=if (w++[32]).isPrefixOf l=true then some (l.drop (w.length+1)) else none
def idW:List UInt8:=[105,100]
def adW:List UInt8:=[97,100,100,114,101,115,115]
def vaW:List UInt8:=[118,97,108,105,100]
def keW:List UInt8:=[107,101,121]
def ag5 (x:List UInt8):Int:=
 if (!((Lib.cut x [32]).2.2) || (uY (Lib.cut x [32]).1).2 == 4 || (uY (Lib.cut x [32]).2.1).2 == 4)=true then 4
 else if ((uY (Lib.cut x [32]).1).2 != 0 || (uY (Lib.cut x [32]).2.1).2 != 0)=true then 27 else 0
def ag6 (x:List UInt8):Int:=(uY (Lib.cut x [32]).1).1
def ag7 (x:List UInt8):Int:=(uY (Lib.cut x [32]).2.1).1
def idE (x:List UInt8):Int:=if x.contains 32=true then 4 else if aX x=true then 0 else 5
def adE (x:List UInt8):Int:=match qG x with|none=>4|some a=>if wQ a=true then 0 else 4
def adV (x:List UInt8):List UInt8:=(qG x).getD []
def vaE (x:List UInt8):Int:=if (ag5 x != 0)=true then ag5 x else if zL (ag6 x) (ag7 x)=true then 0 else 2
def ZO (x:List UInt8):Key:=(Lj (bn 32 [] x)).1
def Xg (l:List Key)(x:List UInt8):Int:=if ((Lj (bn 32 [] x)).2 != 0)=true then (Lj (bn 32 [] x)).2 else dZ (l++[ZO x])
def woP (n:Nat):List UInt8:=if n=1 then idW else if n=2 then adW else if n=3 then vaW else keW
def stE (n:Nat)(p:kK)(l:List UInt8):Int:=
 match rmW (woP n) l with
 |none=>4
 |some x=>if n=1 then idE x else if n=2 then adE x else if n=3 then vaE x else Xg p.keys x
def stP (n:Nat)(p:kK)(l:List UInt8):kK:=
 match rmW (woP n) l with
 |none=>p
 |some x=>if n=1 then { p with id:=x } else if n=2 then { p with addr:=adV x } else if n=3 then { p with f:=ag6 x,u:=ag7 x } else { p with keys:=p.keys++[ZO x],nk:=false }
def ajj (n:Nat)(p:kK):kK × Int × Int:=if n<4 then (Ob,n,4) else if n=4 then (Ob,4,6) else (p,0,0)
def afR (n:Nat)(p:kK):Gs→kK × Int × Int
 | []=>ajj n p
 | [l]=>if l=[] then ajj n p else (Ob,n,4)
 |l::m::t=>if stE n p l=0 then afR (n+1) (stP n p l) (m::t) else (Ob,n,stE n p l)
def pP (s:List UInt8):kK × Int × Int:=if 4096<s.length then (Ob,0,3) else afR 1 Ob (bn 10 [] s)
theorem ajk {l:List Key}{x:List UInt8}:Xg l x=0↔(Lj (bn 32 [] x)).2=0∧dZ (l++[ZO x])=0:=by
 unfold Xg
 by_cases h:(Lj (bn 32 [] x)).2=0
 ·simp[h]
 ·simp[h]
theorem wR {x:List UInt8}:∀(ls:Gs) (n:Int) (UG rs:List Key),jU n UG (ls++[[]])=(rs,0,0)→jU n UG (ls++[x,[]])=if Xg rs x=0 then (rs++[ZO x],0,0) else ([],n+(ls.length:Int)+1,Xg rs x)
 | [],n,UG,rs,h=>by
  rw[List.nil_append,SN n UG rfl] at h
  cases h
  rw[List.nil_append]
  by_cases h1:(Lj (bn 32 [] x)).2=0
  ·by_cases h2:dZ (UG++[ZO x])=0
   ·rw[if_pos (ajk.2 ⟨h1,h2⟩),SV n UG (k:=ZO x) (Prod.ext rfl h1) h2,SN _ _ rfl]
   ·have:Xg UG x=dZ (UG++[ZO x]):=by unfold Xg;rw[if_neg (by simp[h1])]
    rw[this,if_neg h2,SS n UG (k:=ZO x) (Prod.ext rfl h1) h2]
    simp
  ·have:Xg UG x=(Lj (bn 32 [] x)).2:=by unfold Xg;rw[if_pos (by simpa using h1)]
   rw[this,if_neg h1,SQ n UG (k:=ZO x) (e:=(Lj (bn 32 [] x)).2) rfl h1]
   simp
 |l::ls,n,UG,rs,h=>by
  have hm:∃m t,ls++[[]]=m::t:=by cases ls <;> simp
  obtain⟨m,t,hm⟩:=hm
  have hm2:∃m t,ls++[x,[]]=m::t:=by cases ls <;> simp
  obtain⟨m2,t2,hm2⟩:=hm2
  rw[List.cons_append,hm] at h
  rw[List.cons_append,hm2]
  by_cases h1:(Lj (bn 32 [] l)).2=0
  ·by_cases h2:dZ (UG++[(Lj (bn 32 [] l)).1])=0
   ·rw[SV n UG (k:=(Lj (bn 32 [] l)).1) (Prod.ext rfl h1) h2] at h ⊢
    rw[← hm] at h
    rw[← hm2,wR ls (n+1) _ rs h]
    simp only[List.length_cons]
    split
    ·rfl
    ·congr 2;push_cast;omega
   ·rw[SS n UG (k:=(Lj (bn 32 [] l)).1) (Prod.ext rfl h1) h2] at h
    exact absurd (congrArg (·.2.2) h) h2
  ·rw[SQ n UG (k:=(Lj (bn 32 [] l)).1) (e:=(Lj (bn 32 [] l)).2) rfl h1] at h
   exact absurd (congrArg (·.2.2) h) h1
def Oc (ls:Gs):List UInt8:=ls.flatMap fun l=>l++[10]
theorem Td:∀ls:Gs,(∀l∈ls,(10:UInt8) ∉ l)→bn 10 [] (Oc ls)=ls++[[]]
 | [],_=>rfl
 |l::ls,h=>by
  have e:Oc (l::ls)=l++10::Oc ls:=by simp[Oc]
  rw[e,ad9 (afQ (h l (by simp))),Td ls fun x hx=>h x (by simp[hx])];rfl
structure JQ (ls:Gs) (rs:List Key):Prop where
 no:∀l∈ls,(10:UInt8) ∉ l
 pk:jU 0 [] (ls++[[]])=(rs,0,0)
theorem JQ.nil:JQ [] []:=⟨by simp,rfl⟩
theorem JQ.step {ls:Gs}{rs:List Key}(h:JQ ls rs){x:List UInt8}(hx:(10:UInt8) ∉ x)(hl:(Oc (ls++[x])).length≤4096):
  pK (Oc (ls++[x]))=if Xg rs x=0 then (rs++[ZO x],0,0) else ([],(ls.length:Int)+1,Xg rs x):=by
 have hno:∀l∈ls++[x],(10:UInt8) ∉ l:=by
  intro l hl
  rcases List.mem_append.1 hl with hl|hl
  ·exact h.no l hl
  ·rw[List.mem_singleton.1 hl];exact hx
 rw[aa3 hl,Td _ hno,List.append_assoc]
 show jU 0 [] (ls++[x,[]])=_
 rw[wR ls 0 [] rs h.pk]
 simp
theorem JQ.next {ls:Gs}{rs:List Key}(h:JQ ls rs){x:List UInt8}(hx:(10:UInt8) ∉ x)(he:Xg rs x=0):JQ (ls++[x]) (rs++[ZO x]):=by
 refine⟨?_,?_⟩
 ·intro l hl
  rcases List.mem_append.1 hl with hl|hl
  ·exact h.no l hl
  ·rw[List.mem_singleton.1 hl];exact hx
 ·rw[List.append_assoc]
  show jU 0 [] (ls++[x,[]])=_
  rw[wR ls 0 [] rs h.pk,if_pos he]
def kK.ok (p:kK):Prop:=p.id.length≤1099511627776∧p.addr.length≤1099511627776∧p.keys.length≤1099511627776∧(p.nk=true→p.keys=[])∧∀k∈p.keys,k.ok
@[simp] theorem akH {S:Nat→Prop}(p:kK):(∀d∈p.cs,cZ S d)↔True:=by
 simp only[iff_true,kK.cs,List.mem_cons,List.not_mem_nil,or_false]
 rintro d (rfl|rfl|rfl|rfl|rfl)
 ·simp
 ·simp
 ·rw[mQ];exact⟨(BG _).2 trivial,by simp⟩
 ·simp
 ·simp
theorem nJ {s:List UInt8}(h:aX s=true):s.length≤64:=by
 unfold aX at h
 simp only[Bool.and_eq_true,decide_eq_true_eq] at h
 omega
theorem DR {s:List UInt8}(h:bK s=true):s.length≤256:=by
 unfold bK at h
 simp only[Bool.and_eq_true,decide_eq_true_eq] at h
 omega
set_option maxRecDepth 10000
set_option maxHeartbeats 4000000
theorem Vu (f u:Int):ak Pr 148 [.agg [.int .i64 f,.int .i64 u]] (.bool (zL f u)):=by
 refine ak.W Tryz.func148 Tryz.ntmps148 ?_
 simp only[ay]
 refine WP.S [1,2] fun _ z=>?_;simp +decide only[TF,↓reduceIte];apply z;clear z
 refine WP.S [1,2] fun _ z=>?_
 refine ah.take 4 fun J hJ=>?_
 simp +decide only[W,aB,qX,uy,qj,↓reduceIte]
 refine hJ _ _ ?_
 clear hJ J
 refine ah.part 6 rfl (fun q1=>?_) (fun q1=>?_)
 ·skip
  refine ah.take 7 fun J hJ=>?_
  simp +decide only[W,aB,qX,uy,qj,lu,q1,↓reduceIte]
  refine hJ _ _ ?_
  clear hJ J
  refine ah.part 13 rfl (fun q2=>?_) (fun q2=>?_)
  ·skip
   simp +decide only[W,aB,lu,uy,qj,q2,↓reduceIte]
   apply z;clear z
   apply WP.ret
   exact Ends.P rfl (Le.of_eq (by first|(simp +decide only[St.get,W,zL,q1,q2,↓reduceIte];done)|(simp[St.get,lk,W,bne,zL,q1,q2];done)|(simp_all[St.get,lk,W,LN,bne,zL];done)|(simp_all[St.get,lk,W,LN,bne,zL];intros;first|omega|(rw[Bool.eq_iff_iff];simp;try omega))))
  skip
  simp +decide only[W,aB,q2,↓reduceIte]
  apply z;clear z
  apply WP.ret
  exact Ends.P rfl (Le.of_eq (by first|(simp +decide only[St.get,W,zL,q1,q2,↓reduceIte];done)|(simp[St.get,lk,W,bne,zL,q1,q2];done)|(simp_all[St.get,lk,W,LN,bne,zL];done)|(simp_all[St.get,lk,W,LN,bne,zL];intros;first|omega|(rw[Bool.eq_iff_iff];simp;try omega))))
 skip
 simp +decide only[W,aB,q1,↓reduceIte]
 apply z;clear z
 apply WP.ret
 exact Ends.P rfl (Le.of_eq (by first|(simp +decide only[St.get,W,zL,q1,↓reduceIte];done)|(simp[St.get,lk,W,bne,zL,q1];done)|(simp_all[St.get,lk,W,LN,bne,zL];done)|(simp_all[St.get,lk,W,LN,bne,zL];intros;first|omega|(rw[Bool.eq_iff_iff];simp;try omega))))
theorem Gt (n:Int):ak Pr 90 [.int .i64 n] (.int .i64 (aZ n)):=by
 refine ak.W Tryz.func90 Tryz.ntmps90 ?_
 simp only[ay]
 iterate 2 (refine WP.S [0,2] fun _ z=>?_;simp +decide only[TF,↓reduceIte];apply z;clear z)
 apply WP.ret
 exact Ends.P rfl (Le.of_eq (by first|(simp +decide only[St.get,W,aZ,↓reduceIte];done)|(simp[St.get,W,aZ];done)|(simp_all[St.get,W,aZ];done)|(simp_all[St.get,W,aZ];intros;first|omega|(rw[Bool.eq_iff_iff];simp;try omega))))
theorem Tf (s:List UInt8)(hs:s.length≤140737488355328):ak Pr 147 [.str s] (.bool (wQ s)):=by
 refine ak.W Tryz.func147 Tryz.ntmps147 ?_
 simp only[ay]
 refine WP.S [0,2] fun _ z=>?_;simp +decide only[TF,↓reduceIte];apply z;clear z
 refine WP.S [0,2] fun _ z=>?_
 simp +decide only[W,aB,↓reduceIte]
 refine aj.P (Py _ (by first|assumption|omega)) rfl rfl ?_
 refine ah.take 1 fun J hJ=>?_
 simp +decide only[W,aB,↓reduceIte]
 refine hJ _ _ ?_
 clear hJ J
 refine ah.part 5 rfl (fun q1=>?_) (fun q1=>?_)
 ·skip
  simp +decide only[W,aB,q1,↓reduceIte]
  refine aj.P (LH _ _) rfl rfl ?_
  simp +decide only[W,aB,↓reduceIte]
  apply z;clear z
  apply WP.ret
  exact Ends.P rfl (Le.of_eq (by first|(simp +decide only[St.get,W,wQ,uM,Lib.hasPrefix,q1,↓reduceIte];done)|(simp[St.get,lk,W,bne,wQ,uM,Lib.hasPrefix,q1];done)|(simp_all[St.get,lk,W,LN,bne,wQ,uM,Lib.hasPrefix];done)|(simp_all[St.get,lk,W,LN,bne,wQ,uM,Lib.hasPrefix];intros;first|omega|(rw[Bool.eq_iff_iff];simp;try omega))))
 skip
 simp +decide only[W,aB,q1,↓reduceIte]
 apply z;clear z
 apply WP.ret
 exact Ends.P rfl (Le.of_eq (by first|(simp +decide only[St.get,W,wQ,uM,q1,↓reduceIte];done)|(simp[St.get,lk,W,bne,wQ,uM,Lib.hasPrefix,q1];done)|(simp_all[St.get,lk,W,LN,bne,wQ,uM,Lib.hasPrefix];done)|(simp_all[St.get,lk,W,LN,bne,wQ,uM,Lib.hasPrefix];intros;first|omega|(rw[Bool.eq_iff_iff];simp;try omega))))
abbrev jF:List Nat:=[1,2,3,8,13,18]
theorem YL (p:kK)(hp:p.ok):ak Pr 89 [.agg [.str p.id,.str p.addr,.slice 6 p.nk (p.keys.map Key.cs) none,.int .i64 p.f,.int .i64 p.u]] (.int .i64 (eu p)):=by
 have h1:p.id.length≤140737488355328:=by have:=hp.1;omega
 have h2:p.addr.length≤140737488355328:=by have:=hp.2.1;omega
 refine ak.W Tryz.func89 Tryz.ntmps89 ?_
 simp only[ay]
 iterate 3 first|(refine WP.S jF fun _ z=>?_;simp +decide only[TF,↓reduceIte];apply z;clear z)|apply WP.block|apply WP.seq
 refine WP.S jF fun _ z=>?_
 simp +decide only[W,aB,qW,uz,ql,↓reduceIte]
 refine aj.P (Px _ h1) rfl rfl ?_
 simp +decide only[W,aB,↓reduceIte]
 apply z;clear z
 refine WP.cond rfl (fun q1=>?_) (fun q1=>?_)
 ·skip
  refine WP.S jF fun _ z=>?_;simp +decide only[TF,q1,↓reduceIte];apply z;clear z
  apply WP.ret
  exact Ends.P rfl (Le.of_eq (by first|(simp +decide only[St.get,W,eu,↓reduceIte];done)|(simp[St.get,W,eu];done)|(simp_all[St.get,W,eu];done)|(simp_all[St.get,lk,W,LN,bne,eu];intros;first|omega|(rw[Bool.eq_iff_iff];simp;try omega))))
 skip
 refine WP.S jF fun _ z=>?_
 simp +decide only[W,aB,vY,uz,ql,q1,↓reduceIte]
 refine aj.P (Tf _ h2) rfl rfl ?_
 simp +decide only[W,aB,↓reduceIte]
 apply z;clear z
 refine WP.cond rfl (fun q2=>?_) (fun q2=>?_)
 ·skip
  refine WP.S jF fun _ z=>?_;simp +decide only[TF,q2,↓reduceIte];apply z;clear z
  apply WP.ret
  exact Ends.P rfl (Le.of_eq (by first|(simp +decide only[St.get,W,eu,↓reduceIte];done)|(simp[St.get,W,eu];done)|(simp_all[St.get,W,eu];done)|(simp_all[St.get,lk,W,LN,bne,eu];intros;first|omega|(rw[Bool.eq_iff_iff];simp;try omega))))
 skip
 refine WP.S jF fun _ z=>?_
 simp +decide only[W,aB,lq,AX,xZ,q2,↓reduceIte]
 refine aj.P (Vu _ _) rfl rfl ?_
 simp +decide only[W,aB,↓reduceIte]
 apply z;clear z
 refine WP.cond rfl (fun q3=>?_) (fun q3=>?_)
 ·skip
  refine WP.S jF fun _ z=>?_;simp +decide only[TF,q3,↓reduceIte];apply z;clear z
  apply WP.ret
  exact Ends.P rfl (Le.of_eq (by first|(simp +decide only[St.get,W,eu,↓reduceIte];done)|(simp[St.get,W,eu];done)|(simp_all[St.get,W,eu];done)|(simp_all[St.get,lk,W,LN,bne,eu];intros;first|omega|(rw[Bool.eq_iff_iff];simp;try omega))))
 skip
 refine WP.S jF fun _ z=>?_;simp +decide only[TF,q3,↓reduceIte];apply z;clear z
 refine WP.cond rfl (fun q4=>?_) (fun q4=>?_)
 ·skip
  have hz:p.keys.isEmpty=true:=by simpa using q4
  refine WP.S jF fun _ z=>?_;simp +decide only[TF,q4,↓reduceIte];apply z;clear z
  apply WP.ret
  exact Ends.P rfl (Le.of_eq (by first|(simp +decide only[St.get,W,eu,hz,↓reduceIte];done)|(simp[St.get,W,eu,hz];done)|(simp_all[St.get,W,eu];done)|(simp_all[St.get,lk,W,LN,bne,eu];intros;first|omega|(rw[Bool.eq_iff_iff];simp;try omega))))
 skip
 have hz:p.keys.isEmpty=false:=by simpa using q4
 apply WP.skip;show WP ..
 refine WP.S jF fun _ z=>?_
 simp +decide only[W,aB,nU,vX,xX,q4,↓reduceIte]
 refine aj.P (NZ p.keys p.nk hp.2.2.1 hp.2.2.2.1 hp.2.2.2.2) rfl rfl ?_
 simp +decide only[W,aB,↓reduceIte]
 apply z;clear z
 apply WP.ret
 exact Ends.P rfl (Le.of_eq (by first|(simp +decide only[St.get,W,eu,hz,↓reduceIte];done)|(simp[St.get,W,eu,hz];done)|(simp_all[St.get,W,eu];done)|(simp_all[St.get,lk,W,LN,bne,eu];intros;first|omega|(rw[Bool.eq_iff_iff];simp;try omega))))
def PW (a b:Int):Int:=IntKind.u64.wrap (BitVec.ofInt IntKind.u64.bits a ^^^ BitVec.ofInt IntKind.u64.bits b).toNat
def Xh (h:Int)(c:UInt8):Int:=IntKind.u64.wrap (PW h (IntKind.u64.wrap c.toNat) * 1099511628211)
theorem HY (a b:Int):IntKind.u64.wrap ((BitVec.ofInt IntKind.u64.bits a ^^^ BitVec.ofInt IntKind.u64.bits b).toNat:Int)=PW a b:=rfl
def h0U:Int:=14695981039346656037
def Gu (s:List UInt8):Int:=s.foldl Xh h0U
theorem JR (s:List UInt8)(k:Nat)(h:k<s.length):Gu (s.take (k+1))=Xh (Gu (s.take k)) s[k]:=by
 rw[MB h,Gu,List.foldl_append];rfl
def Ti (a:Int):Int:=a.fdiv (2 ^ min 33 IntKind.u64.bits)
theorem Xi (a:Int):a.fdiv (2 ^ min 33 IntKind.u64.bits)=Ti a:=rfl
def ag8 (h:Int):Int:=
 PW (IntKind.u64.wrap (PW (IntKind.u64.wrap (PW h (Ti h) * 18397679294719823053)) (Ti (IntKind.u64.wrap (PW h (Ti h) * 18397679294719823053))) * 14181476777654086739))
  (Ti (IntKind.u64.wrap (PW (IntKind.u64.wrap (PW h (Ti h) * 18397679294719823053)) (Ti (IntKind.u64.wrap (PW h (Ti h) * 18397679294719823053))) * 14181476777654086739)))
def PX (s:List UInt8):Int:=ag8 (Gu s)
theorem wrap_u64 (n:Int):0≤IntKind.u64.wrap n∧IntKind.u64.wrap n<18446744073709551616:=by
 have:IntKind.u64.wrap n=n % 18446744073709551616:=by rfl
 rw[this]
 exact⟨Int.emod_nonneg _ (by decide),Int.emod_lt_of_pos _ (by decide)⟩
theorem lF {n:Int}(h0:0≤n)(h1:n<18446744073709551616):IntKind.u64.wrap n=n:=by
 have:IntKind.u64.wrap n=n % 18446744073709551616:=by rfl
 rw[this]
 exact Int.emod_eq_of_lt h0 h1
theorem sU (s:List UInt8):0≤PX s∧PX s<18446744073709551616:=wrap_u64 _
abbrev Xj:List Nat:=[0,2,3,4,6,7,8]
theorem ajl (s:List UInt8)(hs:s.length≤140737488355328):ak Pr 139 [.str s] (.int .u64 (PX s)):=by
 refine ak.W Tryz.func139 Tryz.ntmps139 ?_
 simp only[ay]
 iterate 3 first|(refine WP.S Xj fun _ z=>?_;simp +decide only[TF,↓reduceIte];apply z;clear z)|apply WP.seq
 refine WP.S [0,3,6,7] fun _ z=>?_;simp +decide only[TF,↓reduceIte];apply z;clear z
 apply WP.block
 refine WP.lp [0,6] (X:={k:Nat // k≤s.length}) (fun x=>match x with| ⟨(k),_⟩=>[(3,.int .u64 (Gu (s.take k))),(7,.int .i64 k)]) (fun x=>match x with| ⟨(k),_⟩=>[]) (fun x=>match x with| ⟨(k),_⟩=>s.length - k) (by simp +decide only[W,↓reduceIte];rfl) ?_ ⟨(0),Nat.zero_le _⟩ ?_
 rotate_left
 ·exact Weak.nil (by simp[St.get,lk,W,Le.refl,Gu,h0U,W]) (by simp[W])
 rintro ⟨k,hk⟩
 dsimp only
 simp only[List.cons_append,List.nil_append]
 iterate 2 first|(refine WP.S Xj fun _ z=>?_;simp +decide only[TF,↓reduceIte];apply z;clear z)|apply WP.seq
 refine WP.cond rfl (fun q1=>?_) (fun q1=>?_)
 ·skip
  have hlt:=aK q1
  have hg:s[k]?=some s[k]:=j_ hlt
  have hfn:=JR s k hlt
  iterate 6 first|(refine WP.S Xj fun _ z=>?_;simp +decide only[TF,q1,↓reduceIte];apply z;clear z)|(refine WP.R fun _ z=>?_;simp +decide only[TF,hg,HY,↓reduceIte];apply z;clear z;show WP ..)|(refine WP.R fun _ z=>?_;simp +decide only[TF,↓reduceIte];apply z;clear z)|(apply WP.skip;show WP ..)|apply WP.block|apply WP.seq
  show ∃y,_∧Weak _ _ _
  refine⟨⟨k+1,?_⟩,?_,?_⟩
  ·omega
  ·dsimp only;omega
  exact Weak.nil (by simp[St.get,lk,Le.refl,hfn,Xh,aT hlt hs]) (by simp[W])
 skip
 have hge:=aN q1
 have hte:s.take k=s:=List.take_of_length_le hge
 iterate 6 first|(refine WP.S Xj fun _ z=>?_;simp +decide only[TF,q1,HY,Xi,↓reduceIte];apply z;clear z)|(apply WP.exit;show WP ..)
 apply WP.ret
 exact Ends.P rfl (Le.of_eq (by simp +decide only[St.get,W,PX,ag8,hte,↓reduceIte]))
theorem ad_ (s:List UInt8)(hs:s.length≤140737488355328):ak Pr 227 [.str s] (.int .u64 (PX s)):=by
 refine ak.W Tryz.func227 Tryz.ntmps227 ?_
 simp only[ay]
 iterate 3 first|(refine WP.S [0,2,3,4,8] fun _ z=>?_;simp +decide only[TF,↓reduceIte];apply z;clear z)|apply WP.seq
 refine WP.S [0,3,4] fun _ z=>?_;simp +decide only[TF,↓reduceIte];apply z;clear z
 apply WP.block
 refine WP.lp [0] (X:={k:Nat // k≤s.length}) (fun x=>match x with| ⟨(k),_⟩=>[(3,.int .u64 (Gu (s.take k))),(4,.int .i64 k)]) (fun x=>match x with| ⟨(k),_⟩=>[]) (fun x=>match x with| ⟨(k),_⟩=>s.length - k) (by simp +decide only[W,↓reduceIte];rfl) ?_ ⟨(0),Nat.zero_le _⟩ ?_
 rotate_left
 ·exact Weak.nil (by simp[St.get,lk,W,Le.refl,Gu,h0U,W]) (by simp[W])
 rintro ⟨k,hk⟩
 dsimp only
 simp only[List.cons_append,List.nil_append]
 iterate 2 first|(refine WP.S [0,2,3,4,8] fun _ z=>?_;simp +decide only[TF,↓reduceIte];apply z;clear z)|apply WP.seq
 refine WP.cond rfl (fun q1=>?_) (fun q1=>?_)
 ·skip
  have hlt:=aK q1
  have hg:s[k]?=some s[k]:=j_ hlt
  have hfn:=JR s k hlt
  iterate 5 first|(refine WP.R fun _ z=>?_;simp +decide only[TF,q1,hg,HY,↓reduceIte];apply z;clear z;show WP ..)|(refine WP.R fun _ z=>?_;simp +decide only[TF,↓reduceIte];apply z;clear z)|(apply WP.skip;show WP ..)|apply WP.block|apply WP.seq
  show ∃y,_∧Weak _ _ _
  refine⟨⟨k+1,?_⟩,?_,?_⟩
  ·omega
  ·dsimp only;omega
  exact Weak.nil (by simp[St.get,lk,Le.refl,hfn,Xh,aT hlt hs]) (by simp[W])
 skip
 have hge:=aN q1
 have hte:s.take k=s:=List.take_of_length_le hge
 iterate 6 first|(refine WP.S [0,2,3,4,8] fun _ z=>?_;simp +decide only[TF,q1,HY,Xi,↓reduceIte];apply z;clear z)|(apply WP.exit;show WP ..)
 apply WP.ret
 exact Ends.P rfl (Le.of_eq (by simp +decide only[St.get,W,PX,ag8,hte,↓reduceIte]))
def He (i:Nat):UInt8:=UInt8.ofNat (if i<10 then 48+i else 87+i)
def hdN (n:Int)(i:Nat):Nat:=((n / 16 ^ i) % 16).toNat
def wS (n:Int):Nat→List UInt8
 | 0=>[]
 |k+1=>He (hdN n k)::wS n k
def wU (n:Int):List UInt8:=wS n 16
theorem sV (n:Int):∀k,(wS n k).length=k
 | 0=>rfl
 |k+1=>by simp[wS,sV n k]
theorem PY (n:Int)(i:Nat):hdN n i<16:=by unfold hdN;omega
theorem PZ (n:Int)(i:Nat):((hdN n i:Nat):Int)=(n / 16 ^ i) % 16:=by unfold hdN;omega
def kW (n:Int)(k:Nat):List D:=List.replicate (16 - k) (.int .u8 0)++(wS n k).map fun c=> .int .u8 c.toNat
theorem Vw (n:Int){k:Nat}(h:k≤16):(kW n k).length=16:=by simp[kW,sV];omega
theorem Vx (n:Int){k:Nat}(h:k<16):(kW n k).take (15 - k)++D.int .u8 (He (hdN n k)).toNat::(kW n k).drop (15 - k+1)=kW n (k+1):=by
 have e:16 - k=(15 - k)+1:=by omega
 have eA:kW n k=List.replicate (15 - k) (D.int .u8 0)++(D.int .u8 0::(wS n k).map fun c=> .int .u8 c.toNat):=by
  rw[kW,e,List.replicate_succ'];simp
 have eB:kW n (k+1)=List.replicate (15 - k) (D.int .u8 0)++(D.int .u8 (He (hdN n k)).toNat::(wS n k).map fun c=> .int .u8 c.toNat):=by
  rw[kW,show 16 - (k+1)=15 - k by omega];rfl
 rw[eA,eB,List.take_left' (by simp),List.drop_append,List.drop_eq_nil_of_le (by simp)]
 simp
theorem Vy (n:Int):kW n 16=(wU n).map fun c=> .int .u8 c.toNat:=by simp[kW,wU]
@[simp] theorem ag9 {S:Nat→Prop}(n:Int)(k:Nat):(∀d∈kW n k,cZ S d)↔True:=by
 simp only[iff_true,kW,List.mem_append,List.mem_map,List.mem_replicate]
 rintro d (⟨_,rfl⟩ | ⟨x,_,rfl⟩) <;> simp
theorem Xk:∀i,i<16→aat[i]?=some ((He i).toNat:Int):=by decide
theorem aa5 {i:Nat}(h:i<16):(G6.drop i).head?=some (.int .u8 (He i).toNat):=by
 rw[List.head?_drop,G6,List.getElem?_map,Xk i h];rfl
theorem Tj:IntKind.u64.bits=64:=rfl
theorem rE {a:Int}(h0:0≤a)(h1:a<18446744073709551616):(BitVec.ofInt IntKind.u64.bits a).toNat=a.toNat:=by
 rw[BitVec.toNat_ofInt,Tj]
 congr 1
 exact Int.emod_eq_of_lt h0 h1
theorem ag_ {a:Int}(h0:0≤a)(h1:a<18446744073709551616):IntKind.u64.wrap ((BitVec.ofInt IntKind.u64.bits a &&& BitVec.ofInt IntKind.u64.bits 15).toNat:Int)=a % 16:=by
 have e:(BitVec.ofInt IntKind.u64.bits a &&& BitVec.ofInt IntKind.u64.bits 15).toNat=a.toNat % 16:=by
  rw[BitVec.toNat_and,rE h0 h1,rE (by decide) (by decide)]
  exact Nat.and_two_pow_sub_one_eq_mod a.toNat 4
 rw[e,lF (by omega) (by omega)]
 omega
theorem Tm (k:Nat):(0:Int)<16 ^ k:=Int.pow_pos (by decide)
theorem P5 {n:Int}(h0:0≤n)(h1:n<18446744073709551616)(k:Nat):0≤n / 16 ^ k∧n / 16 ^ k<18446744073709551616:=by
 have:=Tm k
 refine⟨Int.ediv_nonneg h0 (by omega),Int.lt_of_le_of_lt (Int.ediv_le_self _ h0) h1⟩
theorem aea {n:Int}(h0:0≤n){k:Nat}(hk:k<16):n.fdiv (2 ^ (min (4 * k) IntKind.u64.bits))=n / 16 ^ k:=by
 rw[Tj,Nat.min_eq_left (by omega),Int.pow_mul,Int.fdiv_eq_ediv_of_nonneg _ (by have:=Tm k;exact Int.le_of_lt this)]
 rfl
theorem aeb {n:Int}(h0:0≤n)(h1:n<18446744073709551616){k:Nat}(hk:k<16):
  IntKind.u64.wrap ((BitVec.ofInt IntKind.u64.bits (n.fdiv (2 ^ (min (4 * k) IntKind.u64.bits))) &&& BitVec.ofInt IntKind.u64.bits 15).toNat:Int)=((hdN n k:Nat):Int):=by
 rw[aea h0 hk]
 obtain⟨a,b⟩:=P5 h0 h1 k
 rw[ag_ a b,PZ]
theorem aec {n:Int}(h0:0≤n)(k:Nat):(n / 16 ^ k).tmod 16=((hdN n k:Nat):Int):=by
 have:=Tm k
 rw[Int.tmod_eq_emod_of_nonneg (Int.ediv_nonneg h0 (by omega)),PZ]
theorem aed {n:Int}(h0:0≤n)(h1:n<18446744073709551616)(k:Nat):IntKind.u64.wrap ((n / 16 ^ k).tdiv 16)=n / 16 ^ (k+1):=by
 have hp:=Tm k
 have e:(n / 16 ^ k).tdiv 16=n / 16 ^ (k+1):=by
  rw[Int.tdiv_eq_ediv_of_nonneg (Int.ediv_nonneg h0 (by omega)),Int.pow_succ,Int.ediv_ediv_of_nonneg (by omega)]
 rw[e]
 obtain⟨a,b⟩:=P5 h0 h1 (k+1)
 exact lF a b
def aln:List UInt8:=[48,49,50,51,52,53,54,55,56,57,97,98,99,100,101,102]
theorem YM:∀i,i<16→(aln.take (i+1)).drop i=[He i]:=by decide
def hv (c:UInt8):Int:=if 48≤c.toNat∧c.toNat≤57 then c.toNat - 48 else if 97≤c.toNat∧c.toNat≤102 then c.toNat - 87 else -1
def ixD (c:UInt8):Nat→Int
 | 0=>-1
 |k+1=>if He k=c then (k:Int) else ixD c k
theorem aee:∀n,n<256→hv (UInt8.ofNat n)=ixD (UInt8.ofNat n) 16:=by decide +kernel
theorem ajm (c:UInt8):ixD c 16=hv c:=by
 have:=aee c.toNat c.toNat_lt
 rw[UInt8.ofNat_toNat] at this
 exact this.symm
theorem aha (c:UInt8):-1≤hv c∧hv c<16:=by unfold hv;split <;> (try split) <;> omega
theorem ahb:∀i,i<16→hv (He i)=(i:Int):=by decide
def rhF (n:Int):List UInt8→Option Int
 | []=>some n
 |c::s=>if hv c<0 then none else rhF (IntKind.u64.wrap (n * 16+hv c)) s
def Tn (s:List UInt8):Int × Int:=if s.length=16 then (match rhF 0 s with|some n=>(n,0)|none=>(0,4)) else (0,4)
def yN (s:List UInt8):D:= .aJ [.int .u64 (Tn s).1,.int .i64 (Tn s).2]
theorem ahc {s:List UInt8}(h:s.length≠16):Tn s=(0,4):=by unfold Tn;rw[if_neg h]
theorem aa6 {s:List UInt8}(h:rhF 0 s=none):Tn s=(0,4):=by unfold Tn;rw[h];split <;> rfl
theorem Tq {s:List UInt8}{n:Int}(hl:s.length=16)(h:rhF 0 s=some n):Tn s=(n,0):=by unfold Tn;rw[if_pos hl,h]
theorem ahd {n v:Int}(h0:0≤v)(h1:v<16):IntKind.u64.wrap ((BitVec.ofInt IntKind.u64.bits (IntKind.u64.wrap (n * 2 ^ (min 4 IntKind.u64.bits))) ||| BitVec.ofInt IntKind.u64.bits (IntKind.u64.wrap v)).toNat:Int)=IntKind.u64.wrap (n * 16+v):=by
 have hw:∀m:Int,IntKind.u64.wrap m=m % 18446744073709551616:=fun m=>rfl
 have e16:n * 2 ^ (min 4 IntKind.u64.bits)=n * 16:=rfl
 rw[e16,lF (n:=v) h0 (by omega)]
 obtain⟨a,b⟩:=wrap_u64 (n * 16)
 have hx:∃x:Nat,x<1152921504606846976∧(IntKind.u64.wrap (n * 16)).toNat=x <<< 4:=by
  refine⟨(n % 1152921504606846976).toNat,by omega,?_⟩
  rw[Nat.shiftLeft_eq,hw]
  omega
 obtain⟨x,hx1,hx2⟩:=hx
 have e:(BitVec.ofInt IntKind.u64.bits (IntKind.u64.wrap (n * 16)) ||| BitVec.ofInt IntKind.u64.bits v).toNat=x <<< 4+v.toNat:=by
  rw[BitVec.toNat_or,rE a b,rE h0 (by omega),hx2]
  exact (Nat.shiftLeft_add_eq_or_of_lt (by omega) x).symm
 rw[e]
 have e2:((x <<< 4+v.toNat:Nat):Int)=IntKind.u64.wrap (n * 16)+v:=by
  rw[← hx2];omega
 rw[e2,lF (by omega) (by
  have:(IntKind.u64.wrap (n * 16)).toNat=x <<< 4:=hx2
  rw[Nat.shiftLeft_eq] at this
  omega),hw,hw]
 omega
theorem Xl {n:Int}(h0:0≤n)(h1:n<18446744073709551616):∀k,k≤16→rhF (n / 16 ^ k) (wS n k)=some n
 | 0,_=>by simp[wS,rhF]
 |k+1,hk=>by
  have hd:=ahb _ (PY n k)
  rw[wS,rhF,hd,if_neg (by omega)]
  have e:n / 16 ^ (k+1) * 16+((hdN n k:Nat):Int)=n / 16 ^ k:=by
   rw[PZ,Int.pow_succ,← Int.ediv_ediv_of_nonneg (by have:=Tm k;omega)]
   omega
  rw[e]
  obtain⟨a,b⟩:=P5 h0 h1 k
  rw[lF a b]
  exact Xl h0 h1 k (by omega)
theorem aef {n:Int}(h0:0≤n)(h1:n<18446744073709551616):Tn (wU n)=(n,0):=by
 refine Tq (sV n 16) ?_
 have:=Xl h0 h1 16 (Nat.le_refl _)
 rw[show n / 16 ^ 16=0 from Int.ediv_eq_zero_of_lt h0 (by omega)] at this
 exact this
theorem YN:G6.take 16=G6:=rfl
theorem aa7 {k:Nat}(h:k<16):G6[k]?=some (.int .u8 (He k).toNat):=by rw[G6,List.getElem?_map,Xk k h];rfl
theorem afS (a b:UInt8):((a.toNat:Int) == (b.toNat:Int))=true↔a=b:=by
 simp only[beq_iff_eq]
 exact⟨fun e=>UInt8.toNat_inj.1 (by omega),fun e=>by rw[e]⟩
theorem ajn {a b:UInt8}(h:((a.toNat:Int) == (b.toNat:Int))=false):¬a=b:=fun e=>by rw[(afS a b).2 e] at h;cases h
theorem aeg {k:Nat}(h:k<16):List.drop k (List.take (k+1) [(48:UInt8),49,50,51,52,53,54,55,56,57,97,98,99,100,101,102])=[He k]:=YM k h
@[simp] theorem ajo {S:Nat→Prop}:(∀d∈G6,cZ S d)↔True:=by
 simp only[iff_true,G6,List.mem_map]
 rintro d ⟨x,_,rfl⟩
 exact .int _ _
@[simp] theorem ajp {S:Nat→Prop}(s:List UInt8):cZ S (yN s)↔True:=by simp[yN]
theorem ajq (n:Int)(h0:0≤n)(h1:n<18446744073709551616):ak Pr 138 [.int .u64 n] (.str (wU n)):=by
 refine ak.of_wp Tryz.func138 rfl (by kernel_rfl) Tryz.ntmps138 (by simp) ?_
 simp only[ay]
 refine WP.sr [0] (by kernel_rfl) fun K hK=>?_
 simp +decide only[W,aB,↓reduceIte]
 refine hK _ _ ?_
 clear hK K
 refine WP.sr [0,3] (by kernel_rfl) fun K hK=>?_
 simp +decide only[W,aB,wI,↓reduceIte]
 refine hK _ _ ?_
 clear hK K
 refine WP.seq ?_
 refine WP.sr [0,3,5] (by kernel_rfl) fun K hK=>?_
 simp +decide only[W,aB,↓reduceIte]
 refine hK _ _ ?_
 clear hK K
 refine WP.block ?_
 refine WP.lp [0,3] (X:={k:Nat // k≤16}) (fun x=>match x with| ⟨(k),_⟩=>[(5,.int .i64 k)]) (fun x=>match x with| ⟨(k),_⟩=>[(0,.box 226 (kW n k))]) (fun x=>match x with| ⟨(k),_⟩=>16 - k) (by simp +decide only[W,↓reduceIte];rfl) ?_ ⟨(0),Nat.zero_le _⟩ ?_
 rotate_left
 ·exact Weak.store (by simp[St.get,lk,W,Le.refl,W]) (by simp[lk,kW,wS,List.replicate]) (by simp[lk]) (by simp[aA,lk]) (by simp[lk])
 rintro ⟨k,hk⟩
 dsimp only
 simp only[List.cons_append,List.nil_append]
 refine WP.sr [0,3,5,6] (by kernel_rfl) fun K hK=>?_
 simp +decide only[W,aB,↓reduceIte]
 refine hK _ _ ?_
 clear hK K
 refine WP.seq ?_
 refine WP.cond (b:=_) rfl (fun q1=>?_) (fun q1=>?_)
 ·skip
  have hlt:k<16:=by have:=of_decide_eq_true q1;omega
  have hw1:IntKind.wrap .i64 (15 - (k:Int))=((15 - k:Nat):Int):=by rw[wrap_i64 (by omega) (by omega)];omega
  have hw2:IntKind.wrap .i64 (4 * (k:Int))=((4 * k:Nat):Int):=by rw[wrap_i64 (by omega) (by omega)];omega
  have hda:=aeb h0 h1 hlt
  have hdl:=PY n k
  have hdh:=aa5 hdl
  have hcl:=Vw n hk
  have hpu:=Vx n hlt
  have h15:15 - k<16:=by omega
  have h16:15 - k+1≤16:=by omega
  refine WP.skip ?_
  show WP _ _ _ _ _ _
  refine WP.seq ?_
  refine WP.block ?_
  refine WP.sr [0,3,4,5] (by kernel_rfl) fun K hK=>?_
  simp +decide only[W,aB,q1,↓reduceIte]
  refine hK _ _ ?_
  clear hK K
  refine WP.region (by kernel_rfl) fun K hK=>?_
  simp +decide only[W,aB,uI,Pv,Jo,hw1,hw2,hda,hdl,hdh,hcl,h15,h16,Nat.mul_one,Int.natCast_nonneg,↓reduceIte]
  refine hK _ _ ?_
  clear hK K
  show WP _ _ _ _ _ _
  refine WP.region (by kernel_rfl) fun K hK=>?_
  simp +decide only[W,aB,↓reduceIte]
  refine hK _ _ ?_
  clear hK K
  show ∃y,_∧Weak _ _ _
  refine⟨⟨k+1,?_⟩,?_,?_⟩
  ·omega
  ·dsimp only;omega
  ·exact Weak.store (by simp[St.get,lk,Le.refl,aT hlt (by decide)]) (by simp[lk];simpa using hpu) (by simp[lk]) (by simp[aA,lk]) (by simp[lk])
 ·skip
  have aa8:k=16:=by have:=of_decide_eq_false q1;omega
  subst aa8
  refine WP.exit ?_
  show WP _ _ _ _ _ _
  refine WP.seq ?_
  refine WP.agN (s:=wU n) (b:=0) (T:=226) (by kernel_rfl) rfl rfl rfl rfl rfl rfl rfl uI pG nV sJ rfl (by simp[lk,Vy]) (sV n 16) fun K hK=>?_
  ·skip
   simp +decide only[W,aB,↓reduceIte]
   refine hK _ _ ?_
   clear hK K
   show WP _ _ _ _ _ _
   refine WP.ret ?_
   exact Ends.pure (.inr rfl) rfl (Le.of_eq (by first|(simp +decide only[St.get,lk,W,↓reduceIte];done)|(simp[St.get,lk,W,bne,q1];done)|(simp_all[St.get,lk,W,LN,bne];done)|(simp_all[St.get,lk,W,LN,bne];intros;first|omega|(rw[Bool.eq_iff_iff];simp;try omega)))) (by simp)
abbrev BK:List Nat:=[0,2,3,4,5,7]
theorem aeh (n:Int)(h0:0≤n)(h1:n<18446744073709551616):ak Pr 226 [.int .u64 n] (.str (wU n)):=by
 refine ak.W Tryz.func226 Tryz.ntmps226 ?_
 simp only[ay]
 iterate 3 first|(refine WP.S BK fun _ z=>?_;simp +decide only[TF,↓reduceIte];apply z;clear z)|apply WP.seq
 refine WP.S [0,3,4] fun _ z=>?_;simp +decide only[TF,↓reduceIte];apply z;clear z
 apply WP.block
 refine WP.lp [] (X:={k:Nat // k≤16}) (fun x=>match x with| ⟨(k),_⟩=>[(0,.int .u64 (n / 16 ^ k)),(3,.str (wS n k)),(4,.int .i64 k)]) (fun x=>match x with| ⟨(k),_⟩=>[]) (fun x=>match x with| ⟨(k),_⟩=>16 - k) (by simp +decide only[W,↓reduceIte];rfl) ?_ ⟨(0),Nat.zero_le _⟩ ?_
 rotate_left
 ·exact Weak.nil (by simp[St.get,lk,W,Le.refl,wS,W]) (by simp[W])
 rintro ⟨k,hk⟩
 dsimp only
 simp only[List.cons_append,List.nil_append]
 iterate 2 first|(refine WP.S BK fun _ z=>?_;simp +decide only[TF,↓reduceIte];apply z;clear z)|apply WP.seq
 refine WP.cond rfl (fun q1=>?_) (fun q1=>?_)
 ·skip
  have hlt:k<16:=by have:=of_decide_eq_true q1;omega
  have hre:=aec h0 k
  have hqo:=aed h0 h1 k
  have hdl:=PY n k
  have hp1:IntKind.u64.wrap (((hdN n k:Nat):Int)+1)=((hdN n k+1:Nat):Int):=by rw[lF (by omega) (by omega)];omega
  have hds:List.drop (hdN n k) ((48:UInt8)::List.take (hdN n k) [49,50,51,52,53,54,55,56,57,97,98,99,100,101,102])=[He (hdN n k)]:=aeg hdl
  have hb1:hdN n k≤hdN n k+1:=by omega
  have hb2:hdN n k+1≤16:=by omega
  have hle:=sV n k
  iterate 4 first|(refine WP.S BK fun _ z=>?_;simp +decide only[TF,q1,hre,↓reduceIte];apply z;clear z)|(apply WP.skip;show WP ..)|apply WP.block|apply WP.seq
  refine WP.S BK fun _ z=>?_
  simp +decide only[W,aB,hp1,hds,hb1,hb2,Int.natCast_nonneg,↓reduceIte]
  refine⟨by simp only[hle];omega,?_⟩
  apply z;clear z
  iterate 2 first|(refine WP.R fun _ z=>?_;simp +decide only[TF,hqo,↓reduceIte];apply z;clear z;show WP ..)|(refine WP.R fun _ z=>?_;simp +decide only[TF,↓reduceIte];apply z;clear z)
  show ∃y,_∧Weak _ _ _
  refine⟨⟨k+1,?_⟩,?_,?_⟩
  ·omega
  ·dsimp only;omega
  exact Weak.nil (by simp[St.get,lk,Le.refl,wS,aT hlt (by decide)]) (by simp[W])
 skip
 have aa8:k=16:=by have:=of_decide_eq_false q1;omega
 subst aa8
 iterate 2 first|(refine WP.S BK fun _ z=>?_;simp +decide only[TF,↓reduceIte];apply z;clear z)|(apply WP.exit;show WP ..)
 apply WP.ret
 exact Ends.P rfl (Le.of_eq (by first|(simp +decide only[St.get,W,wU,↓reduceIte];done)|(simp[St.get,lk,W,bne,wU,q1];done)|(simp_all[St.get,lk,W,LN,bne,wU];done)|(simp_all[St.get,lk,W,LN,bne,wU];intros;first|omega|(rw[Bool.eq_iff_iff];simp;try omega))))
abbrev jG:List Nat:=[0,2,3,4,5,6,7,8,11,13,14,15,17,18,19,26,30]
theorem YO (s:List UInt8)(hs:s.length≤140737488355328):ak Pr 142 [.str s] (yN s):=by
 refine ak.W Tryz.func142 Tryz.ntmps142 ?_
 simp only[ay]
 iterate 3 first|(refine WP.S jG fun _ z=>?_;simp +decide only[TF,↓reduceIte];apply z;clear z)|apply WP.seq
 refine WP.cond rfl (fun q1=>?_) (fun q1=>?_)
 ·skip
  have hR:=ahc (s:=s) (by intro e;have:=q1;simp[e] at this)
  refine WP.S jG fun _ z=>?_;simp +decide only[TF,q1,↓reduceIte];apply z;clear z
  apply WP.ret
  exact Ends.P (d:= .aJ [_,_]) rfl (Le.of_eq (by first|(simp +decide only[St.get,lk,W,yN,hR,↓reduceIte];done)|(simp[St.get,lk,W,bne,yN,q1,hR];done)|(simp_all[St.get,lk,W,LN,bne,yN];done)|(simp_all[St.get,lk,W,LN,bne,yN];intros;first|omega|(rw[Bool.eq_iff_iff];simp;try omega))))
 skip
 have alo:s.length=16:=by have:=q1;simp at this;omega
 iterate 3 first|(refine WP.S jG fun _ z=>?_;simp +decide only[TF,q1,↓reduceIte];apply z;clear z)|(apply WP.skip;show WP ..)|apply WP.seq
 refine WP.S [0,4,13,14] fun _ z=>?_;simp +decide only[TF,↓reduceIte];apply z;clear z
 apply WP.block
 refine WP.lp [0,13] (X:={x:(Nat) × (Int) // match x with|(i,a)=>i≤s.length∧rhF 0 s=rhF a (s.drop i)}) (fun x=>match x with| ⟨(i,a),_⟩=>[(4,.int .u64 a),(14,.int .i64 i)]) (fun x=>match x with| ⟨(i,a),_⟩=>[]) (fun x=>match x with| ⟨(i,a),_⟩=>s.length - i) (by simp +decide only[W,↓reduceIte];rfl) ?_ ⟨(0,0),⟨Nat.zero_le _,rfl⟩⟩ ?_
 rotate_left
 ·exact Weak.nil (by simp[St.get,lk,W,Le.refl]) (by simp[W])
 rintro ⟨⟨i,a⟩,⟨hi,hI⟩⟩
 dsimp only
 simp only[List.cons_append,List.nil_append]
 iterate 2 first|(refine WP.S jG fun _ z=>?_;simp +decide only[TF,↓reduceIte];apply z;clear z)|apply WP.seq
 refine WP.cond rfl (fun q2=>?_) (fun q2=>?_)
 ·skip
  have hlt:=aK q2
  have hg:s[i]?=some s[i]:=j_ hlt
  rw[dI hlt,rhF] at hI
  iterate 6 first|(refine WP.S jG fun _ z=>?_;simp +decide only[TF,q2,↓reduceIte];apply z;clear z)|(apply WP.skip;show WP ..)|apply WP.block|apply WP.seq
  refine WP.S [0,4,5,6,13,14,17,18] fun _ z=>?_;simp +decide only[TF,YN,↓reduceIte];apply z;clear z
  apply WP.block
  refine WP.lp [0,4,5,13,14,17] (X:={k:Nat // k≤16}) (fun x=>match x with| ⟨(k),_⟩=>[(6,.int .i64 (ixD s[i] k)),(18,.int .i64 k)]) (fun x=>match x with| ⟨(k),_⟩=>[]) (fun x=>match x with| ⟨(k),_⟩=>16 - k) (by simp +decide only[W,↓reduceIte];rfl) ?_ ⟨(0),Nat.zero_le _⟩ ?_
  rotate_left
  ·exact Weak.nil (by simp[St.get,lk,W,Le.refl,ixD]) (by simp[W])
  rintro ⟨k,hk⟩
  dsimp only
  simp only[List.cons_append,List.nil_append]
  iterate 2 first|(refine WP.S jG fun _ z=>?_;simp +decide only[TF,↓reduceIte];apply z;clear z)|apply WP.seq
  refine WP.cond rfl (fun q3=>?_) (fun q3=>?_)
  ·skip
   have hlt2:k<16:=by have:=of_decide_eq_true q3;omega
   have hdk:=aa7 hlt2
   iterate 5 first|(refine WP.S jG fun _ z=>?_;simp +decide only[TF,hg,q3,hlt2,hdk,↓reduceIte];apply z;clear z)|(apply WP.skip;show WP ..)|apply WP.block|apply WP.seq
   refine WP.cond rfl (fun q4=>?_) (fun q4=>?_)
   ·skip
    have hx:=(afS _ _).1 q4
    iterate 2 first|(refine WP.R fun _ z=>?_;simp +decide only[TF,hx,↓reduceIte];apply z;clear z;show WP ..)|(refine WP.R fun _ z=>?_;simp +decide only[TF,↓reduceIte];apply z;clear z)
    show ∃y,_∧Weak _ _ _
    refine⟨⟨k+1,?_⟩,?_,?_⟩
    ·omega
    ·dsimp only;omega
    exact Weak.nil (by simp[St.get,lk,Le.refl,ixD,hx,aT hlt2 (by decide)]) (by simp[W])
   skip
   have hx:=ajn q4
   iterate 2 first|(refine WP.R fun _ z=>?_;simp +decide only[TF,q4,↓reduceIte];apply z;clear z)|(apply WP.skip;show WP ..)
   show ∃y,_∧Weak _ _ _
   refine⟨⟨k+1,?_⟩,?_,?_⟩
   ·omega
   ·dsimp only;omega
   exact Weak.nil (by simp[St.get,lk,Le.refl,ixD,hx,aT hlt2 (by decide)]) (by simp[W])
  skip
  have aa8:k=16:=by have:=of_decide_eq_false q3;omega
  subst aa8
  have hvx:=ajm s[i]
  iterate 3 first|(refine WP.S jG fun _ z=>?_;simp +decide only[TF,hvx,↓reduceIte];apply z;clear z)|(apply WP.exit;show WP ..)|apply WP.seq
  refine WP.cond rfl (fun q5=>?_) (fun q5=>?_)
  ·skip
   have hR:=aa6 (s:=s) (by rw[hI,if_pos (of_decide_eq_true q5)])
   refine WP.S jG fun _ z=>?_;simp +decide only[TF,q5,↓reduceIte];apply z;clear z
   apply WP.ret
   exact Ends.P (d:= .aJ [_,_]) rfl (Le.of_eq (by first|(simp +decide only[St.get,lk,W,yN,hR,↓reduceIte];done)|(simp[St.get,lk,W,bne,yN,q1,q2,hg,q3,hvx,q5,hR,hR];done)|(simp_all[St.get,lk,W,LN,bne,yN];done)|(simp_all[St.get,lk,W,LN,bne,yN];intros;first|omega|(rw[Bool.eq_iff_iff];simp;try omega))))
  skip
  have hn0:¬hv s[i]<0:=by exact of_decide_eq_false q5
  have hvr:=(aha s[i]).2
  rw[if_neg hn0] at hI
  have hor:=ahd (n:=a) (v:=hv s[i]) (by omega) hvr
  iterate 3 first|(refine WP.R fun _ z=>?_;simp +decide only[TF,q5,hor,↓reduceIte];apply z;clear z;show WP ..)|(refine WP.R fun _ z=>?_;simp +decide only[TF,↓reduceIte];apply z;clear z)|(apply WP.skip;show WP ..)
  show ∃y,_∧Weak _ _ _
  refine⟨⟨(i+1,IntKind.u64.wrap (a * 16+hv s[i])),?_⟩,?_,?_⟩
  ·exact⟨by omega,hI⟩
  ·dsimp only;omega
  exact Weak.nil (by simp[St.get,lk,Le.refl,aT hlt (show s.length≤140737488355328 by omega)]) (by simp[W])
 skip
 have hge:=aN q2
 rw[eP hge] at hI
 have hR:=Tq alo hI
 iterate 2 first|(refine WP.S jG fun _ z=>?_;simp +decide only[TF,q2,↓reduceIte];apply z;clear z)|(apply WP.exit;show WP ..)
 apply WP.ret
 exact Ends.P (d:= .aJ [_,_]) rfl (Le.of_eq (by first|(simp +decide only[St.get,lk,W,yN,hR,↓reduceIte];done)|(simp[St.get,lk,W,bne,yN,q1,q2,hR];done)|(simp_all[St.get,lk,W,LN,bne,yN];done)|(simp_all[St.get,lk,W,LN,bne,yN];intros;first|omega|(rw[Bool.eq_iff_iff];simp;try omega))))
def zM (s:List UInt8):List UInt8:=wU (PX s)
theorem wV (s:List UInt8):(zM s).length=16:=sV _ 16
def BL (k:List UInt8):List UInt8:=Lib.itoa (k.length:Int)++[58]++k
def qx (k s:List UInt8):List UInt8:=zM (BL k++zM (BL k++s))
theorem aa9 (n:Nat):Lib.itoa (n:Int)=Lib.decDigits n:=by unfold Lib.itoa;rw[if_neg (by omega)];simp
theorem aa_ (k:List UInt8):BL k=Lib.decDigits k.length++[58]++k:=by rw[BL,aa9]
theorem Tt {k:List UInt8}(h:k.length≤1099511627776):(BL k).length≤1099511627900:=by
 have:=BI (n:=(k.length:Int)) ⟨by omega,by omega⟩
 simp only[BL,List.length_append,List.length_cons,List.length_nil]
 omega
theorem YP:∀n,n<10→List.drop n ((48:UInt8)::List.take n [49,50,51,52,53,54,55,56,57])=[UInt8.ofNat (48+n)]:=by decide
theorem Xm {n:Nat}(h:n<10):Lib.decDigits n=[UInt8.ofNat (48+n)]:=Lib.decDigits_one h
theorem aei {n:Nat}(h:10≤n):Lib.decDigits n=Lib.decDigits (n / 10)++Lib.decDigits (n % 10):=by
 rw[Lib.decDigits,dif_neg (by omega),Xm (n:=n % 10) (by omega)]
theorem Xn:∀(k n:Nat),n<10 ^ k→Lib.nDigits n≤k+1
 | 0,n,h=>by
  have:n=0:=by simp at h;exact h
  subst this
  rw[Lib.nDigits,dif_pos (by omega)]
  omega
 |k+1,n,h=>by
  rw[Lib.nDigits]
  split
  ·omega
  ·have:=Xn k (n / 10) (by rw[Nat.pow_succ] at h;omega)
   omega
theorem P6 (n:Nat)(h:n<9223372036854775808):(Lib.decDigits n).length≤20:=by
 rw[Lib.decDigits_length]
 exact Xn 19 n (by omega)
theorem afT (s:List UInt8)(hs:s.length≤140737488355328):ak Pr 81 [.str s] (.str (zM s)):=by
 refine ak.W Tryz.func81 Tryz.ntmps81 ?_
 simp only[ay]
 refine WP.S [0,2] fun _ z=>?_;simp +decide only[TF,↓reduceIte];apply z;clear z
 refine WP.S [0,2] fun _ z=>?_
 simp +decide only[W,aB,↓reduceIte]
 refine aj.P (ajl s hs) rfl rfl ?_
 simp +decide only[W,↓reduceIte]
 refine aj.P (ajq (PX s) (sU s).1 (sU s).2) rfl rfl ?_
 simp +decide only[W,aB,↓reduceIte]
 apply z;clear z
 apply WP.ret
 exact Ends.P rfl (Le.of_eq (by first|(simp +decide only[St.get,W,zM,↓reduceIte];done)|(simp[St.get,lk,W,bne,zM];done)|(simp_all[St.get,lk,W,LN,bne,zM];done)|(simp_all[St.get,lk,W,LN,bne,zM];intros;first|omega|(rw[Bool.eq_iff_iff];simp;try omega))))
theorem Xo (s:List UInt8)(hs:s.length≤140737488355328):ak Pr 187 [.str s] (.str (zM s)):=by
 refine ak.W Tryz.func187 Tryz.ntmps187 ?_
 simp only[ay]
 refine WP.S [0,2] fun _ z=>?_;simp +decide only[TF,↓reduceIte];apply z;clear z
 refine WP.S [0,2] fun _ z=>?_
 simp +decide only[W,aB,↓reduceIte]
 refine aj.P (ad_ s hs) rfl rfl ?_
 simp +decide only[W,↓reduceIte]
 refine aj.P (aeh (PX s) (sU s).1 (sU s).2) rfl rfl ?_
 simp +decide only[W,aB,↓reduceIte]
 apply z;clear z
 apply WP.ret
 exact Ends.P rfl (Le.of_eq (by first|(simp +decide only[St.get,W,zM,↓reduceIte];done)|(simp[St.get,lk,W,bne,zM];done)|(simp_all[St.get,lk,W,LN,bne,zM];done)|(simp_all[St.get,lk,W,LN,bne,zM];intros;first|omega|(rw[Bool.eq_iff_iff];simp;try omega))))
theorem aa' (k s:List UInt8)(hk:k.length≤1099511627776)(hs:s.length≤1099511627776):ak Pr 35 [.str k,.str s] (.str (qx k s)):=by
 have hi:=BI (n:=(k.length:Int)) ⟨by omega,by omega⟩
 have hp:=Tt hk
 refine ak.W Tryz.func35 Tryz.ntmps35 ?_
 simp only[ay,Nat.zero_add]
 refine WP.S [0,1,4,5] fun _ z=>?_;simp +decide only[TF,↓reduceIte];apply z;clear z
 refine WP.S [0,1,4,5] fun _ z=>?_
 simp +decide only[W,aB,↓reduceIte]
 refine aj.P (RX _ (by omega) (by omega)) rfl rfl ?_
 simp +decide only[W,aB,↓reduceIte]
 refine⟨by simp;omega,by simp;omega,?_⟩
 apply z;clear z
 refine WP.S [0,1,4,5] fun _ z=>?_
 simp +decide only[W,aB,↓reduceIte]
 refine⟨by simp;omega,?_⟩
 refine aj.pure (afT (BL k++s) (by simp only[List.length_append];omega)) rfl (by simp[BL,fg]) (by simp) ?_
 simp +decide only[W,aB,↓reduceIte]
 refine⟨by simp[wV];omega,?_⟩
 refine aj.pure (afT (BL k++zM (BL k++s)) (by simp only[List.length_append,wV];omega)) rfl (by simp[BL,fg]) (by simp) ?_
 simp +decide only[W,aB,↓reduceIte]
 apply z;clear z
 apply WP.ret
 exact Ends.P rfl (Le.of_eq (by first|(simp +decide only[St.get,W,qx,↓reduceIte];done)|(simp[St.get,lk,W,bne,qx];done)|(simp_all[St.get,lk,W,LN,bne,qx];done)|(simp_all[St.get,lk,W,LN,bne,qx];intros;first|omega|(rw[Bool.eq_iff_iff];simp;try omega))))
theorem abb (n:Nat)(hn:n<9223372036854775808):ak Pr 186 [.int .i64 (n:Int)] (.str (Lib.decDigits n)):=by
 revert hn
 refine Nat.strongRecOn (motive:=fun n=>n<9223372036854775808→ak Pr 186 [.int .i64 (n:Int)] (.str (Lib.decDigits n))) n ?_
 clear n;intro n ih hn
 refine ak.W Tryz.func186 Tryz.ntmps186 ?_
 simp only[ay]
 iterate 3 first|(refine WP.S [0,2,4] fun _ z=>?_;simp +decide only[TF,↓reduceIte];apply z;clear z)|apply WP.seq
 refine WP.cond rfl (fun q1=>?_) (fun q1=>?_)
 ·skip
  have hlt:n<10:=by have:=of_decide_eq_true q1;omega
  have hp1:IntKind.wrap .i64 ((n:Int)+1)=((n+1:Nat):Int):=by rw[wrap_i64 (by omega) (by omega)];omega
  have hds:=YP n hlt
  have hb1:n≤n+1:=by omega
  have hb2:n+1≤10:=by omega
  have hdd:=Xm hlt
  refine WP.S [0,2,4] fun _ z=>?_;simp +decide only[TF,q1,hp1,hds,hb1,hb2,↓reduceIte];apply z;clear z
  apply WP.ret
  exact Ends.P rfl (Le.of_eq (by first|(simp +decide only[St.get,W,hdd,↓reduceIte];done)|(simp[St.get,lk,W,bne,q1,hp1,hds,hb1,hb2,hdd];done)|(simp_all[St.get,lk,W,LN,bne];done)|(simp_all[St.get,lk,W,LN,bne];intros;first|omega|(rw[Bool.eq_iff_iff];simp;try omega))))
 skip
 have hge:10≤n:=by have:=of_decide_eq_false q1;omega
 have hq:IntKind.wrap .i64 ((n:Int).tdiv 10)=((n / 10:Nat):Int):=by rw[Int.tdiv_eq_ediv_of_nonneg (by omega),wrap_i64 (by omega) (by omega)];omega
 have hr:(n:Int).tmod 10=((n % 10:Nat):Int):=by rw[Int.tmod_eq_emod_of_nonneg (by omega)];omega
 have hdd:=aei hge
 have hl1:=P6 (n / 10) (by omega)
 have hl2:=P6 (n % 10) (by omega)
 apply WP.skip;show WP ..
 refine WP.S [0,2,4] fun _ z=>?_
 simp +decide only[W,aB,q1,hq,↓reduceIte]
 refine aj.P (ih (n / 10) (by omega) (by omega)) rfl rfl ?_
 simp +decide only[W,aB,hr,↓reduceIte]
 refine aj.P (ih (n % 10) (by omega) (by omega)) rfl rfl ?_
 simp +decide only[W,aB,↓reduceIte]
 refine⟨by omega,?_⟩
 apply z;clear z
 apply WP.ret
 exact Ends.P rfl (Le.of_eq (by first|(simp +decide only[St.get,W,hdd,↓reduceIte];done)|(simp[St.get,lk,W,bne,q1,hq,hr,hdd];done)|(simp_all[St.get,lk,W,LN,bne];done)|(simp_all[St.get,lk,W,LN,bne];intros;first|omega|(rw[Bool.eq_iff_iff];simp;try omega))))
theorem aej (k s:List UInt8)(hk:k.length≤1099511627776)(hs:s.length≤1099511627776):ak Pr 131 [.str k,.str s] (.str (qx k s)):=by
 have hi:=P6 k.length (by omega)
 have hp:=Tt hk
 refine ak.W Tryz.func131 Tryz.ntmps131 ?_
 simp only[ay,Nat.zero_add]
 refine WP.S [0,1,4,5] fun _ z=>?_;simp +decide only[TF,↓reduceIte];apply z;clear z
 refine WP.S [0,1,4,5] fun _ z=>?_
 simp +decide only[W,aB,↓reduceIte]
 refine aj.P (abb k.length (by omega)) rfl rfl ?_
 simp +decide only[W,aB,↓reduceIte]
 refine⟨by simp;omega,by simp;omega,?_⟩
 apply z;clear z
 refine WP.S [0,1,4,5] fun _ z=>?_
 simp +decide only[W,aB,↓reduceIte]
 refine⟨by simp;omega,?_⟩
 refine aj.pure (Xo (BL k++s) (by simp only[List.length_append];omega)) rfl (by simp[aa_,fg]) (by simp) ?_
 simp +decide only[W,aB,↓reduceIte]
 refine⟨by simp[wV];omega,?_⟩
 refine aj.pure (Xo (BL k++zM (BL k++s)) (by simp only[List.length_append,wV];omega)) rfl (by simp[aa_,fg]) (by simp) ?_
 simp +decide only[W,aB,↓reduceIte]
 apply z;clear z
 apply WP.ret
 exact Ends.P rfl (Le.of_eq (by first|(simp +decide only[St.get,W,qx,↓reduceIte];done)|(simp[St.get,lk,W,bne,qx];done)|(simp_all[St.get,lk,W,LN,bne,qx];done)|(simp_all[St.get,lk,W,LN,bne,qx];intros;first|omega|(rw[Bool.eq_iff_iff];simp;try omega))))
def vN:Option (List UInt8 × List UInt8)→D
 |none=> .junk
 |some q=> .str q.1
@[simp] theorem alp {S:Nat→Prop}(o:Option (List UInt8 × List UInt8)):cZ S (vN o)↔True:=by cases o <;> simp[vN]
def vU (x:List UInt8):D:=if ag5 x=0 then .agg [.int .i64 (ag6 x),.int .i64 (ag7 x)] else .junk
@[simp] theorem alq {S:Nat→Prop}(x:List UInt8):cZ S (vU x)↔True:=by unfold vU;split <;> simp
theorem aek (h:55<Tryz.prog.types.size):(Tryz.prog.types[55]'h).size=5:=by kernel_rfl
def vR (r:kK × Int × Int):D:=if r.2.2=0 then .agg r.1.cs else .junk
@[simp] theorem alr {S:Nat→Prop}(r:kK × Int × Int):cZ S (vR r)↔True:=by unfold vR;split <;> simp
theorem ahe (x:List UInt8):Ej (qG x)= .aJ [.str (adV x),.int .i64 (ueB x)]:=by
 unfold adV ueB
 cases qG x <;> rfl
theorem c4 (m:Nat):((4+m:Nat):Int)=4+(m:Int):=by omega
end Go.Proofs
namespace Go.Id
open Go
theorem Le.agg {l m:List D}(h:Les l m):Le (.agg l) (.agg m):=fun M γ w v hr=>by
 obtain⟨h1,h2⟩:=h.at
 cases hr with
 | @agg _ vs hl hone hr=>
  refine .agg (by rw[hl,h1]) hone fun i d v hd hv=>?_
  have hi:i<l.length:=by rw[h1];exact (List.getElem?_eq_some_iff.1 hd).1
  exact h2 i _ d (List.getElem?_eq_getElem hi) hd _ _ _ _ (hr i _ v (List.getElem?_eq_getElem hi) hv)
theorem Le.aJ {l m:List D}(h:Les l m):Le (.aJ l) (.aJ m):=fun M γ w v hr=>by
 obtain⟨h1,h2⟩:=h.at
 cases hr with
 | @aJ _ vs hl hr=>
  refine .aJ (by rw[hl,h1]) fun i d v hd hv=>?_
  have hi:i<l.length:=by rw[h1];exact (List.getElem?_eq_some_iff.1 hd).1
  exact h2 i _ d (List.getElem?_eq_getElem hi) hd _ _ _ _ (hr i _ v (List.getElem?_eq_getElem hi) hv)
end Go.Id
namespace Go.Proofs
open Go Go.Id
set_option maxRecDepth 10000
set_option maxHeartbeats 4000000
def mY (k:Key)(s:List UInt8):List UInt8:=k.id++[58]++qx k.sec s
def fJ (l:List Key)(s:List UInt8)(now:Int):List UInt8 × Int:=if eqK (qE l now) dK=true then ([],26) else (mY (qE l now) s,0)
theorem sW (k s:List UInt8):(qx k s).length=16:=wV _
theorem Vz {l:List Key}(now:Int)(h:∀k∈l,k.ok):(qE l now).ok:=by
 cases he:eqK (qE l now) dK with
 |true=>rw[(PS _ _).1 he];exact JL
 |false=>exact h _ (JO he).2.1
theorem LK (k:Key)(s:List UInt8)(hk:k.ok)(hs:s.length≤1099511627776):ak Pr 120 [.agg [.str k.id,.str k.sec,.int .i64 k.sf,.int .i64 k.su,.int .i64 k.af,.int .i64 k.au],.str s] (.str (mY k s)):=by
 refine ak.W Tryz.func120 Tryz.ntmps120 ?_
 simp only[ay,Nat.zero_add]
 refine WP.S [1,2,4] fun _ z=>?_;simp +decide only[TF,↓reduceIte];apply z;clear z
 refine WP.D [1,2,4] fun _ z=>?_
 simp +decide only[W,aB,qU,uz,ql,qV,↓reduceIte]
 refine⟨by have:=hk.1;omega,?_⟩
 refine aj.pure (aa' k.sec s hk.2 hs) rfl (by simp[fg]) (by simp) ?_
 simp +decide only[W,aB,↓reduceIte]
 refine⟨by have:=hk.1;have:=sW k.sec s;simp;omega,?_⟩
 refine z _ _ (by kernel_rfl) ?_;clear z
 apply WP.ret
 exact Ends.P rfl (Le.of_eq (by first|(simp +decide only[St.get,W,mY,↓reduceIte];done)|(simp[St.get,lk,W,bne,mY];done)|(simp_all[St.get,lk,W,LN,bne,mY];done)|(simp_all[St.get,lk,W,LN,bne,mY];intros;first|omega|(rw[Bool.eq_iff_iff];simp;try omega))))
theorem LM (k:Key)(s:List UInt8)(hk:k.ok)(hs:s.length≤1099511627776):ak Pr 122 [.agg [.str k.id,.str k.sec,.int .i64 k.sf,.int .i64 k.su,.int .i64 k.af,.int .i64 k.au],.str s] (.str (mY k s)):=by
 refine ak.W Tryz.func122 Tryz.ntmps122 ?_
 simp only[ay,Nat.zero_add]
 refine WP.S [1,2,4] fun _ z=>?_;simp +decide only[TF,↓reduceIte];apply z;clear z
 refine WP.D [1,2,4] fun _ z=>?_
 simp +decide only[W,aB,qU,uz,ql,qV,↓reduceIte]
 refine⟨by have:=hk.1;omega,?_⟩
 refine aj.pure (aej k.sec s hk.2 hs) rfl (by simp[fg]) (by simp) ?_
 simp +decide only[W,aB,↓reduceIte]
 refine⟨by have:=hk.1;have:=sW k.sec s;simp;omega,?_⟩
 refine z _ _ (by kernel_rfl) ?_;clear z
 apply WP.ret
 exact Ends.P rfl (Le.of_eq (by first|(simp +decide only[St.get,W,mY,↓reduceIte];done)|(simp[St.get,lk,W,bne,mY];done)|(simp_all[St.get,lk,W,LN,bne,mY];done)|(simp_all[St.get,lk,W,LN,bne,mY];intros;first|omega|(rw[Bool.eq_iff_iff];simp;try omega))))
abbrev wW:List Nat:=[0,1,2,6,7,8,9,17]
theorem abd (l:List Key)(nl:Bool)(hn:l.length≤1099511627776)(hnl:nl=true→l=[])(hl:∀k∈l,k.ok)(s:List UInt8)(hs:s.length≤1099511627776)(now:Int):ak Pr 63 [.slice 6 nl (l.map Key.cs) none,.str s,.int .i64 now] (.aJ [.str (fJ l s now).1,.int .i64 (fJ l s now).2]):=by
 have hok:=Vz now hl
 refine ak.W Tryz.func63 Tryz.ntmps63 ?_
 simp only[ay,Nat.reduceAdd,Nat.zero_add]
 refine WP.S wW fun _ z=>?_;simp +decide only[TF,↓reduceIte];apply z;clear z
 refine WP.S wW fun _ z=>?_
 simp +decide only[W,aB,↓reduceIte]
 refine aj.P (YG l nl now hn hnl hl) rfl rfl ?_
 simp +decide only[W,aB,uG,sH,↓reduceIte]
 apply z;clear z
 iterate 2 first|(refine WP.S wW fun _ z=>?_;simp +decide only[TF,↓reduceIte];apply z;clear z)|apply WP.seq
 refine WP.cond rfl (fun q1=>?_) (fun q1=>?_)
 ·skip
  simp only[Bool.not_eq_true',Bool.not_eq_false'] at q1
  refine WP.S wW fun _ z=>?_;simp +decide only[TF,q1,↓reduceIte];apply z;clear z
  apply WP.ret
  exact Ends.P (d:= .aJ [_,_]) rfl (Le.of_eq (by first|(simp +decide only[St.get,lk,W,fJ,q1,↓reduceIte];done)|(simp[St.get,lk,W,bne,fJ,q1];done)|(simp_all[St.get,lk,W,LN,bne,fJ];done)|(simp_all[St.get,lk,W,LN,bne,fJ];intros;first|omega|(rw[Bool.eq_iff_iff];simp;try omega))))
 skip
 simp only[Bool.not_eq_true',Bool.not_eq_false'] at q1
 apply WP.skip;show WP ..
 refine WP.S wW fun _ z=>?_
 simp +decide only[W,aB,sH,xY,q1,↓reduceIte]
 refine aj.P (LK (qE l now) s hok hs) rfl rfl ?_
 simp +decide only[W,aB,↓reduceIte]
 apply z;clear z
 apply WP.ret
 exact Ends.P (d:= .aJ [_,_]) rfl (Le.of_eq (by first|(simp +decide only[St.get,lk,W,fJ,q1,↓reduceIte];done)|(simp[St.get,lk,W,bne,fJ,q1];done)|(simp_all[St.get,lk,W,LN,bne,fJ];done)|(simp_all[St.get,lk,W,LN,bne,fJ];intros;first|omega|(rw[Bool.eq_iff_iff];simp;try omega))))
abbrev wX:List Nat:=[0,1,2,6,7,8,9,17]
theorem abe (l:List Key)(nl:Bool)(hn:l.length≤1099511627776)(hnl:nl=true→l=[])(hl:∀k∈l,k.ok)(s:List UInt8)(hs:s.length≤1099511627776)(now:Int):ak Pr 64 [.slice 6 nl (l.map Key.cs) none,.str s,.int .i64 now] (.aJ [.str (fJ l s now).1,.int .i64 (fJ l s now).2]):=by
 have hok:=Vz now hl
 refine ak.W Tryz.func64 Tryz.ntmps64 ?_
 simp only[ay,Nat.reduceAdd,Nat.zero_add]
 refine WP.S wX fun _ z=>?_;simp +decide only[TF,↓reduceIte];apply z;clear z
 refine WP.S wX fun _ z=>?_
 simp +decide only[W,aB,↓reduceIte]
 refine aj.P (SH l nl now hn hnl hl) rfl rfl ?_
 simp +decide only[W,aB,uG,sH,↓reduceIte]
 apply z;clear z
 iterate 2 first|(refine WP.S wX fun _ z=>?_;simp +decide only[TF,↓reduceIte];apply z;clear z)|apply WP.seq
 refine WP.cond rfl (fun q1=>?_) (fun q1=>?_)
 ·skip
  simp only[Bool.not_eq_true',Bool.not_eq_false'] at q1
  refine WP.S wX fun _ z=>?_;simp +decide only[TF,q1,↓reduceIte];apply z;clear z
  apply WP.ret
  exact Ends.P (d:= .aJ [_,_]) rfl (Le.of_eq (by first|(simp +decide only[St.get,lk,W,fJ,q1,↓reduceIte];done)|(simp[St.get,lk,W,bne,fJ,q1];done)|(simp_all[St.get,lk,W,LN,bne,fJ];done)|(simp_all[St.get,lk,W,LN,bne,fJ];intros;first|omega|(rw[Bool.eq_iff_iff];simp;try omega))))
 skip
 simp only[Bool.not_eq_true',Bool.not_eq_false'] at q1
 apply WP.skip;show WP ..
 refine WP.S wX fun _ z=>?_
 simp +decide only[W,aB,sH,xY,q1,↓reduceIte]
 refine aj.P (LM (qE l now) s hok hs) rfl rfl ?_
 simp +decide only[W,aB,↓reduceIte]
 apply z;clear z
 apply WP.ret
 exact Ends.P (d:= .aJ [_,_]) rfl (Le.of_eq (by first|(simp +decide only[St.get,lk,W,fJ,q1,↓reduceIte];done)|(simp[St.get,lk,W,bne,fJ,q1];done)|(simp_all[St.get,lk,W,LN,bne,fJ];done)|(simp_all[St.get,lk,W,LN,bne,fJ];intros;first|omega|(rw[Bool.eq_iff_iff];simp;try omega))))
end Go.Proofs
namespace Go.Proofs
open Go Go.Id
def keD (l:List Key)(x:List UInt8):D:=if Xg l x=0 then .aJ [.slice 6 false ((l++[ZO x]).map Key.cs) none,.int .i64 0] else .aJ [.slice 6 true [] none,.int .i64 (Xg l x)]
@[simp] theorem akI {S:Nat→Prop}(l:List Key)(x:List UInt8):cZ S (keD l x)↔True:=by
 unfold keD
 split
 ·simp only[Hr,mQ,iff_true,List.mem_cons,List.not_mem_nil,or_false,forall_eq_or_imp,forall_eq,adu,and_true]
  refine⟨fun e he d hd=>?_,nofun⟩
  obtain⟨k,hk,rfl⟩:=List.mem_map.1 he
  exact (JI _).2 trivial k hk d hd
 ·simp
theorem ahf {S:Nat→Prop}(l:List Key)(nl:Bool):∀d∈[D.slice 6 nl (l.map Key.cs) none],cZ S d:=by
 intro d hd
 rw[List.mem_singleton.1 hd,mQ]
 refine⟨fun e he d hd=>?_,nofun⟩
 obtain⟨k,hk,rfl⟩:=List.mem_map.1 he
 exact (JI _).2 trivial k hk d hd
set_option maxRecDepth 10000
set_option maxHeartbeats 4000000
def YQ:D:= .agg [.str [],.str [],.slice 0 true [] none,.int .i64 0,.int .i64 0]
def afU (n:Nat)(p:kK)(l:List UInt8):D:=if stE n p l=0 then .aJ [.agg (stP n p l).cs,.int .i64 0] else .aJ [YQ,.int .i64 (stE n p l)]
@[simp] theorem aie {S:Nat→Prop}(n:Nat)(p:kK)(l:List UInt8):cZ S (afU n p l)↔True:=by
 unfold afU YQ
 split <;> simp[kK.cs]
def Xp (s:List UInt8):Int:=Lib.lastIndexByte ⟨s.toArray⟩ 58
def ael (s:List UInt8):List UInt8 × Bool:=if Xp s<0 then ([],false) else if aX (s.take (Xp s).toNat)=true then (s.take (Xp s).toNat,(Tn (s.drop ((Xp s).toNat+1))).2 == 0) else ([],false)
abbrev TS:=List (List UInt8 × kK × Nat)
def yh (ms:TS):List (List UInt8 × D × Nat):=ms.map fun e=>(e.1,.agg e.2.1.cs,e.2.2)
def gY:TS→List UInt8→Option kK
 | [],_=>none
 |(k,p,_)::ms,s=>if s=k then some p else gY ms s
def aem:TS→List UInt8→kK→TS
 | [],_,_=>[]
 |(k,p,n)::ms,s,x=>if s=k then (k,x,n)::ms else (k,p,n)::aem ms s x
def VA (ms:TS)(c:Nat)(s:List UInt8)(x:kK):TS:=match gY ms s with|some _=>aem ms s x|none=>ms++[(s,x,c)]
def Oe (ms:TS)(c:Nat)(s:List UInt8):Nat:=match gY ms s with|some _=>c|none=>c+1
theorem uN:∀(ms:TS) (s:List UInt8),je (yh ms) s=(gY ms s).map fun p=> .agg p.cs
 | [],_=>rfl
 |(k,p,n)::ms,s=>by
  show (if s=k then some (D.agg p.cs) else je (yh ms) s)=_
  unfold gY
  rw[uN ms s]
  split <;> rfl
theorem abf:∀(ms:TS) (s:List UInt8) (x:kK),OX (yh ms) s (.agg x.cs)=yh (aem ms s x)
 | [],_,_=>rfl
 |(k,p,n)::ms,s,x=>by
  show (if s=k then _ else _)=_
  unfold aem
  rw[← yh,abf ms s x]
  split <;> rfl
theorem ahg (ms:TS)(c:Nat)(s:List UInt8)(x:kK):GR (yh ms) c s (.agg x.cs)=yh (VA ms c s x):=by
 unfold GR VA
 rw[uN]
 cases gY ms s with
 |none=>simp[yh]
 |some q=>exact abf ms s x
theorem aen (ms:TS)(c:Nat)(s:List UInt8):Ic (yh ms) c s=Oe ms c s:=by
 unfold Ic Oe
 rw[uN]
 cases gY ms s <;> rfl
theorem aeo (ms:TS):(yh ms).length=ms.length:=by simp[yh]
theorem aep {S:Nat→Prop}(ms:TS):∀e∈yh ms,cZ S e.2.1:=by
 intro e he
 obtain⟨x,_,rfl⟩:=List.mem_map.1 he
 simp[kK.cs]
theorem ahh (b:Nat):dW Tryz.prog .neq 136 true (.map b) .bG=some (aH (.bool true)):=by
 simp[dW,isEq,eqNil,Dy]
@[simp] theorem ajr {S:Nat→Prop}(ms:TS):(∀(a:List UInt8) (d:D) (n:Nat),(a,d,n)∈yh ms→cZ S d)↔True:=by
 simp only[iff_true]
 exact fun a d n h=>aep ms _ h
def aer:aU:= .box 55 [.str [],.str [],.slice 0 true [] none,.int .i64 0,.int .i64 0]
theorem LP (p:kK)(hnk:p.nk=false)(st:St)(h1:st.get 1= .ref 0 0)(h2:st.get 2= .ref 1 0)
  (hb0:lk st.σ 0=some (.box 55 [.str p.id,.str p.addr,.arr 2 6 p.keys.length,.int .i64 p.f,.int .i64 p.u])) (hb1:lk st.σ 1=some aer) (hb2:lk st.σ 2=some (.arr 99 (flatK p.keys))) (hn:∀i,2<i→lk st.σ i=none):
  Weak [] st ⟨[(1,.ref 0 0),(2,.ref 1 0)],[(0,.box 55 [.str p.id,.str p.addr,.slice 6 false (p.keys.map Key.cs) none,.int .i64 p.f,.int .i64 p.u]),(1,aer)]⟩:=by
 refine Weak.freeze 2 99 6 (p.keys.map Key.cs) hb2 ?_ (by decide) (by simp[lk]) ?_ ?_ ?_
 ·intro x hx
  obtain⟨k,_,rfl⟩:=List.mem_map.1 hx
  rfl
 ·intro x hx d hd
  obtain⟨k,hk,rfl⟩:=List.mem_map.1 hx
  exact (JI p.keys).2 trivial k hk d hd
 ·intro q hq
  simp at hq
  rcases hq with rfl|rfl
  ·exact .inl ⟨h1.symm,by rw[h1];simp⟩
  ·exact .inl ⟨h2.symm,by rw[h2];simp⟩
 ·intro i hi
  rcases (by omega:i=0∨i=1∨2<i) with rfl|rfl|h
  ·refine .inr ⟨_,_,hb0,rfl,rfl,?_⟩
   exact⟨.inl ⟨rfl,by simp⟩,.inl ⟨rfl,by simp⟩,.inr ⟨by rw[List.length_map],rfl⟩,.inl ⟨rfl,by simp⟩,.inl ⟨rfl,by simp⟩,trivial⟩
  ·refine .inr ⟨_,_,hb1,rfl,rfl,?_⟩
   exact⟨.inl ⟨rfl,by simp⟩,.inl ⟨rfl,by simp⟩,.inl ⟨rfl,by simp⟩,.inl ⟨rfl,by simp⟩,.inl ⟨rfl,by simp⟩,trivial⟩
  ·refine .inl ⟨hn i h,?_⟩
   have e0:i≠0:=by omega
   have e1:i≠1:=by omega
   simp[lk,e0,e1]
theorem DT (b:Nat):cells? (.map b)=some [.map b]:=rfl
theorem ahi {σ:List (Nat × aU)}{i:Nat}(h:2<i)(hσ:(σ.all fun q=>decide (q.1≤2))=true):lk σ i=none:=by
 induction σ with
 |nil=>rfl
 |cons q t ih=>
  obtain⟨j,x⟩:=q
  simp only[List.all_cons,Bool.and_eq_true,decide_eq_true_eq] at hσ
  rw[lk,if_neg (by omega)]
  exact ih hσ.2
theorem Tv (p:kK)(hp:p.ok)(hne:p.keys≠[]):ak Pr 91 [.agg [.str p.id,.str p.addr,.slice 6 p.nk (p.keys.map Key.cs) none,.int .i64 p.f,.int .i64 p.u]] (.agg p.cs):=by
 have hnk:p.nk=false:=by cases h:p.nk with|false=>rfl|true=>exact absurd (hp.2.2.2.1 h) hne
 refine ak.W Tryz.func91 Tryz.ntmps91 ?_
 simp only[ay]
 refine WP.S [1,2] fun _ z=>?_;simp +decide only[TF,hnk,↓reduceIte];apply z;clear z
 refine WP.S [1,2] fun _ z=>?_
 simp +decide only[W,aB,nU,vX,xX,↓reduceIte]
 refine aj.imp (Vq 2 p.keys hne hp.2.2.1) rfl (by simp[fg]) (by simp) (by simp[lk]) (ahf _ _) ?_
 simp +decide only[W,aB,nU,vX,↓reduceIte]
 apply z;clear z
 refine WP.weak (LP p hnk _ (by simp[St.get,lk,W]) (by simp[St.get,W]) (by simp[lk]) (by simp[lk,aer]) (by simp[lk]) (fun i hi=>ahi hi rfl)) ?_
 refine WP.S [1,2] fun _ z=>?_;simp +decide only[TF,aer,↓reduceIte];apply z;clear z
 apply WP.ret
 exact Ends.pure (.inr rfl) rfl (Le.of_eq (by simp +decide only[W,aB,aek,kK.cs,hnk])) (by simp[kK.cs])
theorem afV:aG Pr 40 [] [] (.ref 1 0) [(0,.map (yh []) (0)),(1,.box 138 [.map 0])]:=by
 refine aG.of_wp Tryz.func40 rfl (by kernel_rfl) Tryz.ntmps40 (by simp) ?_
 simp only[ay,List.map_nil]
 iterate 2 (refine WP.S [0] fun _ z=>?_;simp +decide only[TF,DT,↓reduceIte];apply z;clear z)
 apply WP.ret
 refine Ends.imp (.inr rfl) rfl (Le.of_eq (by first|(simp +decide only[St.get,W,↓reduceIte];done)|(simp[St.get,lk,W,bne];done)|(simp_all[St.get,lk,W,LN,bne];done)|(simp_all[St.get,lk,W,LN,bne];intros;first|omega|(rw[Bool.eq_iff_iff];simp;try omega)))) ?_ ?_ ?_
 ·simp[lk]
 ·simp[lk,aA,yh]
 simp[lk]
def TS.ok (ms:TS):Prop:=∀e∈ms,e.2.1.ok∧e.2.1.keys≠[]
theorem Og:∀{ms:TS} {s:List UInt8} {a:kK},gY ms s=some a→∃n,(s,a,n)∈ms
 |(k,p,n)::ms,s,a,h=>by
  unfold gY at h
  split at h
  ·rename_i e;cases h;subst e;exact⟨n,by simp⟩
  ·obtain⟨m,hm⟩:=Og h;exact⟨m,by simp[hm]⟩
theorem Tz {ms:TS}(h:TS.ok ms){s:List UInt8}{a:kK}(hf:gY ms s=some a):a.ok∧a.keys≠[]:=by
 obtain⟨n,hn⟩:=Og hf
 exact h _ hn
theorem aes (ms:TS)(c:Nat)(s:List UInt8)(x:kK):GR (yh ms) c s (.agg [.str x.id,.str x.addr,.slice 6 x.nk (x.keys.map Key.cs) none,.int .i64 x.f,.int .i64 x.u])=yh (VA ms c s x):=ahg ms c s x
def BM (ms:TS)(p:kK)(t:Int):Int:=if (eu p != 0)=true then eu p else if decide (p.u≤aZ t)=true then 13 else if (gY ms p.id).isSome=true then 7 else if decide ((ms.length:Int)≥256)=true then 3 else 0
def anch (ms:TS)(c:Nat)(p:kK)(t:Int):Int × TS × Nat:=if BM ms p t=0 then (0,VA ms c p.id p,Oe ms c p.id) else (BM ms p t,ms,c)
theorem P7 {ms:TS}{c:Nat}{p:kK}{t e:Int}(h:BM ms p t=e)(he:e≠0):anch ms c p t=(e,ms,c):=by unfold anch;rw[if_neg (by rw[h];exact he),h]
theorem ahj {ms:TS}{c:Nat}{p:kK}{t:Int}(h:BM ms p t=0):anch ms c p t=(0,VA ms c p.id p,Oe ms c p.id):=by unfold anch;rw[if_pos h]
theorem VB {p:kK}(h:(eu p != 0)=false):p.keys≠[]:=by
 intro hk
 unfold eu at h
 rw[hk] at h
 repeat' split at h
 all_goals simp_all
def ajs (ms:TS)(text sig:List UInt8)(t:Int):Int:=
 if ((pP text).2.2 != 0)=true then 4 else if (!(ael sig).2)=true then 4 else
 match gY ms (pP text).1.id with
 |none=>6
 |some a=>if ((kV a.keys (ael sig).1 t 0).2 != 0)=true then (kV a.keys (ael sig).1 t 0).2 else if (!(sig == mY (kV a.keys (ael sig).1 t 0).1 text))=true then 17 else if decide ((pP text).1.f≤a.f)=true then 12 else 0
def upd (ms:TS)(c:Nat)(text sig:List UInt8)(t:Int):Int × TS × Nat:=if ajs ms text sig t=0 then (0,VA ms c (pP text).1.id (pP text).1,Oe ms c (pP text).1.id) else (ajs ms text sig t,ms,c)
def uZ (ms:TS)(id:List UInt8)(t:Int):D:=match gY ms id with|none=> .aJ [YQ,.int .i64 6]|some a=>if (f_ a.f a.u t 0 != 0)=true then .aJ [YQ,.int .i64 (f_ a.f a.u t 0)] else .aJ [.agg a.cs,.int .i64 0]
theorem abg {ms:TS}{id:List UInt8}{t:Int}(h:gY ms id=none):uZ ms id t= .aJ [YQ,.int .i64 6]:=by unfold uZ;rw[h]
theorem abh {ms:TS}{id:List UInt8}{t:Int}{a:kK}(h:gY ms id=some a)(he:(f_ a.f a.u t 0 != 0)=true):uZ ms id t= .aJ [YQ,.int .i64 (f_ a.f a.u t 0)]:=by unfold uZ;rw[h];exact if_pos he
theorem abj {ms:TS}{id:List UInt8}{t:Int}{a:kK}(h:gY ms id=some a)(he:(f_ a.f a.u t 0 != 0)=false):uZ ms id t= .aJ [.agg a.cs,.int .i64 0]:=by unfold uZ;rw[h];exact if_neg (by rw[he];simp)
@[simp] theorem aif {S:Nat→Prop}(ms:TS)(id:List UInt8)(t:Int):cZ S (uZ ms id t)↔True:=by
 unfold uZ YQ
 split
 ·simp
 ·split <;> simp[kK.cs]
theorem abk {ms:TS}{c:Nat}{p:kK}{t:Int}(h:(eu p != 0)=true):anch ms c p t=(eu p,ms,c):=P7 (by unfold BM;rw[if_pos h]) (by simpa using h)
theorem Xq {ms:TS}{c:Nat}{p:kK}{t:Int}(h:(eu p != 0)=false)(h2:decide (p.u≤aZ t)=true):anch ms c p t=(13,ms,c):=P7 (by unfold BM;rw[if_neg (by rw[h];simp),if_pos h2]) (by decide)
theorem ahk {ms:TS}{c:Nat}{p a:kK}{t:Int}(h:(eu p != 0)=false)(h2:decide (p.u≤aZ t)=false)(h3:gY ms p.id=some a):anch ms c p t=(7,ms,c):=P7 (by unfold BM;rw[if_neg (by rw[h];simp),if_neg (by rw[h2];simp),if_pos (by rw[h3];rfl)]) (by decide)
theorem ahl {ms:TS}{c:Nat}{p:kK}{t:Int}(h:(eu p != 0)=false)(h2:decide (p.u≤aZ t)=false)(h3:gY ms p.id=none)(h4:decide ((ms.length:Int)≥256)=true):anch ms c p t=(3,ms,c):=P7 (by unfold BM;rw[if_neg (by rw[h];simp),if_neg (by rw[h2];simp),if_neg (by rw[h3];simp),if_pos h4]) (by decide)
theorem VD {ms:TS}{c:Nat}{p:kK}{t:Int}(h:(eu p != 0)=false)(h2:decide (p.u≤aZ t)=false)(h3:gY ms p.id=none)(h4:decide ((ms.length:Int)≥256)=false):anch ms c p t=(0,VA ms c p.id p,Oe ms c p.id):=ahj (by unfold BM;rw[if_neg (by rw[h];simp),if_neg (by rw[h2];simp),if_neg (by rw[h3];simp),if_neg (by rw[h4];simp)])
theorem Xr:∀{l:List Key} {id:List UInt8} {now skew:Int},(∀k∈l,k.ok)→(kV l id now skew).1.ok
 | [],_,_,_,_=>JL
 |k::t,id,now,skew,h=>by
  rw[N7]
  split
  ·split
   ·exact JL
   ·exact h k (by simp)
  ·exact Xr fun k hk=>h k (by simp[hk])
theorem Xt (ms:TS)(c:Nat):aG Pr 88 [.ref 1 0] [(0,.map (yh ms) (c)),(1,.box 138 [.map 0])] (.bool true) [(0,.map (yh ms) (c)),(1,.box 138 [.map 0])]:=by
 refine aG.of_wp Tryz.func88 rfl (by kernel_rfl) Tryz.ntmps88 (by simp) ?_
 simp only[ay,List.map_cons,List.map_nil]
 iterate 2 (refine WP.S [0,2] fun _ z=>?_;simp +decide only[TF,ahh,↓reduceIte];apply z;clear z)
 apply WP.ret
 refine Ends.imp (.inr rfl) rfl (Le.of_eq (by first|(simp +decide only[St.get,W,↓reduceIte];done)|(simp[St.get,lk,W,bne];done)|(simp_all[St.get,lk,W,LN,bne];done)|(simp_all[St.get,lk,W,LN,bne];intros;first|omega|(rw[Bool.eq_iff_iff];simp;try omega)))) ?_ ?_ ?_
 ·simp
 ·simp[lk,aA]
 simp[lk]
abbrev eU:List Nat:=[0,2,4,6,7,9,12,25,29,36,38]
theorem JU (ms:TS)(c:Nat)(hms:TS.ok ms)(p:kK)(hp:p.ok)(t:Int):aG Pr 41 [.ref 1 0,.agg [.str p.id,.str p.addr,.slice 6 p.nk (p.keys.map Key.cs) none,.int .i64 p.f,.int .i64 p.u],.int .i64 t] [(0,.map (yh ms) (c)),(1,.box 138 [.map 0])] (.int .i64 (anch ms c p t).1) [(0,.map (yh (anch ms c p t).2.1) ((anch ms c p t).2.2)),(1,.box 138 [.map 0])]:=by
 refine aG.of_wp Tryz.func41 rfl (by kernel_rfl) Tryz.ntmps41 (by simp) ?_
 simp only[ay,Nat.reduceAdd,Nat.zero_add,List.map_cons,List.map_nil]
 iterate 2 first|(refine WP.S eU fun _ z=>?_;simp +decide only[TF,↓reduceIte];apply z;clear z)|apply WP.seq
 refine WP.S eU fun _ z=>?_
 simp +decide only[W,aB,↓reduceIte]
 refine aj.I (Xt ms c) rfl rfl ?_
 simp +decide only[W,aB,↓reduceIte]
 apply z;clear z
 refine WP.cond (b:=false) (by first|rfl|simp[W]) nofun (fun _=>?_)
 apply WP.skip;show WP ..
 refine WP.S eU fun _ z=>?_
 simp +decide only[W,aB,sF,sG,↓reduceIte]
 refine aj.P (YL p hp) rfl rfl ?_
 simp +decide only[W,aB,↓reduceIte]
 apply z;clear z
 rcases hF:gY ms p.id with _|a
 ·skip
  iterate 4 first|(refine WP.D eU fun _ z=>?_;simp +decide only[TF,hF,kK.cs,uN,↓reduceIte];refine z _ _ (by kernel_rfl) ?_;clear z)|(refine WP.S eU fun _ z=>?_;simp +decide only[TF,↓reduceIte];apply z;clear z)|apply WP.block|apply WP.seq
  refine WP.cond rfl (fun q1=>?_) (fun q1=>?_)
  ·skip
   have hR:=abk (ms:=ms) (c:=c) (t:=t) (by assumption)
   refine WP.S eU fun _ z=>?_;simp +decide only[TF,q1,↓reduceIte];apply z;clear z
   apply WP.ret
   refine Ends.imp (.inr rfl) rfl (Le.of_eq (by first|(simp +decide only[St.get,W,hR,↓reduceIte];done)|(simp[St.get,lk,W,bne,hF,q1,hR];done)|(simp_all[St.get,lk,W,LN,bne];done)|(simp_all[St.get,lk,W,LN,bne];intros;first|omega|(rw[Bool.eq_iff_iff];simp;try omega)))) ?_ ?_ ?_
   ·simp
   ·simp[lk,aA,hR]
   simp[lk]
  skip
  refine WP.D eU fun _ z=>?_
  simp +decide only[W,aB,lq,lu,uy,qj,q1,↓reduceIte]
  refine aj.P (Gt t) rfl rfl ?_
  simp +decide only[W,aB,↓reduceIte]
  refine z _ _ (by kernel_rfl) ?_;clear z
  refine WP.cond rfl (fun q2=>?_) (fun q2=>?_)
  ·skip
   have hR:=Xq (ms:=ms) (c:=c) (t:=t) (by assumption) (by assumption)
   refine WP.S eU fun _ z=>?_;simp +decide only[TF,q2,↓reduceIte];apply z;clear z
   apply WP.ret
   refine Ends.imp (.inr rfl) rfl (Le.of_eq (by first|(simp +decide only[St.get,W,hR,↓reduceIte];done)|(simp[St.get,lk,W,bne,hF,q1,q2,hR];done)|(simp_all[St.get,lk,W,LN,bne];done)|(simp_all[St.get,lk,W,LN,bne];intros;first|omega|(rw[Bool.eq_iff_iff];simp;try omega)))) ?_ ?_ ?_
   ·simp
   ·simp[lk,aA,hR]
   simp[lk]
  skip
  refine WP.S eU fun _ z=>?_;simp +decide only[TF,q2,↓reduceIte];apply z;clear z
  refine WP.cond (b:=false) (by first|rfl|simp[W,hF,q1,q2]) nofun (fun _=>?_)
  refine WP.S eU fun _ z=>?_;simp +decide only[TF,aeo,↓reduceIte];apply z;clear z
  refine WP.cond rfl (fun q3=>?_) (fun q3=>?_)
  ·skip
   have hR:=ahl (ms:=ms) (c:=c) (t:=t) (by assumption) (by assumption) hF (by assumption)
   refine WP.S eU fun _ z=>?_;simp +decide only[TF,q3,↓reduceIte];apply z;clear z
   apply WP.ret
   refine Ends.imp (.inr rfl) rfl (Le.of_eq (by first|(simp +decide only[St.get,W,hR,↓reduceIte];done)|(simp[St.get,lk,W,bne,hF,q1,q2,q3,hR];done)|(simp_all[St.get,lk,W,LN,bne];done)|(simp_all[St.get,lk,W,LN,bne];intros;first|omega|(rw[Bool.eq_iff_iff];simp;try omega)))) ?_ ?_ ?_
   ·simp
   ·simp[lk,aA,hR]
   simp[lk]
  skip
  have hR:=VD (ms:=ms) (c:=c) (t:=t) (by assumption) (by assumption) hF (by assumption)
  apply WP.skip;show WP ..
  refine WP.D eU fun _ z=>?_
  simp +decide only[W,aB,uH,Dw,zG,qW,uz,ql,sF,sG,q3,↓reduceIte]
  refine aj.P (Tv p hp (VB (by assumption))) rfl rfl ?_
  simp +decide only[W,aB,zF,kK.cs,aes,aen,↓reduceIte]
  refine z _ _ (by kernel_rfl) ?_;clear z
  refine WP.S eU fun _ z=>?_;simp +decide only[TF,↓reduceIte];apply z;clear z
  apply WP.ret
  refine Ends.imp (.inr rfl) rfl (Le.of_eq (by first|(simp +decide only[St.get,W,hR,↓reduceIte];done)|(simp[St.get,lk,W,bne,hF,q1,q2,q3,hR];done)|(simp_all[St.get,lk,W,LN,bne];done)|(simp_all[St.get,lk,W,LN,bne];intros;first|omega|(rw[Bool.eq_iff_iff];simp;try omega)))) ?_ ?_ ?_
  ·simp
  ·simp[lk,aA,hR]
  simp[lk]
 skip
 iterate 4 first|(refine WP.D eU fun _ z=>?_;simp +decide only[TF,hF,kK.cs,uN,↓reduceIte];refine z _ _ (by kernel_rfl) ?_;clear z)|(refine WP.S eU fun _ z=>?_;simp +decide only[TF,↓reduceIte];apply z;clear z)|apply WP.block|apply WP.seq
 refine WP.cond rfl (fun q4=>?_) (fun q4=>?_)
 ·skip
  have hR:=abk (ms:=ms) (c:=c) (t:=t) (by assumption)
  refine WP.S eU fun _ z=>?_;simp +decide only[TF,q4,↓reduceIte];apply z;clear z
  apply WP.ret
  refine Ends.imp (.inr rfl) rfl (Le.of_eq (by first|(simp +decide only[St.get,W,hR,↓reduceIte];done)|(simp[St.get,lk,W,bne,hF,q4,hR];done)|(simp_all[St.get,lk,W,LN,bne];done)|(simp_all[St.get,lk,W,LN,bne];intros;first|omega|(rw[Bool.eq_iff_iff];simp;try omega)))) ?_ ?_ ?_
  ·simp
  ·simp[lk,aA,hR]
  simp[lk]
 skip
 refine WP.D eU fun _ z=>?_
 simp +decide only[W,aB,lq,lu,uy,qj,q4,↓reduceIte]
 refine aj.P (Gt t) rfl rfl ?_
 simp +decide only[W,aB,↓reduceIte]
 refine z _ _ (by kernel_rfl) ?_;clear z
 refine WP.cond rfl (fun q5=>?_) (fun q5=>?_)
 ·skip
  have hR:=Xq (ms:=ms) (c:=c) (t:=t) (by assumption) (by assumption)
  refine WP.S eU fun _ z=>?_;simp +decide only[TF,q5,↓reduceIte];apply z;clear z
  apply WP.ret
  refine Ends.imp (.inr rfl) rfl (Le.of_eq (by first|(simp +decide only[St.get,W,hR,↓reduceIte];done)|(simp[St.get,lk,W,bne,hF,q4,q5,hR];done)|(simp_all[St.get,lk,W,LN,bne];done)|(simp_all[St.get,lk,W,LN,bne];intros;first|omega|(rw[Bool.eq_iff_iff];simp;try omega)))) ?_ ?_ ?_
  ·simp
  ·simp[lk,aA,hR]
  simp[lk]
 skip
 have hR:=ahk (ms:=ms) (c:=c) (t:=t) (by assumption) (by assumption) hF
 refine WP.S eU fun _ z=>?_;simp +decide only[TF,q5,↓reduceIte];apply z;clear z
 refine WP.cond (b:=true) (by first|rfl|simp[W,hF,q4,q5,hR]) (fun _=>?_) nofun
 refine WP.S eU fun _ z=>?_;simp +decide only[TF,↓reduceIte];apply z;clear z
 apply WP.ret
 refine Ends.imp (.inr rfl) rfl (Le.of_eq (by first|(simp +decide only[St.get,W,hR,↓reduceIte];done)|(simp[St.get,lk,W,bne,hF,q4,q5,hR];done)|(simp_all[St.get,lk,W,LN,bne];done)|(simp_all[St.get,lk,W,LN,bne];intros;first|omega|(rw[Bool.eq_iff_iff];simp;try omega)))) ?_ ?_ ?_
 ·simp
 ·simp[lk,aA,hR]
 simp[lk]
abbrev jB:List Nat:=[0,1,2,6,7,8,9,10,13,25,32]
theorem zN (ms:TS)(c:Nat)(hms:TS.ok ms)(s:List UInt8)(t:Int):aG Pr 84 [.ref 1 0,.str s,.int .i64 t] [(0,.map (yh ms) (c)),(1,.box 138 [.map 0])] (uZ ms s t) [(0,.map (yh ms) (c)),(1,.box 138 [.map 0])]:=by
 refine aG.of_wp Tryz.func84 rfl (by kernel_rfl) Tryz.ntmps84 (by simp) ?_
 simp only[ay,Nat.reduceAdd,Nat.zero_add,List.map_cons,List.map_nil]
 iterate 2 first|(refine WP.S jB fun _ z=>?_;simp +decide only[TF,↓reduceIte];apply z;clear z)|apply WP.seq
 refine WP.S jB fun _ z=>?_
 simp +decide only[W,aB,↓reduceIte]
 refine aj.I (Xt ms c) rfl rfl ?_
 simp +decide only[W,aB,↓reduceIte]
 apply z;clear z
 refine WP.cond (b:=false) (by first|rfl|simp[W]) nofun (fun _=>?_)
 apply WP.skip;show WP ..
 rcases hF:gY ms s with _|a
 ·skip
  have hR:=abg (t:=t) hF
  iterate 3 first|(refine WP.S jB fun _ z=>?_;simp +decide only[TF,hF,kK.cs,uN,↓reduceIte];apply z;clear z)|apply WP.seq
  refine WP.cond (b:=true) (by first|rfl|simp[W,hF,hR]) (fun _=>?_) nofun
  refine WP.S jB fun _ z=>?_;simp +decide only[TF,↓reduceIte];apply z;clear z
  apply WP.ret
  refine Ends.imp (d:= .aJ [_,_]) (.inr rfl) rfl (Le.of_eq (by rw[hR];simp +decide only[St.get,W,aB,aek,YQ,↓reduceIte])) ?_ ?_ ?_
  ·simp
  ·simp[lk,aA]
  simp[lk]
 skip
 have ha:=Tz hms hF
 iterate 3 first|(refine WP.S jB fun _ z=>?_;simp +decide only[TF,hF,kK.cs,uN,↓reduceIte];apply z;clear z)|apply WP.seq
 refine WP.cond (b:=false) (by first|rfl|simp[W,hF]) nofun (fun _=>?_)
 iterate 2 first|(apply WP.skip;show WP ..)|apply WP.seq
 refine WP.S jB fun _ z=>?_
 simp +decide only[W,aB,lq,AX,xZ,↓reduceIte]
 refine aj.P (zJ a.f a.u t 0) rfl rfl ?_
 simp +decide only[W,aB,↓reduceIte]
 apply z;clear z
 refine WP.S jB fun _ z=>?_;simp +decide only[TF,↓reduceIte];apply z;clear z
 refine WP.cond rfl (fun q1=>?_) (fun q1=>?_)
 ·skip
  have hR:=abh hF q1
  refine WP.S jB fun _ z=>?_;simp +decide only[TF,q1,↓reduceIte];apply z;clear z
  apply WP.ret
  refine Ends.imp (d:= .aJ [_,_]) (.inr rfl) rfl (Le.of_eq (by rw[hR];simp +decide only[St.get,W,aB,aek,YQ,↓reduceIte])) ?_ ?_ ?_
  ·simp
  ·simp[lk,aA]
  simp[lk]
 skip
 have hR:=abj hF q1
 apply WP.skip;show WP ..
 refine WP.S jB fun _ z=>?_
 simp +decide only[W,aB,sF,sG,q1,↓reduceIte]
 refine aj.P (Tv a ha.1 ha.2) rfl rfl ?_
 simp +decide only[W,aB,sF,kK.cs,↓reduceIte]
 apply z;clear z
 apply WP.ret
 refine Ends.imp (d:= .aJ [_,_]) (.inr rfl) rfl (Le.of_eq (by rw[hR];simp +decide only[St.get,W,aB,aek,kK.cs,↓reduceIte])) ?_ ?_ ?_
 ·simp
 ·simp[lk,aA]
 simp[lk]
theorem mZ:∀a:List UInt8,Op.bytesLess a a=false
 | []=>rfl
 |c::a=>by simp[Op.bytesLess,mZ a]
theorem lZ:∀a b c:List UInt8,Op.bytesLess a b=true→Op.bytesLess b c=true→Op.bytesLess a c=true
 | _,[],_,h,_=>by simp[Op.bytesLess] at h
 | _,_::_,[],_,h=>by simp[Op.bytesLess] at h
 | [],_::_,_::_,_,_=>rfl
 |x::a,y::b,z::c,h,k=>by
  simp only[Op.bytesLess,Bool.or_eq_true,decide_eq_true_eq,Bool.and_eq_true,beq_iff_eq] at h k ⊢
  rcases h with h | ⟨rfl,h⟩
  ·rcases k with k | ⟨rfl,k⟩
   ·exact .inl (UInt8.lt_trans h k)
   ·exact .inl h
  ·rcases k with k | ⟨rfl,k⟩
   ·exact .inl k
   ·exact .inr ⟨rfl,lZ a b c h k⟩
theorem qy:∀a b:List UInt8,Op.bytesLess a b=true∨a=b∨Op.bytesLess b a=true
 | [],[]=> .inr (.inl rfl)
 | [],_::_=> .inl rfl
 | _::_,[]=> .inr (.inr rfl)
 |x::a,y::b=>by
  simp only[Op.bytesLess,Bool.or_eq_true,decide_eq_true_eq,Bool.and_eq_true,beq_iff_eq,List.cons.injEq]
  rcases Nat.lt_trichotomy x.toNat y.toNat with h|h|h
  ·exact .inl (.inl (UInt8.lt_iff_toNat_lt.2 h))
  ·obtain rfl:x=y:=UInt8.toNat_inj.1 h
   rcases qy a b with h|rfl|h
   ·exact .inl (.inr ⟨rfl,h⟩)
   ·exact .inr (.inl ⟨rfl,rfl⟩)
   ·exact .inr (.inr (.inr ⟨rfl,h⟩))
  ·exact .inr (.inr (.inl (UInt8.lt_iff_toNat_lt.2 h)))
theorem qA (a b:List UInt8)(h:Op.bytesLess a b=true):Op.bytesLess b a=false:=by
 cases hb:Op.bytesLess b a
 ·rfl
 ·have:=lZ a b a h hb
  rw[mZ] at this;cases this
theorem abl {a b:List UInt8}(h:Op.bytesLess a b=true):a≠b:=by
 rintro rfl;rw[mZ] at h;cases h
theorem Xu (a b:List UInt8):decide (a≤b)=!(Op.bytesLess b a):=by
 rw[bytesLess_eq,Bool.eq_iff_iff]
 simp[List.le]
def Asc (l:List (List UInt8)):Prop:=l.Pairwise fun a b=>Op.bytesLess a b=true
theorem Asc.nodup {l:List (List UInt8)}(h:Asc l):l.Nodup:=List.Pairwise.imp (fun h=>abl h) h
theorem Asc.head {a:List UInt8}{l:List (List UInt8)}(h:Asc (a::l)):∀x∈l,Op.bytesLess a x=true:=(List.pairwise_cons.1 h).1
theorem Asc.tail {a:List UInt8}{l:List (List UInt8)}(h:Asc (a::l)):Asc l:=(List.pairwise_cons.1 h).2
theorem P8:∀{l k:List (List UInt8)},Asc l→Asc k→(∀x,x∈l↔x∈k)→l=k
 | [],[],_,_,_=>rfl
 | [],b::k,_,_,h=>by have:=(h b).2 (by simp);simp at this
 |a::l,[],_,_,h=>by have:=(h a).1 (by simp);simp at this
 |a::l,b::k,h1,h2,h=>by
  have hab:a=b:=by
   rcases List.mem_cons.1 ((h a).1 (by simp)) with e|e
   ·exact e
   ·rcases List.mem_cons.1 ((h b).2 (by simp)) with e'|e'
    ·exact e'.symm
    ·have q1:=h2.head a e
     have q2:=h1.head b e'
     rw[qA _ _ q1] at q2;cases q2
  subst hab
  rw[P8 h1.tail h2.tail fun x=>?_]
  constructor
  ·intro hx
   rcases List.mem_cons.1 ((h x).1 (by simp[hx])) with e|e
   ·subst e;have:=h1.head x hx;rw[mZ] at this;cases this
   ·exact e
  ·intro hx
   rcases List.mem_cons.1 ((h x).2 (by simp[hx])) with e|e
   ·subst e;have:=h2.head x hx;rw[mZ] at this;cases this
   ·exact e
def bT (l:List (List UInt8)):List (List UInt8):=l.mergeSort fun x y=>decide (x≤y)
theorem dL (l:List (List UInt8)):(bT l).length=l.length:=List.length_mergeSort l
theorem sZ (l:List (List UInt8))(x:List UInt8):x∈bT l↔x∈l:=List.mem_mergeSort
theorem zO (l:List (List UInt8)):(bT l).Perm l:=List.mergeSort_perm l _
theorem yj {l:List (List UInt8)}(h:l.Nodup):Asc (bT l):=by
 have hs:(bT l).Pairwise fun x y=>decide (x≤y)=true:=by
  refine List.pairwise_mergeSort (fun a b c h k=>?_) (fun a b=>?_) l
  ·rw[Xu,Bool.not_eq_true'] at h k ⊢
   cases hca:Op.bytesLess c a
   ·rfl
   ·rcases qy b c with q|rfl|q
    ·have:=lZ b c a q hca;rw[h] at this;cases this
    ·rw[h] at hca;cases hca
    ·rw[k] at q;cases q
  ·rw[Xu,Xu]
   cases hba:Op.bytesLess b a
   ·rfl
   ·rw[qA _ _ hba];rfl
 have hn:(bT l).Nodup:=(zO l).nodup_iff.2 h
 refine List.Pairwise.imp₂ (fun a b h1 h2=>?_) hs hn
 rw[Xu,Bool.not_eq_true'] at h1
 rcases qy a b with q|q|q
 ·exact q
 ·exact absurd q h2
 ·rw[h1] at q;cases q
theorem tq {l k:List (List UInt8)}(hl:l.Nodup)(hk:Asc k)(h:∀x,x∈l↔x∈k):bT l=k:=P8 (yj hl) hk fun x=>by rw[sZ,h]
abbrev yO:=List (List UInt8 × D × Nat)
structure aeu (q:yO × Nat):Prop where
 keys:(q.1.map (·.1)).Nodup
 born:(q.1.map (·.2.2)).Nodup
 lt:∀e∈q.1,e.2.2<q.2
theorem afW (l:List (List UInt8)):(l.map fun x=>[D.str x]).flatten=l.map .str:=by
 induction l with
 |nil=>rfl
 |cons a l ih=>simp[ih]
theorem ajt (t:Nat)(l:List (List UInt8)):∀e∈(l.map fun x=>[D.str x]),∀d∈e,Fr t d:=by
 simp only[List.mem_map]
 rintro e ⟨x,_,rfl⟩ d hd
 simp only[List.mem_singleton] at hd;subst hd;exact .str _
theorem ahm (l:List (List UInt8)):∀e∈(l.map fun x=>[D.str x]),e.length=1:=by
 simp only[List.mem_map]
 rintro e ⟨x,_,rfl⟩;rfl
theorem Oh:bT []=[]:=by simp[bT]
theorem abm {a:List UInt8}{l:List (List UInt8)}:(bT (a::l)).isEmpty=false:=by
 have:=dL (a::l)
 cases h:bT (a::l) with
 |nil=>rw[h] at this;simp at this
 |cons=>rfl
structure MI (es:yO) (seen:List Nat) (ks:List (List UInt8)):Prop where
 nodup:ks.Nodup
 old:∀k∈ks,∃d n,(k,d,n)∈es∧n∈seen
 all:∀e∈es,e.2.2∈seen→e.1∈ks
theorem MI.nil (es:yO):MI es [] []:=⟨by simp,by simp,by simp⟩
theorem YR {es:yO}(h:(es.map (·.1)).Nodup){e f:List UInt8 × D × Nat}(he:e∈es)(hf:f∈es)(hk:e.1=f.1):e=f:=by
 obtain⟨i,hi,rfl⟩:=List.mem_iff_getElem.1 he
 obtain⟨j,hj,rfl⟩:=List.mem_iff_getElem.1 hf
 have:=(List.getElem_inj (i:=i) (j:=j) (h₀:=by simpa using hi) (h₁:=by simpa using hj) h).1 (by simpa using hk)
 subst this;rfl
theorem VE {es:yO}(h:(es.map (·.2.2)).Nodup){e f:List UInt8 × D × Nat}(he:e∈es)(hf:f∈es)(hk:e.2.2=f.2.2):e=f:=by
 obtain⟨i,hi,rfl⟩:=List.mem_iff_getElem.1 he
 obtain⟨j,hj,rfl⟩:=List.mem_iff_getElem.1 hf
 have:=(List.getElem_inj (i:=i) (j:=j) (h₀:=by simpa using hi) (h₁:=by simpa using hj) h).1 (by simpa using hk)
 subst this;rfl
theorem tu {es:yO}{seen:List Nat}{e:List UInt8 × D × Nat}(h:e∈iG es seen):e∈es∧e.2.2 ∉ seen:=by
 unfold iG at h
 rw[List.mem_filter] at h
 exact⟨h.1,by simpa using h.2⟩
theorem MI.next {q:yO × Nat}(hq:aeu q){seen:List Nat}{ks:List (List UInt8)}(h:MI q.1 seen ks){e:List UInt8 × D × Nat}(he:e∈iG q.1 seen):MI q.1 (seen++[e.2.2]) (ks++[e.1]):=by
 obtain⟨h1,h2⟩:=tu he
 refine⟨?_,fun k hk=>?_,fun f hf hfs=>?_⟩
 ·rw[List.nodup_append]
  refine⟨h.nodup,by simp,fun a ha b hb=>?_⟩
  simp at hb;subst hb
  rintro rfl
  obtain⟨d,n,h3,h4⟩:=h.old _ ha
  have:=YR hq.keys h1 h3 rfl
  exact h2 (by rw[this];exact h4)
 ·rcases List.mem_append.1 hk with hk|hk
  ·obtain⟨d,n,h3,h4⟩:=h.old k hk;exact⟨d,n,h3,by simp[h4]⟩
  ·simp at hk;subst hk;exact⟨e.2.1,e.2.2,h1,by simp⟩
 ·rcases List.mem_append.1 hfs with hfs|hfs
  ·exact List.mem_append_left _ (h.all f hf hfs)
  ·simp at hfs
   have:=VE hq.born hf h1 hfs
   subst this;simp
theorem P9 {es:yO}{seen:List Nat}{e:List UInt8 × D × Nat}(h:e∈iG es seen):(iG es (seen++[e.2.2])).length<(iG es seen).length:=by
 have e1:iG es (seen++[e.2.2])=(iG es seen).filter fun x=>!(x.2.2 == e.2.2):=by
  unfold iG
  rw[List.filter_filter]
  congr 1;funext x
  simp only[List.contains_eq_mem,List.mem_append,List.mem_singleton]
  by_cases a:x.2.2∈seen <;> by_cases b:x.2.2=e.2.2 <;> simp[a,b]
 rw[e1,List.length_filter_lt_length_iff_exists]
 exact⟨e,h,by simp⟩
theorem DU {α:Type}[BEq α][LawfulBEq α]:∀{a b:List α},a.Nodup→(∀x∈a,x∈b)→a.length≤b.length
 | [],b,_,_=>by simp
 |x::a,b,hn,h=>by
  rw[List.nodup_cons] at hn
  have h1:=DU (a:=a) (b:=b.erase x) hn.2 fun y hy=>by
   have hxy:y≠x:=fun e=>hn.1 (e ▸ hy)
   exact (List.mem_erase_of_ne hxy).2 (h y (by simp[hy]))
  have h2:=List.length_erase_of_mem (h x (by simp))
  have h3:0<b.length:=List.length_pos_of_mem (h x (by simp))
  simp;omega
theorem MI.len {q:yO × Nat}(hq:aeu q){seen:List Nat}{ks:List (List UInt8)}(h:MI q.1 seen ks):ks.length≤q.1.length:=
 by
 rw[← List.length_map (f:=fun e:List UInt8 × D × Nat=>e.1)]
 exact DU h.nodup fun x hx=>by
  obtain⟨d,n,h1,_⟩:=h.old x hx
  exact List.mem_map.2 ⟨_,h1,rfl⟩
theorem MI.done {q:yO × Nat}(hq:aeu q){seen:List Nat}{ks:List (List UInt8)}(h:MI q.1 seen ks)(hl:iG q.1 seen=[]):bT ks=bT (q.1.map (·.1)):=by
 refine tq h.nodup (yj hq.keys) fun x=>?_
 rw[sZ]
 constructor
 ·intro hx
  obtain⟨d,n,h1,_⟩:=h.old x hx
  exact List.mem_map.2 ⟨_,h1,rfl⟩
 ·intro hx
  obtain⟨e,he,rfl⟩:=List.mem_map.1 hx
  refine h.all e he ?_
  by_cases hs:e.2.2∈seen
  ·exact hs
  ·exfalso
   have:e∈iG q.1 seen:=by unfold iG;rw[List.mem_filter];exact⟨he,by simpa using hs⟩
   rw[hl] at this;simp at this
end Go.Proofs
namespace Go.Proofs
open Go Go.Id Go.Shelf Go.Sort
theorem aev (l:List (List UInt8))(hn:l.length≤1099511627776):aG Pr 75 [.arr 0 1 l.length] [(0,.arr 9 (l.map .str))] (.aJ []) [(0,.arr 9 ((bT l).map .str))]:=by
 refine aG.rows (by simp[dL]) (dF Tryz.func75 (by kernel_rfl) (by kernel_rfl)) fun M γ w vs B cap z us hst hl hr hγ hB hsz hle h1 hrr=>?_
 match vs,hl with
 | [v0],_=>
  have q0:=hr 0 _ _ rfl rfl
  generalize hv0:v0=v0' at q0
  cases q0 with
  | @arr _ B' _ n cap' hγ' hn'=>
   rw[hγ] at hγ'
   cases hγ'
   subst hv0
   rw[List.length_map] at hle h1
   have hget:∀(L:List (List UInt8)) (t:Nat) (ht:t<L.length),L.toArray[t]! = L[t]:=fun L t ht=>by
    rw[getElem!_pos L.toArray t (by simpa using ht)];simp
   have hH:Holds encStr w B 0 l.toArray:=by
    intro t ht
    have ht':t<l.length:=by simpa using ht
    have hlt:t<us.size:=by omega
    have hu:=Array.getElem?_eq_getElem hlt
    have h3:=hrr t (.str l[t]) _ (by simp[ht']) hu
    have h4:us[t]=encStr l[t]:=by
     generalize us[t]=u at h3
     obtain⟨s,hs,e⟩:=str_inj h3
     rw[hs,encStr,← e]
    refine⟨?_,?_⟩
    ·rw[cell_of_row w B (0+t) us 9 _ hB,Nat.zero_add,hu,h4,hget l t ht']
    ·rw[Nat.zero_add];exact (h1 t _ ht' hu).2
   have hblk:B<w.heap.size:=(Array.getElem?_eq_some_iff.1 hB).1
   have hcon:=Tryz.slices_Sort_string B 0 cap l w hH hblk (by omega)
   refine hcon.mono ?_
   rintro e w' ⟨rfl,m,os,rfl⟩
   show ∃v us',_
   have hsA:(bT l).toArray.size=l.length:=by simp[dL]
   change ∃v us',_=_∧_∧(grow (putRow encStr (Sort.ahead w m) B 0 (bT l).toArray) os).heap[B]?=_∧(∀k,_→_→(grow (putRow encStr (Sort.ahead w m) B 0 (bT l).toArray) os).heap[k]?=_)∧_
   have hwB:(grow (putRow encStr (Sort.ahead w m) B 0 (bT l).toArray) os).heap[B]?=some (.cells (putCells encStr 0 (bT l).toArray us) 9 (0,0)):=by
    rw[heap_grow_old _ _ (by rw[size_putRow];exact hblk)]
    simp only[putRow,mapBlock,Sort.ahead,Array.getElem?_modify,if_true,hB,Option.map_some,onCells]
   have hat:∀t (ht:t<l.length),(putCells encStr 0 (bT l).toArray us)[t]?=some (encStr ((bT l)[t]'(by rw[dL];exact ht))):=by
    intro t ht
    have hlt:t<us.size:=by omega
    simp only[putCells,Array.getElem?_mapIdx,Array.getElem?_eq_getElem hlt,Option.map_some,Nat.zero_add,Nat.zero_le,true_and,Nat.sub_zero]
    rw[if_pos (by rw[hsA];exact ht),hget (bT l) t (by rw[dL];exact ht)]
   refine⟨_,putCells encStr 0 (bT l).toArray us,rfl,by simp[putCells],hwB,fun k hk hkB=>?_,?_,⟨rfl,rfl,rfl⟩,fun i v hi hv=>?_,fun i d v hd hv=>?_,.aJ rfl (by simp)⟩
   ·rw[heap_grow_old _ _ (by rw[size_putRow];exact hk)]
    simp only[putRow,mapBlock,Sort.ahead,Array.getElem?_modify,if_neg (Ne.symm hkB)]
   ·have:(putRow encStr (Sort.ahead w m) B 0 (bT l).toArray).heap.size=w.heap.size:=by rw[size_putRow];rfl
    rw[← this];simp[grow]
   ·rw[List.length_map] at hi
    rw[hat i hi] at hv
    cases hv
    rfl
   ·have hi:i<l.length:=by
     have:=(List.getElem?_eq_some_iff.1 hd).1
     rw[List.length_map,dL] at this;exact this
    rw[hat i hi] at hv
    cases hv
    have hi2:i<(bT l).length:=by rw[dL];exact hi
    rw[List.getElem?_map,List.getElem?_eq_getElem hi2] at hd
    simp only[Option.map_some,Option.some.injEq] at hd
    subst hd
    have:=Rep.str (M:=aC (Pr.base M) γ) (γ:=γ) (w:=w) ⟨((bT l)[i]).toArray⟩
    simpa [encStr] using this
theorem abn:ak Pr 75 [.slice 1 true [] none] (.aJ []):=aG.same (dF Tryz.func75 (by kernel_rfl) (by kernel_rfl)) fun M γ w vs hst hl hr=>by
 match vs,hl with
 | [v0],_=>
  have q0:=hr 0 _ _ rfl rfl
  cases q0
  refine (Tryz.slices_Sort_string_none none 0 w).mono ?_
  rintro e w' ⟨rfl,rfl⟩
  exact⟨_,rfl,rfl,.aJ rfl (by simp)⟩
end Go.Proofs
namespace Go.Proofs
open Go Go.Id
theorem Xv (f:Nat→Nat)(l:List (List UInt8)):jL f (l.map D.str)=l.map D.str:=by
 rw[jS];simp[dh]
theorem JV (a:Nat)(l:List (List UInt8))(hn:l.length≤1099511627776):aG Pr 75 [.arr a 1 l.length] [(a,.arr 9 (l.map .str))] (.aJ []) [(a,.arr 9 ((bT l).map .str))]:=by
 obtain⟨f,g,h1,h2⟩:=kU [a] (by simp)
 have:=aG.rename h1 (aev l hn)
 have f0:f 0=a:=h2 0 a rfl
 simpa [kG,oP,dh,jL,Xv,f0] using this
def aju (ms:TS):List (List UInt8):=bT (ms.map (·.1))
def afX (ms:TS):D:= .slice 1 ms.isEmpty ((aju ms).map fun x=>[D.str x]) none
def afY (es:yO):D:= .slice 1 es.isEmpty ((bT (es.map (·.1))).map fun x=>[D.str x]) none
@[simp] theorem aii {S:Nat→Prop}(es:yO):cZ S (afY es)↔True:=by simp[afY]
@[simp] theorem aij {S:Nat→Prop}(ms:TS):cZ S (afX ms)↔True:=by simp[afX]
theorem Oi {es:yO}{vs:List Value}{a:List UInt8}{d:D}{n:Nat}(h:(a,d,n)∈aap es vs):∃v,d= .val v:=by
 obtain⟨p,_,e⟩:=List.mem_map.1 h
 exact⟨p.2,by cases e;rfl⟩
@[simp] theorem ahn {S:Nat→Prop}(es:yO)(vs:List Value):(∀(a:List UInt8) (d:D) (n:Nat),(a,d,n)∈aap es vs→cZ S d)↔True:=by
 simp only[iff_true]
 intro a d n h
 obtain⟨v,rfl⟩:=Oi h
 simp
@[simp] theorem aik (t:Nat)(es:yO)(vs:List Value):(∀(a:List UInt8) (d:D) (n:Nat),(a,d,n)∈aap es vs→Fr t d)↔True:=by
 simp only[iff_true]
 intro a d n h
 obtain⟨v,rfl⟩:=Oi h
 exact .val v
theorem aho {t b:Nat}(h:b≠t):Fr t (.map b):= .map h
end Go.Proofs
