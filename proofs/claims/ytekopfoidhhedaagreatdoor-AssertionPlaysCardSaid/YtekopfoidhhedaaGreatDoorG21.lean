import Derived.Test.YtekopfoidhhedaaGreatDoorG20
import Derived.Test.YtekopfoidhhedaaGreatDoorG19
import Derived.Lib.SplitLaws
import Derived.Lib.Join
import Derived.Lib.ItoaLen
import Derived.Test.YtekopfoidhhedaaGreatDoorG13
set_option linter.unusedVariables false
set_option linter.unusedSimpArgs false
set_option linter.unnecessarySimpa false
namespace Go.Proofs
open Go Go.Id
abbrev Jj:=List (List UInt8)
def bH (c:UInt8)(acc:List UInt8):List UInt8→Jj
 | []=>[acc]
 |x::t=>if ((x.toNat:Int) == (c.toNat:Int))=true then acc::bH c [] t else bH c (acc++[x]) t
theorem Yr (x c:UInt8):((x.toNat:Int) == (c.toNat:Int))=(x == c):=by
 rw[agZ]
 simp only[beq_iff_eq]
 exact⟨fun e=>aoA.1 (by omega),fun e=>by rw[e]⟩
theorem FU (c:UInt8):∀(s:List UInt8),(Lib.index s [c]=-1→∀acc,bH c acc s=[acc++s])∧(∀i:Nat,Lib.index s [c]=i→∀acc,bH c acc s=(acc++s.take i)::bH c [] (s.drop (i+1)))
 | []=>by
  refine⟨fun _ acc=>by simp[bH],fun i h=>?_⟩
  simp[Lib.index] at h
 |x::t=>by
  obtain⟨h1,h2⟩:=FU c t
  have hg:=Lib.index_ge t [c]
  have e:Lib.index (x::t) [c]=if (c == x)=true then 0 else if Lib.index t [c] == -1 then -1 else Lib.index t [c]+1:=by
   rw[Lib.index];simp[List.isPrefixOf]
  by_cases hx:x=c
  ·subst hx
   rw[e]
   refine⟨fun h=>by simp at h,fun i h acc=>?_⟩
   simp at h
   obtain rfl:i=0:=by omega
   simp[bH]
  ·have hcx:(c == x)=false:=by simpa using fun q=>hx q.symm
   have hxc:((x.toNat:Int) == (c.toNat:Int))=false:=by rw[Yr];simpa using hx
   rw[e,hcx]
   simp only[ag8,if_false]
   by_cases hm:Lib.index t [c]=-1
   ·simp only[hm,beq_self_eq_true,if_true]
    refine⟨fun _ acc=>?_,fun i h=>by omega⟩
    rw[bH,hxc];simp only[ag8,if_false]
    rw[h1 hm];simp
   ·have hm':(Lib.index t [c] == -1)=false:=by simpa using hm
    rw[hm']
    simp only[ag8,if_false]
    refine⟨fun h=>by omega,fun i h acc=>?_⟩
    obtain⟨j,rfl⟩:∃j,i=j+1:=⟨i - 1,by omega⟩
    rw[bH,hxc];simp only[ag8,if_false]
    rw[h2 j (by omega)];simp
theorem MW (c:UInt8):∀(k:Nat) (s:List UInt8),Lib.count s [c]=k→Lib.splitK [c] 0 k s=bH c [] s
 | 0,s,h=>by
  rcases Lib.index_spec s [c] with⟨h1,_⟩ | ⟨i,h1,_⟩
  ·rw[(FU c s).1 h1];rfl
  ·have:=Lib.count_hit (s:=s) (sub:=[c]) (by simp) h1
   omega
 |k+1,s,h=>by
  rcases Lib.index_spec s [c] with⟨h1,_⟩ | ⟨i,h1,_⟩
  ·have:=Lib.count_miss h1;omega
  ·have h2:=Lib.count_hit (s:=s) (sub:=[c]) (by simp) h1
   rw[Lib.splitK]
   have hne:(Lib.index s [c] == -1)=false:=by rw[h1];rw[beq_eq_false_iff_ne];omega
   rw[hne]
   simp only[ag8,if_false]
   have hi:(Lib.index s [c]).toNat=i:=by omega
   rw[hi,(FU c s).2 i h1,abT]
   simp only[abN,acS,ade] at h2 ⊢
   rw[MW c k _ (by omega)]
   rfl
theorem MX (s:List UInt8)(c:UInt8):oN s [c]=bH c [] s:=by
 unfold oN
 rw[Lib.splitB_data]
 exact MW c _ s rfl
theorem qg (c:UInt8):∀(s acc:List UInt8),(bH c acc s).length≤s.length+1∧1≤(bH c acc s).length
 | [],acc=>by simp[bH]
 |x::t,acc=>by
  have h1:=qg c t []
  have h2:=qg c t (acc++[x])
  unfold bH
  split
  ·simp only[abN];omega
  ·simp only[abN];omega
theorem rW (c:UInt8):∀(s acc:List UInt8),∀x∈bH c acc s,x.length≤acc.length+s.length
 | [],acc,x,h=>by simp[bH] at h;subst h;simp
 |y::t,acc,x,h=>by
  unfold bH at h
  split at h
  ·rcases ael.1 h with rfl|h
   ·simp
   ·have:=rW c t [] x h
    simp at this ⊢;omega
  ·have:=rW c t (acc++[y]) x h
   simp at this ⊢;omega
theorem anj (A:List (List UInt8))(a:List UInt8):(A.map fun x=>[D.str x])++[[.str a]]=(A++[a]).map fun x=>[D.str x]:=by simp
theorem Z5:∀s:List UInt8,s.length≤(aC s).length
 | []=>by simp[aC]
 |c::s=>by
  have h1:1≤(xE c).length:=by unfold xE;split <;> simp
  have h2:=Z5 s
  simp only[aC,anw,abf,abN] at h2 ⊢
  omega
theorem Tv {s u:List UInt8}(h:sO s=some u):u.length≤s.length:=by
 have:=((t_ s.length s (ag4 _) u).1 h).2
 rw[← this];exact Z5 u
theorem ahQ (v:List UInt8):((sO v).getD []).length≤v.length:=by
 cases h:sO v with
 |none=>simp
 |some u=>exact Tv h
theorem D9 {n:Int}(h:0≤n∧n≤1099511627776):(Lib.itoa n).length≤21:=Lib.itoa_length_le n (by omega) (by omega)
set_option maxRecDepth 10000
set_option maxHeartbeats 4000000
abbrev D_:List Nat:=[0,1,4,5,6,7,11,18]
theorem ahR (s:List UInt8)(c:UInt8)(hs:s.length≤1099511627776):ay Pr 171 [.str s,.int .u8 c.toNat] (.slice 1 false ((bH c [] s).map fun x=>[D.str x]) none):=by
 refine ay.W Tryz.func171 Tryz.ntmps171 ?_
 simp only[aT,ade]
 refine aG 4 D_ ?_
 refine aG 2 [0,1,5,6,7] ?_
 refine WP.lp [0,1] (X:={x:(Nat) × (Nat) × (Jj) // match x with|(k,f,out)=>f≤k∧out.length≤k∧k≤s.length∧bH c [] s=out++bH c ((s.take k).drop f) (s.drop k)}) (fun x=>match x with| ⟨(k,f,out),_⟩=>[(5,.slice 1 out.isEmpty (out.map (fun x=>[D.str x])) (some 0)),(6,.int .i64 f),(7,.int .i64 k)]) (fun x=>match x with| ⟨(k,f,out),_⟩=>[(0,.aI 9 1 out.length)]) (fun x=>match x with| ⟨(k,f,out),_⟩=>s.length - k) (by simp +decide only[W,↓reduceIte];rfl) ?_ ⟨(0,0,[]),⟨ag4 _,ag4 _,ada _,by simp⟩⟩ ?_
 rotate_left
 ·refine Weak.trans (Weak.ghost 0 9 1 (F':=[(7,.int .i64 0),(6,.int .i64 0),(5,.slice 1 true [] (some 0)),(0,.str s),(1,.int .u8 c.toNat)]) (σ':=[]) (by simp[lk]) (by simp[keep,ins,zO,wJ]) (by simp[BK])) ?_;exact Weak.store (by simp[St.get,lk,Le.refl]) (by simp[lk]) (by simp[lk]) (by simp[aB,lk]) (by simp[lk])
 rintro ⟨⟨k,f,out⟩,hfk,ho,hks,hI⟩
 dsimp only
 simp only[abS,abT]
 refine aG 2 D_ ?_
 refine WP.cond rfl (fun q1=>?_) (fun q1=>?_)
 ·have hlt:=aO q1
  have hg:=kU hlt
  rw[bZ hlt,bH] at hI
  refine jd 4 D_ q1 hg ?_
  refine WP.cond rfl (fun q2=>?_) (fun q2=>?_)
  ·have hsc:=q2
   refine WP.S D_ fun _ z=>?_
   simp +decide only[TF,hfk,hks,q2,anj,↓reduceIte]
   refine⟨⟨by simp only[abf,abN,acS];omega,by simp only[abf,abN,acS];omega⟩,?_⟩
   apply z;clear z
   refine aG 2 [] ?_
   show ∃y,_∧Weak _ _ _
   rw[if_pos hsc] at hI
   refine⟨⟨(k+1,k+1,out++[(s.take k).drop f]),?_⟩,?_,?_⟩
   ·exact⟨ag4 _,by simp;omega,by dsimp only;omega,by rw[hI];simp⟩
   ·dsimp only;omega
   exact Weak.store (by simp[St.get,lk,Le.refl,aeD,aU hlt (show s.length≤140737488355328 by omega)]) (by simp[lk]) (by simp[lk,or_imp,forall_and]) (by simp[aB,lk]) (by simp[lk])
  have hsc:=q2
  refine aJ 2 [] q2 ?_
  show ∃y,_∧Weak _ _ _
  rw[if_neg (by rw[hsc];decide)] at hI
  refine⟨⟨(k+1,f,out),?_⟩,?_,?_⟩
  ·refine⟨by dsimp only;omega,by dsimp only;omega,by dsimp only;omega,?_⟩;dsimp only;rw[hI,G8 hlt,aoX (by simp;omega)]
  ·dsimp only;omega
  exact Weak.store (by simp[St.get,lk,Le.refl,aU hlt (show s.length≤140737488355328 by omega)]) (by simp[lk]) (by simp[lk,or_imp,forall_and]) (by simp[aB,lk]) (by simp[lk])
 have hge:=aP q1
 have hfs:f≤s.length:=by omega
 rw[dR hge,ajr hge,bH] at hI
 refine aG 1 [] ?_
 refine WP.S D_ fun _ z=>?_
 simp +decide only[TF,q1,hfs,anj,↓reduceIte]
 refine⟨⟨by simp only[abf,abN,acS];omega,by simp only[abf,abN,acS];omega⟩,?_⟩
 apply z;clear z
 apply WP.ret
 exact Ends.P rfl (Le.trans (Le.fg _) (Le.of_eq (by rw[hI];simp[fg,St.get,W])))
def ahS (ws:Jj)(i:Nat):List UInt8:=(ws[i]?).getD []
def anF (r:Jj):Bool:=r.any fun x=>(xB x).2 == 4
def anW (r:Jj):Bool:=r.any fun x=>(xB x).2 == 27
def erF (e:Int)(r:Jj):Int:=if anF r then 4 else e
def erK (e:Int)(r:Jj):Int:=if (erF e r == 0 && anW r)=true then 27 else erF e r
def ueB (w:List UInt8):Int:=if (sO w).isSome then 0 else 4
def apC (w0 w1:List UInt8)(r:Jj):Key:=⟨w0,(sO w1).getD [],(xB (ahS r 0)).1,(xB (ahS r 1)).1,(xB (ahS r 2)).1,(xB (ahS r 3)).1⟩
def OH (ws:Jj):Key × Int:=
 match ws with
 |w0::w1::r=>if r.length=4 then (if erK (ueB w1) r=0 then (apC w0 w1 r,0) else (dP,erK (ueB w1) r)) else (dP,4)
 | _=>(dP,4)
def arK (r:Jj)(k:Nat):List D:=((r.take k).map fun x=>D.int .i64 (xB x).1)++List.replicate (4 - k) (D.int .i64 0)
@[simp] theorem aoK {S:Nat→Prop}(r:Jj)(k:Nat):(∀d∈arK r k,bY S d)↔True:=by
 simp only[iff_true,arK,List.mem_append,List.mem_map,List.mem_replicate]
 rintro d (⟨x,_,rfl⟩ | ⟨_,rfl⟩) <;> simp
def ank (x:Key × Int):D:= .aQ [.agg x.1.cs,.int .i64 x.2]
@[simp] theorem anl {S:Nat→Prop}(x:Key × Int):bY S (ank x)↔True:=by
 simp[ank,Key.cs]
def nsK (r:Jj)(k:Nat):List (List D):=(r.take k).map fun x=>[D.int .i64 (xB x).1]
@[simp] theorem aoL {S:Nat→Prop}(r:Jj)(k:Nat):(∀e∈nsK r k,∀d∈e,bY S d)↔True:=by
 simp only[iff_true,nsK,List.mem_map]
 rintro e ⟨x,_,rfl⟩ d hd
 simp only[ad1] at hd
 subst hd;simp
def lC (n:Int)(rs:List Key):Jj→List Key × Int × Int
 | []=>(rs,0,0)
 | [l]=>if l=[] then (rs,0,0) else ([],n+1,4)
 |l::m::t=>
  if (OH (bH 32 [] l)).2=0 then (if gq (rs++[(OH (bH 32 [] l)).1])=0 then lC (n+1) (rs++[(OH (bH 32 [] l)).1]) (m::t) else ([],n+1,gq (rs++[(OH (bH 32 [] l)).1])))
  else ([],n+1,(OH (bH 32 [] l)).2)
def pK (s:List UInt8):List Key × Int × Int:=if 4096<s.length then ([],0,3) else lC 0 [] (bH 10 [] s)
def pKD (x:List Key × Int × Int):D:= .aQ [.slice 6 x.1.isEmpty (x.1.map Key.cs) none,.int .i64 x.2.1,.int .i64 x.2.2]
@[simp] theorem aoM {S:Nat→Prop}(x:List Key × Int × Int):bY S (pKD x)↔True:=by
 simp only[iff_true,pKD,JX,ael,List.mem_nil_iff,or_false]
 rintro d (rfl|rfl|rfl)
 ·rw[oI];exact⟨(DT _).2 trivial,by simp⟩
 ·simp
 ·simp
theorem aeE {s:List UInt8}(h:s.length≤4096):pK s=lC 0 [] (bH 10 [] s):=by unfold pK;rw[if_neg (by omega)]
theorem VQ (n:Int)(rs:List Key){l:List UInt8}(h:l=[]):lC n rs [l]=(rs,0,0):=by rw[lC,if_pos h]
theorem VR (n:Int)(rs:List Key){l m:List UInt8}{t:Jj}{k:Key}{e:Int}(h:OH (bH 32 [] l)=(k,e))(he:¬e=0):lC n rs (l::m::t)=([],n+1,e):=by rw[lC,h];simp only;rw[if_neg he]
theorem VT (n:Int)(rs:List Key){l m:List UInt8}{t:Jj}{k:Key}(h:OH (bH 32 [] l)=(k,0))(hk:¬gq (rs++[k])=0):lC n rs (l::m::t)=([],n+1,gq (rs++[k])):=by rw[lC,h];simp only;rw[if_pos trivial,if_neg hk]
theorem VU (n:Int)(rs:List Key){l m:List UInt8}{t:Jj}{k:Key}(h:OH (bH 32 [] l)=(k,0))(hk:gq (rs++[k])=0):lC n rs (l::m::t)=lC (n+1) (rs++[k]) (m::t):=by rw[lC,h];simp only;rw[if_pos trivial,if_pos hk]
theorem MZ:dP.ok:=by simp[Key.ok,dP]
theorem J4 (d:Nat)(h:d<10):(UInt8.ofNat (48+d)).toNat=48+d:=by
 simp only[UInt8.toNat_ofNat'];omega
theorem VW (u:Nat):eH (Lib.decDigits u)=u:=by
 induction u using Nat.strongRecOn with
 |ind u ih=>
  by_cases h:u<10
  ·rw[jv u h]
   have:=J4 u h
   simp only[eH,akk,apF]
   omega
  ·rw[nU u (by omega),QH,ih (u / 10) (by omega),J4 (u % 10) (by omega)]
   omega
theorem Z7 (d:Nat)(h:d<10):qZ ((UInt8.ofNat (48+d)).toNat:Int)=true:=by
 rw[J4 d h];simp[qZ];omega
theorem Z8 (u:Nat):(Lib.decDigits u).all (fun c=>qZ c.toNat)=true:=by
 induction u using Nat.strongRecOn with
 |ind u ih=>
  by_cases h:u<10
  ·rw[jv u h,alf,Z7 u h];rfl
  ·rw[nU u (by omega),List.all_append,ih (u / 10) (by omega),alf,Z7 _ (by omega)];rfl
theorem Yt (u:Nat):∃c t,Lib.decDigits u=c::t∧48≤c.toNat∧c.toNat≤57∧(0<u→c.toNat≠48):=by
 induction u using Nat.strongRecOn with
 |ind u ih=>
  by_cases h:u<10
  ·rw[jv u h]
   have:=J4 u h
   exact⟨_,_,rfl,by omega,by omega,by omega⟩
  ·obtain⟨c,t,h1,h2,h3,h4⟩:=ih (u / 10) (by omega)
   rw[nU u (by omega),h1]
   exact⟨c,_,rfl,h2,h3,fun _=>h4 (by omega)⟩
theorem abJ (c:UInt8)(t:List UInt8):FM (c::t) 0=c.toNat:=rfl
theorem QY (u:Nat)(z:Bool)(h:0<u∨z=true):h_ (Lib.decDigits u) z=true:=by
 have ha:=Z8 u
 obtain⟨c,t,h1,h2,h3,h4⟩:=Yt u
 unfold h_
 rw[ha,h1,abJ]
 by_cases h0:0<u
 ·have:((c.toNat:Int) == 48)=false:=by simp;have:=h4 h0;omega
  simp[this]
 ·have hz:z=true:=h.elim (fun h=>absurd h h0) id
  obtain rfl:u=0:=by omega
  rw[jv 0 (by omega)] at h1
  cases h1
  subst hz
  simp
theorem VX (n:Int)(h0:-9223372036854775808≤n)(h1:n≤9223372036854775807):xB (Lib.itoa n)=(n,0):=by
 by_cases h:n<0
 ·rw[itoa_neg n h]
  have hu:eH (Lib.decDigits n.natAbs)=n.natAbs:=VW _
  simp only[xB,↓reduceIte,QY n.natAbs false (.inl (by omega)),hu]
  rw[if_pos (by omega)]
  congr 1;omega
 ·rw[D5 n h]
  have hu:eH (Lib.decDigits n.natAbs)=n.natAbs:=VW _
  have hd:=QY n.natAbs true (.inr rfl)
  obtain⟨c,t,e1,e2,e3,e4⟩:=Yt n.natAbs
  rw[e1] at hu hd ⊢
  have hc:¬c=45:=by intro hc;subst hc;simp at e2
  simp only[xB,hc,↓reduceIte,hd,hu]
  rw[if_pos (by omega)]
  congr 1;omega
theorem aeF (c:UInt8)(t:List UInt8):sO (xE c++t)=(sO t).map (c::·):=by
 unfold xE
 cases hp:fJ c.toNat with
 |true=>simp only[if_true,abS,abT];rw[vC,hp,if_pos rfl]
 |false=>
  have hb:qM (hexD (c.toNat / 16)) (hexD (c.toNat % 16))=c:=by
   have hq:c.toNat / 16<16:=by have:=c.toNat_lt;omega
   unfold qM
   rw[zX _ hq,zX _ (by omega)]
   simp only[Int.toNat_natCast]
   rw[show c.toNat / 16 * 16+c.toNat % 16=c.toNat by omega]
   exact UInt8.ofNat_toNat
  have hq:¬gW (hexD (c.toNat / 16))<0:=by rw[zX _ (by have:=c.toNat_lt;omega)];omega
  have hr:¬gW (hexD (c.toNat % 16))<0:=by rw[zX _ (by omega)];omega
  simp only[ag8,if_false,abS,abT]
  rw[vC,ZT,if_neg (by simp),if_pos rfl]
  simp only[DW,hb,hp,hq,hr,or_self,ag8,if_false]
theorem rX:∀s:List UInt8,sO (aC s)=some s
 | []=>by simp[aC,sO]
 |c::t=>by
  show sO (xE c++aC t)=_
  rw[aeF,rX t];rfl
def wfW (w:List UInt8):Prop:=w≠[]∧(32:UInt8) ∉ w∧(10:UInt8) ∉ w
theorem ajM (u:Nat):(32:UInt8) ∉ Lib.decDigits u∧(10:UInt8) ∉ Lib.decDigits u:=by
 have:=Z8 u
 simp only[ami] at this
 constructor <;> (intro hm;have:=this _ hm;revert this;decide)
theorem ak6 (n:Int):wfW (Lib.itoa n):=by
 obtain⟨c,t,h1,_⟩:=Yt n.natAbs
 by_cases h:n<0
 ·rw[itoa_neg n h]
  have:=ajM n.natAbs
  refine⟨by simp,?_,?_⟩ <;> simp[this]
 ·rw[D5 n h]
  exact⟨by rw[h1];simp,ajM _⟩
theorem yM (c:UInt8):∀(w acc r:List UInt8),c ∉ w→bH c acc (w++r)=bH c (acc++w) r
 | [],acc,r,_=>by simp
 |x::w,acc,r,h=>by
  have hx:((x.toNat:Int) == (c.toNat:Int))=false:=by
   rw[Yr];simp;rintro rfl;exact h (by simp)
  rw[abS,bH,hx]
  simp only[ag8,if_false]
  rw[yM c w _ r (fun hm=>h (ahA _ hm))]
  simp
theorem M_ (c:UInt8)(acc r:List UInt8):bH c acc (c::r)=acc::bH c [] r:=by
 rw[bH,Yr];simp
theorem abK (c:UInt8)(w:List UInt8)(h:c ∉ w):bH c [] w=[w]:=by
 have:=yM c w [] [] h
 simpa [bH] using this
theorem ajN (c:UInt8)(x y:List UInt8)(r:Jj):Lib.join (x::y::r) [c]=x++c::Lib.join (y::r) [c]:=by
 simp[Lib.join,List.intercalate]
theorem VY (c:UInt8):∀(ws:Jj),ws≠[]→(∀w∈ws,c ∉ w)→bH c [] (Lib.join ws [c])=ws
 | [],h,_=>absurd rfl h
 | [x],_,h=>by rw[Lib.join_one];exact abK c x (h x (by simp))
 |x::y::r,_,h=>by
  rw[ajN,yM c x _ _ (h x (by simp)),M_,VY c (y::r) (by simp) (fun w hw=>h w (ahA _ hw))]
  rfl
theorem Tz (now:Int):∀(l:List Key) (b:Key),Ym now b l=b∨(Ym now b l∈l∧inB (Ym now b l).sf (Ym now b l).su now=true)
 | [],b=> .inl rfl
 |k::t,b=>by
  rw[D7]
  split
  ·rename_i h
   rw[ait] at h
   rcases Tz now t k with e | ⟨h1,h2⟩
   ·exact .inr (by rw[e];exact⟨by simp,h.1⟩)
   ·exact .inr ⟨by simp[h1],h2⟩
  ·rcases Tz now t b with e | ⟨h1,h2⟩
   ·exact .inl e
   ·exact .inr ⟨by simp[h1],h2⟩
theorem VZ {l:List Key}{now:Int}(h:eqK (xG l now) dP=false):gq l=0∧xG l now∈l∧inB (xG l now).sf (xG l now).su now=true:=by
 unfold xG at h ⊢
 split at h
 ·rw[(Tt _ _).2 rfl] at h;cases h
 ·rename_i hc
  have hc0:gq l=0:=by simpa using hc
  rw[if_neg hc]
  rcases Tz now l dP with e|h1
  ·rw[e,(Tt _ _).2 rfl] at h;cases h
  ·exact⟨hc0,h1⟩
end Go.Proofs
