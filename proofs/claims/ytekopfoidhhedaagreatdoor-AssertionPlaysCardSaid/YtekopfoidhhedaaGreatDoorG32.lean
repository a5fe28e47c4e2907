import Derived.Test.YtekopfoidhhedaaGreatDoorG29
import Derived.Test.YtekopfoidhhedaaGreatDoorG21
import Derived.Test.YtekopfoidhhedaaGreatDoorG13
import Derived.Test.YtekopfoidhhedaaGreatDoorG31
set_option linter.unusedVariables false
set_option linter.unusedSimpArgs false
set_option linter.unnecessarySimpa false
set_option maxRecDepth 10000
namespace Go.Proofs
open Go Go.Id
def oG (s:List UInt8):List (List UInt8):=(bH 10 [] s).dropLast
def okR (s:List UInt8):Bool:=(bH 10 [] s).getLastD [] == []
theorem agq {s:List UInt8}{l:List (List UInt8)}{x:List UInt8}(h:bH 10 [] s=l++[x]):oG s=l∧okR s=(x == []):=by
 unfold oG okR
 rw[h]
 exact⟨List.dropLast_concat,by rw[List.getLastD_concat]⟩
theorem drop_nil {s:List UInt8}{f:Nat}(hf:f≤s.length):((s.drop f) == [])=((f:Int) == (s.length:Int)):=by
 rw[agZ,beq_iff_eq,beq_iff_eq,List.drop_eq_nil_iff]
 omega
theorem aaS (s:List UInt8):(oG s).length≤s.length:=by
 unfold oG
 have:=(qg 10 s []).1
 rw[List.length_dropLast];omega
theorem aaT {s x:List UInt8}(h:x∈oG s):x.length≤s.length:=by
 have:=rW 10 s [] x (List.dropLast_subset _ h)
 simpa using this
def sU (p s:List UInt8):Option (List UInt8):=if s.take p.length=p then some (s.drop p.length) else none
theorem an2 {p s:List UInt8}(h:s.length<p.length):sU p s=none:=by
 unfold sU
 rw[if_neg]
 intro e
 have:=congrArg List.length e
 rw[adg] at this
 omega
theorem an3 {p s:List UInt8}(h:(s.take p.length == p)=false):sU p s=none:=by
 unfold sU
 rw[if_neg (by simpa using h)]
theorem an4 {p s:List UInt8}(h:(s.take p.length == p)=true):sU p s=some (s.drop p.length):=by
 unfold sU
 rw[if_pos (by simpa using h)]
theorem nZ (k v:List UInt8):sU (k++[61]) (Gm k v)=some v:=by
 unfold sU Gm
 rw[List.take_left' rfl,if_pos rfl,List.drop_left' rfl]
theorem Am {p s q:List UInt8}(h:sU p s=some q):q.length≤s.length:=by
 unfold sU at h
 split at h
 ·cases h;simp
 ·cases h
abbrev Hd:=List UInt8 × Int
def K8:List (List UInt8):=[nM,gJ,iy,ji,jT,kW,mQ,ql]
def hv1 (q:List UInt8):Hd:=((sO q).getD [],(xB q).1)
def UQ:List (List UInt8)→List (List UInt8)→Option (List Hd)
 | [],_=>some []
 |k::ks,x::l=>match sU (k++[61]) x with
  |none=>none
  |some q=>(UQ ks l).map (hv1 q::·)
 | _::_,[]=>none
theorem Xj {k x:List UInt8}{ks l:List (List UInt8)}(h:sU (k++[61]) x=none):UQ (k::ks) (x::l)=none:=by simp[UQ,h]
theorem mg {k x q:List UInt8}{ks l:List (List UInt8)}(h:sU (k++[61]) x=some q):UQ (k::ks) (x::l)=(UQ ks l).map (hv1 q::·):=by simp[UQ,h]
def atR (x:List UInt8):Option At:=(sU (mV++[61]) x).bind fun v=>(qR v).bind fun l=>match l with|n::vs=>some ⟨n,false,vs⟩ | []=>none
def AU:List (List UInt8)→List At→Option (List At)
 | [],acc=>some acc
 |x::l,acc=>(atR x).bind fun a=>AU l (acc++[a])
def mkA:List Hd→List At→Option As
 | [p0,p1,p2,p3,p4,p5,p6,p7],l=>some ⟨p0.1,p1.1,p2.1,p3.1,p4.1,p5.2,p6.2,p7.2,l.isEmpty,l⟩
 | _,_=>none
def sG (s:List UInt8):Option As:=if (!(okR s))=true then none else if decide (((oG s).length:Int)<8)=true then none else (UQ K8 (oG s)).bind fun h=>(AU ((oG s).drop 8) []).bind fun l=>mkA h l
def Zf (o:Option As):D:=match o with|some a=> .aQ [.agg a.cs,.bool true]|none=> .aQ [.agg bF.cs,.bool false]
@[simp] theorem an5 {S:Nat→Prop}(o:Option As):bY S (Zf o)↔True:=by cases o <;> simp[Zf]
theorem agr (x:List UInt8):(sO (aC x)).getD []=x:=by rw[rX];rfl
theorem GK {n:Int}(h:jo n):(xB (Lib.itoa n)).1=n:=by rw[VX n h.1 h.2]
theorem ags {x:At}(h1:x.nl=false):atR (Gm mV (oU (x.name::x.vals)))=some x:=by
 unfold atR
 rw[nZ,adf,Rx,adf]
 obtain⟨nm,nl,vs⟩:=x
 simp only at h1;subst h1;rfl
theorem Ot:∀(xs:List At) (acc:List At),(∀x∈xs,x.nl=false)→AU (xs.map fun x=>Gm mV (oU (x.name::x.vals))) acc=some (acc++xs)
 | [],acc,_=>by simp[AU]
 |x::l,acc,h=>by
  rw[ag1,AU,ags (h x (by simp)),adf,Ot l _ fun y hy=>h y (ahA _ hy)]
  simp
theorem Zg {a:As}(hc:bM a=0):sG (iL a)=some (nrm a):=by
 obtain⟨_,⟨q6,q7,q8⟩,⟨q9,q10⟩,hA⟩:=jE hc
 have i1:jo a.kK:=⟨by omega,by omega⟩
 have i2:jo a.fD:=⟨by omega,by omega⟩
 have i3:jo a.lvl:=⟨by omega,by omega⟩
 obtain⟨e1,e2⟩:=agq (N9 a)
 unfold sG
 rw[e1,e2,if_neg (by decide),if_neg (by simp[Pm];omega)]
 have hd:UQ K8 (Pm a)=some [hv1 (aC a.id),hv1 (aC a.iw),hv1 (aC a.jV),hv1 (aC a.sub),hv1 (aC a.req),hv1 (Lib.itoa a.kK),hv1 (Lib.itoa a.fD),hv1 (Lib.itoa a.lvl)]:=by
  unfold Pm K8
  simp only[abS,abT]
  rw[mg (nZ _ _),mg (nZ _ _),mg (nZ _ _),mg (nZ _ _),mg (nZ _ _),mg (nZ _ _),mg (nZ _ _),mg (nZ _ _)]
  rfl
 have ht:(Pm a).drop 8=(jh a.ats).map fun x=>Gm mV (oU (x.name::x.vals)):=rfl
 rw[hd,adf,ht,Ot _ _ fun x hx=>(qm hA hx).2.1,adf,abT]
 simp only[mkA,hv1,agr,GK i1,GK i2,GK i3]
 rfl
def Ux (s:List UInt8):As × Int:=
 if decide ((s.length:Int)>4096)=true then (bF,3) else match sG s with
  |none=>(bF,4)
  |some a=>if ((dX a).2 != 0)=true then (bF,4) else if ((dX a).1 == s)=false then (bF,4) else (nrm a,0)
theorem EI (s:List UInt8):Ux s=jF s:=by
 rcases Oe s with⟨h1,h2⟩ | ⟨h1,h2,h3⟩ | ⟨h1,b,h2,h3,h4,h5⟩
 ·rw[h2];unfold Ux;rw[if_pos (by simp;omega)]
 ·rw[h2]
  unfold Ux
  rw[if_neg (by simp;omega)]
  cases hp:sG s with
  |none=>rfl
  |some a=>
   simp only
   split
   ·rfl
   split
   ·rfl
   ·rename_i g1 g2
    exact absurd (Prod.ext (by simpa using g2) (by simpa using g1)) (h3 a)
 ·rw[h2]
  obtain⟨e1,e2,_⟩:=wZ h3
  have hp:=Zg e1
  rw[e2,h4] at hp
  unfold Ux
  rw[if_neg (by simp;omega),hp]
  simp only[h3,h4]
  rw[if_neg (by decide),if_neg (by simp)]
theorem ap3 {s:List UInt8}(h:decide ((s.length:Int)>4096)=true):jF s=(bF,3):=by rw[← EI];unfold Ux;rw[if_pos h]
theorem ap4 {s:List UInt8}(h:decide ((s.length:Int)>4096)=false)(hp:sG s=none):jF s=(bF,4):=by rw[← EI];unfold Ux;rw[if_neg (by rw[h];decide),hp]
theorem ap5 {s:List UInt8}{a:As}(h:decide ((s.length:Int)>4096)=false)(hp:sG s=some a)(h2:((dX a).2 != 0)=true):jF s=(bF,4):=by
 rw[← EI];unfold Ux;rw[if_neg (by rw[h];decide),hp];exact if_pos h2
theorem ap6 {s:List UInt8}{a:As}(h:decide ((s.length:Int)>4096)=false)(hp:sG s=some a)(h2:((dX a).2 != 0)=false)(h3:((dX a).1 == s)=false):jF s=(bF,4):=by
 rw[← EI];unfold Ux;rw[if_neg (by rw[h];decide),hp];simp only[h2,h3];rfl
theorem ap7 {s:List UInt8}{a:As}(h:decide ((s.length:Int)>4096)=false)(hp:sG s=some a)(h2:((dX a).2 != 0)=false)(h3:((dX a).1 == s)=true):jF s=(nrm a,0):=by
 rw[← EI];unfold Ux;rw[if_neg (by rw[h];decide),hp];simp only[h2,h3];rfl
section
variable {s:List UInt8}
theorem an6 (h:okR s=false):sG s=none:=by unfold sG;rw[if_pos (by rw[h];rfl)]
theorem an7 (h:okR s=true)(h2:decide (((oG s).length:Int)<8)=true):sG s=none:=by unfold sG;rw[if_neg (by rw[h];decide),if_pos h2]
theorem an8 (h:okR s=true)(h2:decide (((oG s).length:Int)<8)=false)(h3:UQ K8 (oG s)=none):sG s=none:=by unfold sG;rw[if_neg (by rw[h];decide),if_neg (by rw[h2];decide),h3];rfl
theorem agt {hs:List Hd}(h:okR s=true)(h2:decide (((oG s).length:Int)<8)=false)(h3:UQ K8 (oG s)=some hs)(h4:AU ((oG s).drop 8) []=none):sG s=none:=by unfold sG;rw[if_neg (by rw[h];decide),if_neg (by rw[h2];decide),h3,adf,h4];rfl
theorem an9 {hs:List Hd}{l:List At}(h:okR s=true)(h2:decide (((oG s).length:Int)<8)=false)(h3:UQ K8 (oG s)=some hs)(h4:AU ((oG s).drop 8) []=some l):sG s=mkA hs l:=by unfold sG;rw[if_neg (by rw[h];decide),if_neg (by rw[h2];decide),h3,adf,h4,adf]
end
theorem an_ {l:List Hd}(h:l.length=8):∃p0 p1 p2 p3 p4 p5 p6 p7,l=[p0,p1,p2,p3,p4,p5,p6,p7]:=by
 match l,h with
 | [p0,p1,p2,p3,p4,p5,p6,p7],_=>exact⟨_,_,_,_,_,_,_,_,rfl⟩
def agu (l:List Hd):Prop:=∀p∈l,p.1.length≤4096∧jo p.2
theorem agv {q:List UInt8}(h:q.length≤4096):(hv1 q).1.length≤4096∧jo (hv1 q).2:=⟨ag9 (ahQ q) h,aaG q⟩
theorem agu.snoc {l:List Hd}{p:Hd}(h:agu l)(hp:p.1.length≤4096∧jo p.2):agu (l++[p]):=by
 intro x hx
 rcases List.mem_append.1 hx with hx|hx
 ·exact h x hx
 ·rw[ad1] at hx;subst hx;exact hp
theorem RX {n:List UInt8}{vs:List (List UInt8)}{s:List UInt8}(hs:s.length≤4096)(h:qR s=some (n::vs)):(At.mk n false vs).ok:=by
 obtain⟨h1,h2⟩:=WU h
 exact⟨ag9 (h2 n (by simp)) (by omega),ag9 (show vs.length≤s.length+1 by simp at h1 ⊢;omega) (by omega),nofun,fun x hx=>ag9 (h2 x (ahA _ hx)) (by omega)⟩
theorem RY (x:List UInt8):(sU (mV++[61]) x=none∧atR x=none)∨(∃q,sU (mV++[61]) x=some q∧qR q=none∧atR x=none)∨(∃q,sU (mV++[61]) x=some q∧qR q=some []∧atR x=none)∨
  ∃q n vs,sU (mV++[61]) x=some q∧qR q=some (n::vs)∧atR x=some ⟨n,false,vs⟩:=by
 unfold atR
 cases h:sU (mV++[61]) x with
 |none=>exact .inl ⟨rfl,rfl⟩
 |some q=>
  cases hs:qR q with
  |none=>exact .inr (.inl ⟨q,rfl,hs,by simp only[adf,hs];rfl⟩)
  |some l=>
   match l,hs with
   | [],hs=>exact .inr (.inr (.inl ⟨q,rfl,hs,by simp only[adf,hs]⟩))
   |n::vs,hs=>exact .inr (.inr (.inr ⟨q,n,vs,rfl,hs,by simp only[adf,hs]⟩))
theorem Ap {x:List UInt8}{l:List (List UInt8)}{acc:List At}(h:atR x=none):AU (x::l) acc=none:=by rw[AU,h];rfl
theorem aaU {x:List UInt8}{l:List (List UInt8)}{acc:List At}{a:At}(h:atR x=some a):AU (x::l) acc=AU l (acc++[a]):=by rw[AU,h];rfl
def JQ (o:Option (List UInt8)):D:= .aQ [.str (o.getD []),.bool o.isSome]
@[simp] theorem an' {S:Nat→Prop}(o:Option (List UInt8)):bY S (JQ o)↔True:=by simp[JQ]
set_option maxRecDepth 10000
theorem agw:∀{ks l:List (List UInt8)} {h:List Hd},(∀x∈l,x.length≤4096)→UQ ks l=some h→agu h
 | [],l,h,_,e=>by simp only[UQ,abr] at e;subst e;intro p hp;simp at hp
 |k::ks,[],h,_,e=>by simp[UQ] at e
 |k::ks,x::l,h,hl,e=>by
  cases ha:sU (k++[61]) x with
  |none=>rw[Xj ha] at e;cases e
  |some q=>
   rw[mg ha,abR] at e
   obtain⟨m,hm,rfl⟩:=e
   intro p hp
   rcases ael.1 hp with rfl|hp
   ·exact agv (ag9 (Am ha) (hl x (by simp)))
   ·exact agw (fun y hy=>hl y (ahA _ hy)) hm p hp
theorem aaV:∀{l:List (List UInt8)} {acc r:List At},(∀x∈l,x.length≤4096)→Ju acc→AU l acc=some r→Ju r∧r.length≤acc.length+l.length
 | [],acc,r,_,ha,e=>by simp only[AU,abr] at e;subst e;exact⟨ha,by simp⟩
 |x::l,acc,r,hl,ha,e=>by
  rcases RY x with⟨_,h⟩ | ⟨q,_,_,h⟩ | ⟨q,_,_,h⟩ | ⟨q,n,vs,h1,h2,h⟩
  ·rw[Ap h] at e;cases e
  ·rw[Ap h] at e;cases e
  ·rw[Ap h] at e;cases e
  ·rw[aaU h] at e
   have hq:=ag9 (Am h1) (hl x (by simp))
   obtain⟨h3,h4⟩:=aaV (fun y hy=>hl y (ahA _ hy)) (ha.snoc (RX hq h2)) e
   exact⟨h3,by simp at h4 ⊢;omega⟩
theorem ai8 {s:List UInt8}{a:As}(hs:s.length≤4096)(h:sG s=some a):a.ok:=by
 unfold sG at h
 split at h
 ·cases h
 split at h
 ·cases h
 rw[ac9] at h
 obtain⟨hd,h1,h⟩:=h
 rw[ac9] at h
 obtain⟨l,h2,h⟩:=h
 have hm:∀x∈oG s,x.length≤4096:=fun x hx=>ag9 (aaT hx) hs
 have b1:=agw hm h1
 obtain⟨b2,b3⟩:=aaV (fun x hx=>hm x (aoF hx)) (show Ju [] from nofun) h2
 have b4:=aaS s
 unfold mkA at h
 split at h
 ·cases h
  rename_i p0 p1 p2 p3 p4 p5 p6 p7
  have c:=fun p hp=>b1 p hp
  have q0:=c p0 (by simp);have q1:=c p1 (by simp);have q2:=c p2 (by simp);have q3:=c p3 (by simp);have q4:=c p4 (by simp);have q5:=c p5 (by simp);have q6:=c p6 (by simp);have q7:=c p7 (by simp)
  exact⟨⟨ag9 q0.1 (by omega),ag9 q1.1 (by omega),ag9 q2.1 (by omega),ag9 q3.1 (by omega),ag9 q4.1 (by omega)⟩,⟨q5.2,q6.2,q7.2⟩,ag9 b3 (by simp;omega),fun e=>List.isEmpty_iff.1 e,b2⟩
 ·cases h
theorem ai9 {o:Option (List Hd)}{acc:List Hd}{p:Hd}:(o.map (p::·)).map (acc++·)=o.map ((acc++[p])++·):=by cases o <;> simp
theorem agx:qR []=some [[]]:=by decide +kernel
theorem Uy:K8.length=8:=rfl
theorem aaW:∀k∈K8,k.length≤8:=by decide
theorem Aq:Le (.aQ [.agg [.str [],.str [],.str [],.str [],.str [],.int .i64 0,.int .i64 0,.int .i64 0,.slice 0 true [] none],.bool false]) (Zf none):=
 Le.aQ ⟨Le.agg ⟨Le.refl _,Le.refl _,Le.refl _,Le.refl _,Le.refl _,Le.refl _,Le.refl _,Le.refl _,Le.nil _ _ _,trivial⟩,Le.refl _,trivial⟩
theorem Zh:ay Pr 44 [] (.slice 1 false (K8.map fun x=>[D.str x]) none):=Rt
theorem ai_ {S:Nat→Prop}(l:List Hd):(∀e∈l.map (fun p=>[D.int .i64 p.2]),∀d∈e,bY S d)↔True:=by
 simp only[iff_true,List.mem_map]
 rintro e ⟨x,_,rfl⟩ d hd
 simp only[ad1] at hd;subst hd;exact .int _ _
theorem ai' {S:Nat→Prop}(l:List Hd):(∀e∈l.map (fun p=>[D.str p.1]),∀d∈e,bY S d)↔True:=by
 simp only[iff_true,List.mem_map]
 rintro e ⟨x,_,rfl⟩ d hd
 simp only[ad1] at hd;subst hd;exact .str _
set_option maxHeartbeats 4000000
theorem d40:((4:Int) != 0)=true:=by decide
theorem agy {α:Type}{l:List α}{k:Nat}(h:k<l.length):l.isEmpty=false:=by cases l <;> simp at *
abbrev qA:List Nat:=[0,2,3,4,5,6,10,16]
theorem Xk (s:List UInt8)(hs:s.length≤1099511627776):ay Pr 105 [.str s] (.aQ [.slice 1 (oG s).isEmpty ((oG s).map (fun x=>[D.str x])) none,.bool (okR s)]):=by
 refine gK Tryz.func105 Tryz.ntmps105 ?_
 refine aG 6 qA ?_
 refine WP.lp [0] (X:={x:(Nat) × (Nat) × (List (List UInt8)) // match x with|(k,f,out)=>f≤k∧out.length≤k∧k≤s.length∧bH 10 [] s=out++bH 10 ((s.take k).drop f) (s.drop k)}) (fun x=>match x with| ⟨(k,f,out),_⟩=>[(4,.slice 1 out.isEmpty (out.map (fun x=>[D.str x])) (some 0)),(5,.int .i64 f),(6,.int .i64 k)]) (fun x=>match x with| ⟨(k,f,out),_⟩=>[(0,.aI 9 1 out.length)]) (fun x=>match x with| ⟨(k,f,out),_⟩=>s.length - k) (by simp +decide only[W,↓reduceIte];rfl) ?_ ⟨(0,0,[]),⟨ag4 _,ag4 _,ada _,by simp⟩⟩ ?_
 rotate_left
 ·refine Weak.trans (Weak.store (st':=⟨[(6,.int .i64 0),(5,.int .i64 0),(4,.slice 0 true [] none),(0,.str s)],[]⟩) (by simp[St.get,lk,keep,ins,W,Le.refl]) (by simp[lk]) (by simp[lk]) (by simp[aB,lk]) (by simp[lk])) ?_;refine Weak.trans (Weak.ghost 0 9 1 (F':=[(6,.int .i64 0),(5,.int .i64 0),(4,.slice 1 true [] (some 0)),(0,.str s)]) (σ':=[]) (by simp[lk]) (by simp[zO,wJ]) (by simp[BK])) ?_;exact QB
 rintro ⟨⟨k,f,out⟩,hfk,ho,hks,hI⟩
 dsimp only
 simp only[abS,abT]
 refine aG 2 qA ?_
 refine WP.cond rfl (fun q1=>?_) (fun q1=>?_)
 ·have hlt:=aO q1
  have hg:=kU hlt
  rw[bZ hlt,bH] at hI
  refine jd 4 qA q1 hg ?_
  refine WP.cond rfl (fun q2=>?_) (fun q2=>?_)
  ·have hsc:((s[k].toNat:Int) == ((10:UInt8).toNat:Int))=true:=q2
   refine WP.S qA fun _ z=>?_
   simp +decide only[TF,hfk,hks,q2,↓reduceIte]
   refine⟨⟨by simp only[abf,ac',abN,acS];omega,by simp only[abf,ac',abN,acS];omega⟩,?_⟩
   apply z;clear z
   refine aG 2 [] ?_
   show ∃y,_∧Weak _ _ _
   rw[if_pos hsc] at hI
   refine⟨⟨(k+1,k+1,out++[(s.take k).drop f]),?_⟩,?_,?_⟩
   ·exact⟨ag4 _,by simp;omega,by dsimp only;omega,by rw[hI];simp⟩
   ·dsimp only;omega
   exact Weak.store (by simp[St.get,lk,Le.refl,aeD,aU hlt (show s.length≤140737488355328 by omega)]) (by simp[lk]) (by simp[lk,fH,-List.map_append,-List.mem_map,-List.mem_append]) (by simp[aB,lk,-List.map_append,-List.mem_map,-List.mem_append]) (by simp[lk])
  have hsc:((s[k].toNat:Int) == ((10:UInt8).toNat:Int))=false:=q2
  refine aJ 2 [] q2 ?_
  show ∃y,_∧Weak _ _ _
  rw[if_neg (by rw[hsc];decide)] at hI
  refine⟨⟨(k+1,f,out),?_⟩,?_,?_⟩
  ·refine⟨by dsimp only;omega,by dsimp only;omega,by dsimp only;omega,?_⟩;dsimp only;rw[hI,G8 hlt,aoX (by simp;omega)]
  ·dsimp only;omega
  exact Weak.store (by simp[St.get,lk,Le.refl,aU hlt (show s.length≤140737488355328 by omega)]) (by simp[lk]) (by simp[lk,fH,-List.map_append,-List.mem_map,-List.mem_append]) (by simp[aB,lk,-List.map_append,-List.mem_map,-List.mem_append]) (by simp[lk])
 have hge:=aP q1
 have hfs:f≤s.length:=by omega
 rw[dR hge,ajr hge,bH] at hI
 obtain⟨hL1,hL2⟩:=agq hI
 refine aJ 2 qA q1 ?_
 apply WP.ret
 exact Ends.pure (d:= .aQ [_,_]) (.inr rfl) rfl (by rw[hL1,hL2,drop_nil hfs];exact Le.aQ ⟨Le.trans (Le.fg _) (Le.of_eq (by simp[fg,St.get,lk,W])),Le.of_eq (by simp[St.get,W]),trivial⟩) (by simp[fH])
theorem nJ (p s:List UInt8)(hp:p.length≤100)(hs:s.length≤1099511627776):ay Pr 106 [.str s,.str p] (JQ (sU p s)):=by
 refine gK Tryz.func106 Tryz.ntmps106 ?_
 refine aG 2 [0,1,4,5,18] ?_
 refine WP.S [0,1,4,5,18] fun _ z=>?_
 refine ah.take 6 fun J hJ=>?_
 simp +decide only[TF,↓reduceIte]
 refine hJ _ _ ?_;clear hJ J
 refine ah.part 11 rfl (fun q1=>?_) (fun q1=>?_)
 ·have hR:=an2 (p:=p) (s:=s) (by have:=of_decide_eq_true q1;omega)
  simp +decide only[TF,q1,↓reduceIte]
  apply z;clear z
  refine aG 2 [0,1,4,5,18] ?_
  apply WP.ret
  exact Ends.P (d:= .aQ [_,_]) rfl (Le.of_eq (by simp[St.get,lk,W,JQ,hR]))
 have hle:p.length≤s.length:=by have:=of_decide_eq_false q1;omega
 simp +decide only[TF,q1,hle,↓reduceIte]
 apply z;clear z
 refine WP.cond rfl (fun q2=>?_) (fun q2=>?_)
 ·have hR:=an3 (by simpa using q2)
  refine aJ 1 [0,1,4,5,18] q2 ?_
  apply WP.ret
  exact Ends.P (d:= .aQ [_,_]) rfl (Le.of_eq (by simp[St.get,lk,W,JQ,hR]))
 have hR:=an4 (by simpa using q2)
 refine jd 2 [0,1,4,5,18] hle q2 ?_
 apply WP.ret
 exact Ends.P (d:= .aQ [_,_]) rfl (Le.of_eq (by simp[St.get,lk,W,JQ,hR]))
abbrev bQ:List Nat:=[0,2,3,4,5,6,7,8,9,10,11,12,14,16,17,18,19,20,21,36,41,58,108,134]
theorem Ou (s:List UInt8)(hs:s.length≤4096):ay Pr 55 [.str s] (Zf (sG s)):=by
 have hm:∀x∈oG s,x.length≤4096:=fun x hx=>ag9 (aaT hx) hs
 have hln:=aaS s
 have hKL:=Uy
 refine ay.W Tryz.func55 Tryz.ntmps55 ?_
 simp only[aT]
 refine aJ 2 bQ (Xk s (by omega)) ?_
 refine WP.S bQ fun _ z=>?_
 simp +decide only[TF,↓reduceIte]
 refine aj.pure Zh rfl rfl (by simp) ?_
 simp +decide only[TF,↓reduceIte]
 apply z;clear z
 apply WP.seq
 rcases hq:okR s with _ | _
 ·have hR:=an6 hq
  refine aG 3 bQ ?_
  apply WP.ret
  exact Ends.P (d:= .aQ [_,_]) rfl (by rw[hR];exact Le.trans (Le.of_eq (by simp +decide only[St.get,W,ak,fA,↓reduceIte])) Aq)
 refine aJ 1 bQ @Uy ?_
 refine WP.cond rfl (fun q1=>?_) (fun q1=>?_)
 ·have hR:=an7 hq q1
  refine aJ 1 bQ q1 ?_
  apply WP.ret
  exact Ends.P (d:= .aQ [_,_]) rfl (by rw[hR];exact Le.trans (Le.of_eq (by simp +decide only[St.get,W,ak,fA,↓reduceIte])) Aq)
 have h8:decide (((oG s).length:Int)<8)=false:=q1
 have h8n:8≤(oG s).length:=by simp at h8;omega
 refine aJ 6 bQ q1 ?_
 refine WP.lp [2,4,6] (X:={x:(Nat) × (List Hd) // match x with|(k,acc)=>k≤8∧acc.length=k∧UQ K8 (oG s)=(UQ (K8.drop k) ((oG s).drop k)).map (acc++·)∧agu acc}) (fun x=>match x with| ⟨(k,acc),_⟩=>[(7,.slice 1 acc.isEmpty (acc.map fun p=>[D.str p.1]) (some 1)),(8,.slice 1 acc.isEmpty (acc.map fun p=>[D.int .i64 p.2]) (some 2)),(9,.int .i64 k)]) (fun x=>match x with| ⟨(k,acc),_⟩=>[(1,.aI 9 1 acc.length),(2,.aI 3 1 acc.length),(0,.box 24 [.str [],.str [],.str [],.str [],.str [],.int .i64 0,.int .i64 0,.int .i64 0,.slice 0 true [] none])]) (fun x=>match x with| ⟨(k,acc),_⟩=>8 - k) (by simp +decide only[W,↓reduceIte];rfl) ?_ ⟨(0,[]),⟨ada _,rfl,by simp,nofun⟩⟩ ?_
 rotate_left
 ·refine Weak.trans (Weak.store (st':=⟨[(9,.int .i64 0),(8,.slice 0 true [] none),(7,.slice 0 true [] none),(2,.ref 0 0),(4,.slice 1 (oG s).isEmpty ((oG s).map fun x=>[D.str x]) none),(6,.slice 1 false (K8.map fun x=>[D.str x]) none)],[(0,.box 24 [.str [],.str [],.str [],.str [],.str [],.int .i64 0,.int .i64 0,.int .i64 0,.slice 0 true [] none])]⟩) (by simp[St.get,lk,keep,ins,W,Le.refl]) (by simp[lk]) (by simp[lk]) (by simp[aB,lk]) (by simp[lk])) ?_;refine Weak.trans (Weak.ghost 1 9 1 (F':=[(9,.int .i64 0),(8,.slice 0 true [] none),(7,.slice 1 true [] (some 1)),(2,.ref 0 0),(4,.slice 1 (oG s).isEmpty ((oG s).map fun x=>[D.str x]) none),(6,.slice 1 false (K8.map fun x=>[D.str x]) none)]) (σ':=[(0,.box 24 [.str [],.str [],.str [],.str [],.str [],.int .i64 0,.int .i64 0,.int .i64 0,.slice 0 true [] none])]) (by simp[lk]) (by simp[zO,wJ]) (by simp[BK,OT,PV,wJ])) ?_;refine Weak.trans (Weak.ghost 2 3 1 (F':=[(9,.int .i64 0),(8,.slice 1 true [] (some 2)),(7,.slice 1 true [] (some 1)),(2,.ref 0 0),(4,.slice 1 (oG s).isEmpty ((oG s).map fun x=>[D.str x]) none),(6,.slice 1 false (K8.map fun x=>[D.str x]) none)]) (σ':=[(1,.aI 9 1 0),(0,.box 24 [.str [],.str [],.str [],.str [],.str [],.int .i64 0,.int .i64 0,.int .i64 0,.slice 0 true [] none])]) (by simp[lk]) (by simp[zO,wJ]) (by simp[BK,OT,PV,wJ])) ?_;exact Weak.store (by simp[St.get,lk,Le.refl]) (by simp[lk]) (by simp[lk]) (by simp[aB,lk]) (by simp[lk])
 rintro ⟨⟨k,acc⟩,hk8,hal,hI,hHO⟩
 dsimp only
 simp only[abS,abT]
 refine aJ 2 bQ @Uy ?_
 refine WP.cond rfl (fun q2=>?_) (fun q2=>?_)
 ·have hlt:=aO q2
  have hlL:k<(oG s).length:=by omega
  have hg:(K8.map fun x=>[D.str x])[k]?=some [D.str K8[k]]:=getM hlt
  have hg2:((oG s).map fun x=>[D.str x])[k]?=some [D.str (oG s)[k]]:=getM hlL
  have hnf:(oG s).isEmpty=false:=agy hlL
  rw[bZ hlt,bZ hlL] at hI
  refine aG 3 [] ?_
  rcases ha:sU (K8[k]++[61]) (oG s)[k] with _|q
  ·have hR:=an8 hq h8 (by rw[hI,Xj ha];rfl)
   refine WP.D bQ fun _ z=>?_
   simp +decide only[TF,q2,hg,hg2,hnf,↓reduceIte]
   refine⟨by have:=aaW _ (adb hlt);omega,?_⟩
   refine aj.P (nJ (K8[k]++[61]) (oG s)[k] (by have:=aaW _ (adb hlt);simp;omega) (by have:=hm _ (adb hlL);omega)) rfl rfl ?_
   simp +decide only[TF,ha,JQ,↓reduceIte]
   refine z _ _ (by kernel_rfl) ?_;clear z
   refine aG 4 bQ ?_
   apply WP.ret
   exact Ends.P (d:= .aQ [_,_]) rfl (by rw[hR];exact Le.trans (Le.of_eq (by simp +decide only[St.get,W,ak,fA,↓reduceIte])) Aq)
  have hql:=ag9 (Am ha) (hm _ (adb hlL))
  refine WP.D bQ fun _ z=>?_
  simp +decide only[TF,q2,hg,hg2,hnf,↓reduceIte]
  refine⟨by have:=aaW _ (adb hlt);omega,?_⟩
  refine aj.P (nJ (K8[k]++[61]) (oG s)[k] (by have:=aaW _ (adb hlt);simp;omega) (by have:=hm _ (adb hlL);omega)) rfl rfl ?_
  simp +decide only[TF,ha,JQ,↓reduceIte]
  refine z _ _ (by kernel_rfl) ?_;clear z
  refine OY 6 bQ (wS q (by omega)) (VH q (by omega)) @alg @adV.eq_def @OE.eq_def ?_
  refine WP.S bQ fun _ z=>?_
  simp +decide only[TF,↓reduceIte]
  refine⟨⟨by simp only[abf,ac',abN,acS];omega,by simp only[abf,ac',abN,acS];omega⟩,?_⟩
  apply z;clear z
  refine WP.R fun _ z=>?_
  simp +decide only[TF,↓reduceIte]
  refine⟨⟨by simp only[abf,ac',abN,acS];omega,by simp only[abf,ac',abN,acS];omega⟩,?_⟩
  apply z;clear z
  show WP ..
  refine aG 1 [] ?_
  show ∃y,_∧Weak _ _ _
  refine⟨⟨(k+1,acc++[hv1 q]),?_⟩,?_,?_⟩
  ·exact⟨by dsimp only;omega,by simp;omega,by rw[hI,mg ha];exact ai9,hHO.snoc (agv hql)⟩
  ·dsimp only;omega
  exact Weak.store (by simp[St.get,lk,Le.refl,aeD,hv1,aU hlt (show K8.length≤140737488355328 by omega),hnf]) (by simp[lk,hv1]) (by simp[lk,fH,ai',ai_,-List.map_append,-List.mem_map,-List.mem_append]) (by simp[aB,lk,-List.map_append,-List.mem_map,-List.mem_append]) (by simp[lk])
 have hge:=aP q2
 rw[dR hge] at hI
 have hI8:UQ K8 (oG s)=some acc:=by rw[hI];simp[UQ]
 obtain⟨p0,p1,p2,p3,p4,p5,p6,p7,rfl⟩:=an_ (show acc.length=8 by omega)
 refine jd 5 bQ q2 @Uy ?_
 refine WP.lp [2,4,16] (X:={x:(Nat) × (List At) // match x with|(k,at2)=>k≤(oG s).length∧AU ((oG s).drop 8) []=AU ((oG s).drop k) at2∧Ju at2∧at2.length≤k}) (fun x=>match x with| ⟨(k,at2),_⟩=>[(17,.int .i64 k)]) (fun x=>match x with| ⟨(k,at2),_⟩=>[(4,.aI 75 2 at2.length),(3,.box 24 [.str p0.1,.str p1.1,.str p2.1,.str p3.1,.str p4.1,.int .i64 p5.2,.int .i64 p6.2,.int .i64 p7.2,.slice 2 at2.isEmpty (at2.map At.cs) (some 4)]),(0,.box 24 [.str [],.str [],.str [],.str [],.str [],.int .i64 0,.int .i64 0,.int .i64 0,.slice 0 true [] none])]) (fun x=>match x with| ⟨(k,at2),_⟩=>(oG s).length - k) (by simp +decide only[W,↓reduceIte];rfl) ?_ ⟨(8,[]),⟨h8n,rfl,nofun,ada _⟩⟩ ?_
 rotate_left
 ·refine Weak.trans (Weak.store (st':=⟨[(17,.int .i64 8),(2,.ref 0 0),(4,.slice 1 (oG s).isEmpty ((oG s).map fun x=>[D.str x]) none),(16,.ref 3 0)],[(3,.box 24 [.str p0.1,.str p1.1,.str p2.1,.str p3.1,.str p4.1,.int .i64 p5.2,.int .i64 p6.2,.int .i64 p7.2,.slice 0 true [] none]),(0,.box 24 [.str [],.str [],.str [],.str [],.str [],.int .i64 0,.int .i64 0,.int .i64 0,.slice 0 true [] none])]⟩) (by simp[St.get,lk,keep,ins,W,Le.refl]) (by simp[lk]) (by simp[lk]) (by simp[aB,lk]) (by simp[lk])) ?_;refine Weak.trans (Weak.ghost 4 75 2 (F':=[(17,.int .i64 8),(2,.ref 0 0),(4,.slice 1 (oG s).isEmpty ((oG s).map fun x=>[D.str x]) none),(16,.ref 3 0)]) (σ':=[(3,.box 24 [.str p0.1,.str p1.1,.str p2.1,.str p3.1,.str p4.1,.int .i64 p5.2,.int .i64 p6.2,.int .i64 p7.2,.slice 2 true (([]:List At).map At.cs) (some 4)]),(0,.box 24 [.str [],.str [],.str [],.str [],.str [],.int .i64 0,.int .i64 0,.int .i64 0,.slice 0 true [] none])]) (by simp[lk]) (by simp[zO,wJ]) (by simp[BK,OT,PV,wJ])) ?_;exact Weak.store (by simp[St.get,lk,Le.refl]) (by simp[lk]) (by simp[lk]) (by simp[aB,lk]) (by simp[lk])
 rintro ⟨⟨k,at2⟩,hk,hI,hAO,hal2⟩
 dsimp only
 simp only[abS,abT]
 refine aG 2 bQ ?_
 refine WP.cond rfl (fun q3=>?_) (fun q3=>?_)
 ·have hlt:=aO q3
  have hg:((oG s).map fun x=>[D.str x])[k]?=some [D.str (oG s)[k]]:=getM hlt
  have hnf:(oG s).isEmpty=false:=agy hlt
  rw[bZ hlt] at hI
  refine aG 3 [] ?_
  rcases RY (oG s)[k] with⟨ha,ht⟩ | ⟨q,ha,hu,ht⟩ | ⟨q,ha,hu,ht⟩ | ⟨q,n,l,ha,hu,ht⟩
  ·have hR:=agt hq h8 hI8 (by rw[hI];exact Ap ht)
   refine WP.S bQ fun _ z=>?_
   simp +decide only[TF,q3,hg,hnf,↓reduceIte]
   refine aj.P (nJ (mV++[61]) (oG s)[k] (by decide) (by have:=hm _ (adb hlt);omega)) rfl rfl ?_
   simp +decide only[TF,ha,JQ,↓reduceIte]
   apply z;clear z
   refine oC 5 bQ (Ah [] (by decide)) @agx @vW.eq_def ?_
   apply WP.ret
   exact Ends.P (d:= .aQ [_,_]) rfl (by rw[hR];exact Le.trans (Le.of_eq (by simp +decide only[St.get,W,ak,fA,↓reduceIte])) Aq)
  ·have hR:=agt hq h8 hI8 (by rw[hI];exact Ap ht)
   have hql:=ag9 (Am ha) (hm _ (adb hlt))
   refine WP.S bQ fun _ z=>?_
   simp +decide only[TF,q3,hg,hnf,↓reduceIte]
   refine aj.P (nJ (mV++[61]) (oG s)[k] (by decide) (by have:=hm _ (adb hlt);omega)) rfl rfl ?_
   simp +decide only[TF,ha,JQ,↓reduceIte]
   apply z;clear z
   refine CO 5 bQ (Ah q (by omega)) hu @vW.eq_def @d40 ?_
   apply WP.ret
   exact Ends.P (d:= .aQ [_,_]) rfl (by rw[hR];exact Le.trans (Le.of_eq (by simp +decide only[St.get,W,ak,fA,↓reduceIte])) Aq)
  ·have hR:=agt hq h8 hI8 (by rw[hI];exact Ap ht)
   have hql:=ag9 (Am ha) (hm _ (adb hlt))
   have hz:(((0:Nat):Int) == 0)=true:=by decide
   refine WP.S bQ fun _ z=>?_
   simp +decide only[TF,q3,hg,hnf,↓reduceIte]
   refine aj.P (nJ (mV++[61]) (oG s)[k] (by decide) (by have:=hm _ (adb hlt);omega)) rfl rfl ?_
   simp +decide only[TF,ha,JQ,↓reduceIte]
   apply z;clear z
   refine CO 5 bQ (Ah q (by omega)) hu @vW.eq_def hz ?_
   apply WP.ret
   exact Ends.P (d:= .aQ [_,_]) rfl (by rw[hR];exact Le.trans (Le.of_eq (by simp +decide only[St.get,W,ak,fA,↓reduceIte])) Aq)
  have hql:=ag9 (Am ha) (hm _ (adb hlt))
  have hl2:(((l.length+1:Nat):Int) == 0)=false:=by rw[beq_eq_false_iff_ne];omega
  have hao:=RX hql hu
  have h1l:(1≤l.length+1)=True:=eq_true (by omega)
  have htk:List.take l.length (l.map fun x=>[D.str x])=l.map fun x=>[D.str x]:=ajr (by simp)
  refine WP.S bQ fun _ z=>?_
  simp +decide only[TF,q3,hg,hnf,↓reduceIte]
  refine aj.P (nJ (mV++[61]) (oG s)[k] (by decide) (by have:=hm _ (adb hlt);omega)) rfl rfl ?_
  simp +decide only[TF,ha,JQ,↓reduceIte]
  apply z;clear z
  refine CO 5 bQ (Ah q (by omega)) hu @vW.eq_def hl2 ?_
  refine WP.E fun _ z=>?_
  simp +decide only[TF,h1l,htk,↓reduceIte]
  refine⟨⟨by simp only[abf,ac',abN,acS];omega,by simp only[abf,ac',abN,acS];omega⟩,?_⟩
  refine z _ _ (by kernel_rfl) ?_;clear z
  show WP ..
  refine aG 1 [] ?_
  show ∃y,_∧Weak _ _ _
  refine⟨⟨(k+1,at2++[⟨n,false,l⟩]),?_⟩,?_,?_⟩
  ·exact⟨by dsimp only;omega,by rw[hI];exact aaU ht,hAO.snoc hao,by simp;omega⟩
  ·dsimp only;omega
  exact Weak.store (by simp[St.get,lk,Le.refl,aU hlt (show (oG s).length≤140737488355328 by omega),hnf]) (by simp[lk,aeD,At.cs,abN,ag1]) (by simp[lk,fH,-List.map_append,-List.mem_map,-List.mem_append]) (by simp[aB,lk,fV,-List.map_append,-List.mem_map,-List.mem_append]) (by simp[lk])
 have hge:=aP q3
 rw[dR hge] at hI
 have hR:sG s=some _:=an9 hq h8 hI8 hI
 refine aG 1 [] ?_
 refine WP.weak (st':=⟨[(2,.ref 0 0),(16,.ref 3 0)],[(3,.box 24 [.str p0.1,.str p1.1,.str p2.1,.str p3.1,.str p4.1,.int .i64 p5.2,.int .i64 p6.2,.int .i64 p7.2,.slice 2 at2.isEmpty (at2.map At.cs) none]),(0,.box 24 [.str [],.str [],.str [],.str [],.str [],.int .i64 0,.int .i64 0,.int .i64 0,.slice 0 true [] none])]⟩) ?_ ?_
 ·refine Weak.trans (Weak.akO 3 24 [.str p0.1,.str p1.1,.str p2.1,.str p3.1,.str p4.1,.int .i64 p5.2,.int .i64 p6.2,.int .i64 p7.2,.slice 2 at2.isEmpty (at2.map At.cs) (some 4)] [.str p0.1,.str p1.1,.str p2.1,.str p3.1,.str p4.1,.int .i64 p5.2,.int .i64 p6.2,.int .i64 p7.2,.slice 2 at2.isEmpty (at2.map At.cs) none] (by simp[lk]) ⟨Le.refl _,Le.refl _,Le.refl _,Le.refl _,Le.refl _,Le.refl _,Le.refl _,Le.refl _,Le.fg _,trivial⟩) ?_
  exact Weak.store (by simp[St.get,lk,W,Le.refl]) (by simp[lk,W]) (by simp[lk]) (by simp[aB,lk]) (by simp[lk])
 refine aG 1 bQ ?_
 apply WP.ret
 exact Ends.P (d:= .aQ [_,_]) rfl (by rw[hR];exact Le.of_eq (by simp +decide only[Zf,As.cs,St.get,W,ak,fA,↓reduceIte]))
abbrev jI:List Nat:=[0,2,3,4,5,6,7,10,18,31]
theorem Ov (s:List UInt8)(hs:s.length≤1099511627776):ay Pr 14 [.str s] (jw s):=by
 refine gK Tryz.func14 Tryz.ntmps14 ?_
 refine aG 3 jI ?_
 refine WP.cond rfl (fun q1=>?_) (fun q1=>?_)
 ·have hR:=ap3 q1
  refine aJ 1 jI q1 ?_
  apply WP.ret
  exact Ends.pure (d:= .aQ [_,_]) (.inr rfl) rfl (by unfold jw;rw[hR];exact Le.trans (Le.of_eq (by simp +decide only[St.get,W,ak,fA,↓reduceIte])) (oV _)) (by simp[jw])
 have h0:=q1
 have hs4:s.length≤4096:=by simp at h0;omega
 refine aG 1 [] ?_
 rcases hp:sG s with _|a
 ·have hR:=ap4 h0 hp
  refine WP.S jI fun _ z=>?_
  simp +decide only[TF,q1,↓reduceIte]
  refine aj.P (Ou s hs4) rfl rfl ?_
  simp +decide only[TF,hp,As.cs,Zf,↓reduceIte]
  apply z;clear z
  refine aG 4 jI ?_
  apply WP.ret
  exact Ends.pure (d:= .aQ [_,_]) (.inr rfl) rfl (by unfold jw;rw[hR];exact Le.trans (Le.of_eq (by simp +decide only[St.get,W,ak,fA,↓reduceIte])) (oV _)) (by simp[jw])
 have hao:=ai8 hs4 hp
 refine WP.S jI fun _ z=>?_
 simp +decide only[TF,q1,↓reduceIte]
 refine aj.P (Ou s hs4) rfl rfl ?_
 simp +decide only[TF,hp,As.cs,Zf,↓reduceIte]
 apply z;clear z
 refine aJ 6 jI (BA a hao) ?_
 refine WP.S jI fun _ z=>?_
 refine ah.take 3 fun J hJ=>?_
 simp +decide only[TF,↓reduceIte]
 refine hJ _ _ ?_;clear hJ J
 refine ah.part 27 rfl (fun q2=>?_) (fun q2=>?_)
 ·have hR:=ap5 h0 hp q2
  simp +decide only[TF,q2,↓reduceIte]
  apply z;clear z
  refine aG 2 jI ?_
  apply WP.ret
  exact Ends.pure (d:= .aQ [_,_]) (.inr rfl) rfl (by unfold jw;rw[hR];exact Le.trans (Le.of_eq (by simp +decide only[St.get,W,ak,fA,↓reduceIte])) (oV _)) (by simp[jw])
 have h2:=q2
 simp +decide only[TF,q2,↓reduceIte]
 apply z;clear z
 refine WP.cond rfl (fun q3=>?_) (fun q3=>?_)
 ·have hR:=ap6 h0 hp h2 (by simpa using q3)
  refine aJ 1 jI q3 ?_
  apply WP.ret
  exact Ends.pure (d:= .aQ [_,_]) (.inr rfl) rfl (by unfold jw;rw[hR];exact Le.trans (Le.of_eq (by simp +decide only[St.get,W,ak,fA,↓reduceIte])) (oV _)) (by simp[jw])
 have h3:((dX a).1 == s)=true:=by simpa using q3
 have hR:=ap7 h0 hp h2 h3
 have hck:eP a.ats=0:=(jE (wZ (Prod.ext (by simpa using h3) (by simpa using h2):dX a=(s,0))).1).2.2.2
 refine jd 3 jI (NP a.ats a.nl hao.2.2.1 hao.2.2.2.1 hao.2.2.2.2 (Gf hck)) q3 ?_
 apply WP.ret
 exact Ends.pure (d:= .aQ [_,_]) (.inr rfl) rfl (by unfold jw;rw[hR];exact Le.of_eq (by simp +decide only[nrm,As.cs,St.get,W,ak,fA,↓reduceIte])) (by simp[jw])
def lgV (v:List UInt8):Bool:=!(decide ((v.length:Int)>300))
def lgA (x:At):Bool:=!(decide ((x.name.length:Int)>300) || decide ((x.vals.length:Int)>8)) && x.vals.all lgV
def lgH (a:As):Bool:=decide ((a.id.length:Int)>300) || (decide ((a.iw.length:Int)>300) || (decide ((a.jV.length:Int)>300) || (decide ((a.sub.length:Int)>300) || (decide ((a.req.length:Int)>300) || decide ((a.ats.length:Int)>8)))))
def jJ (a:As):Bool:=if lgH a=true then false else a.ats.all lgA
structure As.big (a:As):Prop where
 nl:a.nl=true→a.ats=[]
 rng:jo a.kK∧jo a.fD∧jo a.lvl
 ats:∀x∈a.ats,x.nl=true→x.vals=[]
theorem alS {x:At}(h:lgA x=true):x.name.length≤300∧x.vals.length≤8∧∀v∈x.vals,v.length≤300:=by
 simp only[lgA,lgV,ait,adh,Bool.or_eq_false_iff,decide_eq_false_iff_not,ami] at h
 obtain⟨⟨h1,h2⟩,h3⟩:=h
 exact⟨by omega,by omega,fun v hv=>by have:=h3 v hv;omega⟩
theorem agz {a:As}(h:jJ a=true):(a.id.length≤300∧a.iw.length≤300∧a.jV.length≤300∧a.sub.length≤300∧a.req.length≤300)∧a.ats.length≤8∧∀x∈a.ats,lgA x=true:=by
 unfold jJ at h
 split at h
 ·cases h
 ·rename_i hh
  rw[apK] at hh
  simp only[lgH,Bool.or_eq_false_iff,decide_eq_false_iff_not] at hh
  obtain⟨h1,h2,h3,h4,h5,h6⟩:=hh
  exact⟨⟨by omega,by omega,by omega,by omega,by omega⟩,by omega,ami.1 h⟩
theorem agA {a:As}(hb:a.big)(h:jJ a=true):a.ok:=by
 obtain⟨⟨h1,h2,h3,h4,h5⟩,h6,h7⟩:=agz h
 refine⟨⟨by omega,by omega,by omega,by omega,by omega⟩,hb.rng,by omega,hb.nl,fun x hx=>?_⟩
 obtain⟨q1,q2,q3⟩:=alS (h7 x hx)
 exact⟨by omega,by omega,hb.ats x hx,fun v hv=>by have:=q3 v hv;omega⟩
theorem Zi (ls:List (List UInt8))(nl:Bool)(hn:ls.length≤1099511627776)(hnl:nl=true→ls=[]):ay Pr 30 [.slice 1 nl (ls.map fun x=>[.str x]) none,.slice 1 nl (ls.map fun x=>[.str x]) none] (.bool true):=by
 refine gK Tryz.func30 Tryz.ntmps30 ?_
 refine aG 8 [0,1,4,5,10,14,25] ?_
 refine WP.lp [0,1] (X:={k:Nat // k≤ls.length}) (fun x=>match x with| ⟨(k),_⟩=>[(5,.int .i64 k)]) (fun x=>match x with| ⟨(k),_⟩=>[]) (fun x=>match x with| ⟨(k),_⟩=>ls.length - k) (by simp +decide only[W,↓reduceIte];rfl) ?_ ⟨(0),ada _⟩ ?_
 rotate_left
 ·exact OC
 rintro ⟨k,hk⟩
 dsimp only
 simp only[abS,abT]
 refine aG 2 [0,1,4,5,10,14,25] ?_
 refine WP.cond rfl (fun q1=>?_) (fun q1=>?_)
 ·have hlt:=aO q1
  have hg:(ls.map fun x=>[D.str x])[k]?=some [D.str ls[k]]:=getM hlt
  have hnf:=aX hnl hlt
  refine oC 7 [0,1,4,5,10,14,25] q1 hg hnf ?_
  show ∃y,_∧Weak _ _ _
  refine⟨⟨k+1,by omega⟩,by dsimp only;omega,?_⟩
  exact zZ2 (aU hlt (show ls.length≤140737488355328 by omega)) hnf
 have hge:=aP q1
 refine aJ 2 [0,1,4,5,10,14,25] q1 ?_
 apply WP.ret
 exact Ya
theorem Zj (l:List At)(nl:Bool)(hn:l.length≤1099511627776)(hnl:nl=true→l=[])(hl:∀x∈l,x.ok):ay Pr 62 [.slice 2 nl (l.map At.cs) none,.slice 2 nl (l.map At.cs) none] (.bool true):=by
 refine gK Tryz.func62 Tryz.ntmps62 ?_
 refine aG 8 [0,1,4,5,10,14,41] ?_
 refine WP.lp [0,1] (X:={k:Nat // k≤l.length}) (fun x=>match x with| ⟨(k),_⟩=>[(5,.int .i64 k)]) (fun x=>match x with| ⟨(k),_⟩=>[]) (fun x=>match x with| ⟨(k),_⟩=>l.length - k) (by simp +decide only[W,↓reduceIte];rfl) ?_ ⟨(0),ada _⟩ ?_
 rotate_left
 ·exact OC
 rintro ⟨k,hk⟩
 dsimp only
 simp only[abS,abT]
 refine aG 2 [0,1,4,5,10,14,41] ?_
 refine WP.cond rfl (fun q1=>?_) (fun q1=>?_)
 ·have hlt:=aO q1
  have hg:(l.map At.cs)[k]?=some (At.cs l[k]):=getM hlt
  have hnf:=aX hnl hlt
  refine aG 3 [] ?_
  refine WP.D [0,1,4,5,10,14,41] fun _ z=>?_
  simp +decide only[TF,q1,hg,hnf,At.cs,↓reduceIte]
  refine aj.pure (Zi l[k].vals l[k].nl (hl _ (adb hlt)).2.1 (hl _ (adb hlt)).2.2.1) rfl rfl (by simp[fH]) ?_
  simp +decide only[TF,↓reduceIte]
  refine z _ _ (by kernel_rfl) ?_;clear z
  refine aG 3 [] ?_
  show ∃y,_∧Weak _ _ _
  refine⟨⟨k+1,by omega⟩,by dsimp only;omega,?_⟩
  exact zZ2 (aU hlt (show l.length≤140737488355328 by omega)) hnf
 have hge:=aP q1
 refine aJ 2 [0,1,4,5,10,14,41] q1 ?_
 apply WP.ret
 exact Ya
theorem Zk (a:As)(ha:a.ok):ay Pr 17 [.agg [.str a.id,.str a.iw,.str a.jV,.str a.sub,.str a.req,.int .i64 a.kK,.int .i64 a.fD,.int .i64 a.lvl,.slice 2 a.nl (a.ats.map At.cs) none],.agg [.str a.id,.str a.iw,.str a.jV,.str a.sub,.str a.req,.int .i64 a.kK,.int .i64 a.fD,.int .i64 a.lvl,.slice 2 a.nl (a.ats.map At.cs) none]] (.bool true):=by
 refine gK Tryz.func17 Tryz.ntmps17 ?_
 refine aJ 2 [2,3,4] (Zj a.ats a.nl ha.2.2.1 ha.2.2.2.1 ha.2.2.2.2) ?_
 apply WP.ret
 exact Ya
abbrev jP:List Nat:=[1,2,3,4,38,43,63,72,85]
theorem ajc (a:As)(hb:a.big):ay Pr 9 [.agg [.str a.id,.str a.iw,.str a.jV,.str a.sub,.str a.req,.int .i64 a.kK,.int .i64 a.fD,.int .i64 a.lvl,.slice 2 a.nl (a.ats.map At.cs) none]] (.bool (jJ a)):=by
 refine gK Tryz.func9 Tryz.ntmps9 ?_
 refine aG 2 jP ?_
 refine WP.S jP fun _ z=>?_
 refine ah.take 5 fun J hJ=>?_
 simp +decide only[TF,↓reduceIte]
 refine hJ _ _ ?_;clear hJ J
 refine ah.part 9 rfl (fun q1=>?_) (fun q1=>?_)
 ·have hR:jJ a=false:=by unfold jJ;exact if_pos (by simp only[lgH,q1,aoN])
  simp +decide only[TF,q1,↓reduceIte]
  apply z;clear z
  refine aG 2 jP ?_
  apply WP.ret
  exact Bq hR
 refine ah.take 6 fun J hJ=>?_
 simp +decide only[TF,q1,↓reduceIte]
 refine hJ _ _ ?_;clear hJ J
 refine ah.part 15 rfl (fun q2=>?_) (fun q2=>?_)
 ·have hR:jJ a=false:=by unfold jJ;exact if_pos (by simp only[lgH,q2,apl,aoN])
  simp +decide only[TF,q2,↓reduceIte]
  apply z;clear z
  refine aG 2 jP ?_
  apply WP.ret
  exact Bq hR
 refine ah.take 6 fun J hJ=>?_
 simp +decide only[TF,q2,↓reduceIte]
 refine hJ _ _ ?_;clear hJ J
 refine ah.part 21 rfl (fun q3=>?_) (fun q3=>?_)
 ·have hR:jJ a=false:=by unfold jJ;exact if_pos (by simp only[lgH,q3,apl,aoN])
  simp +decide only[TF,q3,↓reduceIte]
  apply z;clear z
  refine aG 2 jP ?_
  apply WP.ret
  exact Bq hR
 refine ah.take 6 fun J hJ=>?_
 simp +decide only[TF,q3,↓reduceIte]
 refine hJ _ _ ?_;clear hJ J
 refine ah.part 27 rfl (fun q4=>?_) (fun q4=>?_)
 ·have hR:jJ a=false:=by unfold jJ;exact if_pos (by simp only[lgH,q4,apl,aoN])
  simp +decide only[TF,q4,↓reduceIte]
  apply z;clear z
  refine aG 2 jP ?_
  apply WP.ret
  exact Bq hR
 refine ah.take 6 fun J hJ=>?_
 simp +decide only[TF,q4,↓reduceIte]
 refine hJ _ _ ?_;clear hJ J
 refine ah.part 33 rfl (fun q5=>?_) (fun q5=>?_)
 ·have hR:jJ a=false:=by unfold jJ;exact if_pos (by simp only[lgH,q5,apl,aoN])
  simp +decide only[TF,q5,↓reduceIte]
  apply z;clear z
  refine aG 2 jP ?_
  apply WP.ret
  exact Bq hR
 simp +decide only[TF,q5,↓reduceIte]
 apply z;clear z
 refine WP.cond rfl (fun q6=>?_) (fun q6=>?_)
 ·have hR:jJ a=false:=by unfold jJ;exact if_pos (by simp only[lgH,q6,apl])
  refine aJ 1 jP q6 ?_
  apply WP.ret
  exact Bq hR
 have hH:jJ a=a.ats.all lgA:=by unfold jJ;exact if_neg (by simp only[lgH,q1,q2,q3,q4,q5,q6,Bool.or_false];decide)
 have h8:a.ats.length≤8:=by have:=of_decide_eq_false q6;omega
 refine aJ 4 [1,3] q6 ?_
 refine WP.lp [1] (X:={k:Nat // k≤a.ats.length∧a.ats.all lgA=(a.ats.drop k).all lgA}) (fun x=>match x with| ⟨(k),_⟩=>[(3,.int .i64 k)]) (fun x=>match x with| ⟨(k),_⟩=>[(0,.box 24 [.str a.id,.str a.iw,.str a.jV,.str a.sub,.str a.req,.int .i64 a.kK,.int .i64 a.fD,.int .i64 a.lvl,.slice 2 a.nl (a.ats.map At.cs) none])]) (fun x=>match x with| ⟨(k),_⟩=>a.ats.length - k) (by simp +decide only[W,↓reduceIte];rfl) ?_ ⟨(0),⟨ada _,by simp⟩⟩ ?_
 rotate_left
 ·exact QB
 rintro ⟨k,⟨hk,hI⟩⟩
 dsimp only
 simp only[abS,abT]
 refine aG 2 jP ?_
 refine WP.cond rfl (fun q7=>?_) (fun q7=>?_)
 ·have hlt:=aO q7
  have hg:(a.ats.map At.cs)[k]?=some (At.cs a.ats[k]):=getM hlt
  have hnf:=aX hb.nl hlt
  rw[bZ hlt,alf] at hI
  refine aG 4 [] ?_
  refine WP.S jP fun _ z=>?_
  refine ah.take 9 fun J hJ=>?_
  simp +decide only[TF,q7,hg,hnf,At.cs,↓reduceIte]
  refine hJ _ _ ?_;clear hJ J
  refine ah.part 54 rfl (fun q8=>?_) (fun q8=>?_)
  ·have hA0:lgA a.ats[k]=false:=by simp only[lgA,q8,aoN,aoC,akD]
   rw[hA0,akD] at hI
   have hR:=hH.trans hI
   simp +decide only[TF,q8,↓reduceIte]
   apply z;clear z
   refine aG 2 jP ?_
   apply WP.ret
   exact Bq hR
  have hn3:=q8
  simp +decide only[TF,hg,q8,At.cs,↓reduceIte]
  apply z;clear z
  refine WP.cond rfl (fun q9=>?_) (fun q9=>?_)
  ·have hA0:lgA a.ats[k]=false:=by simp only[lgA,hn3,q9,apl,aoC,akD]
   rw[hA0,akD] at hI
   have hR:=hH.trans hI
   refine aJ 1 jP q9 ?_
   apply WP.ret
   exact Bq hR
  have hv8:a.ats[k].vals.length≤8:=by have:=of_decide_eq_false q9;omega
  have hA1:lgA a.ats[k]=a.ats[k].vals.all lgV:=by simp only[lgA,hn3,q9,Bool.or_false,apa,al5]
  refine aJ 3 [1,3,4] q9 ?_
  refine WP.lp [1,3] (X:={j:Nat // j≤a.ats[k].vals.length∧a.ats[k].vals.all lgV=(a.ats[k].vals.drop j).all lgV}) (fun x=>match x with| ⟨(j),_⟩=>[(4,.int .i64 j)]) (fun x=>match x with| ⟨(j),_⟩=>[(0,.box 24 [.str a.id,.str a.iw,.str a.jV,.str a.sub,.str a.req,.int .i64 a.kK,.int .i64 a.fD,.int .i64 a.lvl,.slice 2 a.nl (a.ats.map At.cs) none])]) (fun x=>match x with| ⟨(j),_⟩=>a.ats[k].vals.length - j) (by simp +decide only[W,↓reduceIte];rfl) ?_ ⟨(0),⟨ada _,by simp⟩⟩ ?_
  rotate_left
  ·exact zY1 hnf
  rintro ⟨j,⟨hj,hJ⟩⟩
  dsimp only
  simp only[abS,abT]
  refine oC 2 jP hg hnf @At.cs.eq_def ?_
  refine WP.cond rfl (fun q10=>?_) (fun q10=>?_)
  ·have hlt2:j<a.ats[k].vals.length:=aO q10
   have hg2:(a.ats[k].vals.map fun x=>[D.str x])[j]?=some [D.str a.ats[k].vals[j]]:=getM hlt2
   have abH:=aX (hb.ats _ (adb hlt)) hlt2
   rw[bZ hlt2,alf] at hJ
   refine OY 4 jP hg q10 hg2 abH @At.cs.eq_def ?_
   refine WP.cond rfl (fun q11=>?_) (fun q11=>?_)
   ·have hJ0:lgV a.ats[k].vals[j]=false:=by simp only[lgV,q11,aoC]
    rw[hJ0,akD] at hJ
    rw[hA1,hJ,akD] at hI
    have hR:=hH.trans hI
    refine aJ 1 jP q11 ?_
    apply WP.ret
    exact Bq hR
   have hJ0:lgV a.ats[k].vals[j]=true:=by simp only[lgV,q11,apa]
   rw[hJ0,al5] at hJ
   refine aJ 2 [] q11 ?_
   show ∃y,_∧Weak _ _ _
   refine⟨⟨j+1,by omega,hJ⟩,by dsimp only;omega,?_⟩
   exact CP (aU hlt2 (show a.ats[k].vals.length≤140737488355328 by omega)) hnf
  have ap8:=aP q10
  rw[dR ap8,amn] at hJ
  rw[hA1,hJ,al5] at hI
  refine aJ 2 [] q10 ?_
  show ∃y,_∧Weak _ _ _
  refine⟨⟨k+1,by omega,hI⟩,by dsimp only;omega,?_⟩
  exact CP (aU hlt (show a.ats.length≤140737488355328 by omega)) hnf
 have hge:=aP q7
 rw[dR hge,amn] at hI
 have hR:=hH.trans hI
 refine aJ 2 jP q7 ?_
 apply WP.ret
 exact Bq hR
theorem Ar:bF.ok:=by
 refine⟨⟨by decide,by decide,by decide,by decide,by decide⟩,⟨by unfold jo;decide,by unfold jo;decide,by unfold jo;decide⟩,by decide,fun _=>rfl,nofun⟩
theorem alT {a:As}(hc:bM a=0):(nrm a).ok:=by
 obtain⟨⟨w1,w2,w3,w4,w5⟩,⟨q6,q7,q8⟩,⟨q9,q10⟩,hA⟩:=jE hc
 have a1:=mF w1;have a2:=mF w2;have a3:=mF w3;have a4:=mF w4;have a5:=FW w5
 have hk:=Gf hA
 have hlen:(jh a.ats).length≤32:=by rw[Ae];exact hk.len
 refine⟨⟨by show a.id.length≤_;omega,by show a.iw.length≤_;omega,by show a.jV.length≤_;omega,by show a.sub.length≤_;omega,by show a.req.length≤_;omega⟩,⟨⟨?_,?_⟩,⟨?_,?_⟩,⟨?_,?_⟩⟩,?_,fun e=>List.isEmpty_iff.1 e,fun x hx=>?_⟩
 ·show -9223372036854775808≤a.kK;omega
 ·show a.kK≤9223372036854775807;omega
 ·show -9223372036854775808≤a.fD;omega
 ·show a.fD≤9223372036854775807;omega
 ·show -9223372036854775808≤a.lvl;omega
 ·show a.lvl≤9223372036854775807;omega
 ·show (jh a.ats).length≤_;omega
 ·obtain⟨h1,h2,h3,h4,h5⟩:=qm hA hx
  exact⟨ag9 h1 (by omega),ag9 h4 (by omega),(fun e=>by rw[h2] at e;cases e),fun v hv=>ag9 (h5 v hv) (by omega)⟩
theorem agB (s:List UInt8):(jF s).1.ok:=by
 rcases Oe s with⟨_,h⟩ | ⟨_,h,_⟩ | ⟨_,b,h,he,hn,_⟩
 ·rw[h];exact Ar
 ·rw[h];exact Ar
 ·rw[h,← hn];exact alT (wZ he).1
set_option maxRecDepth 20000
def ajd:List UInt8:=[111,116,104,101,114]
def PO:jO:=Pn ajd [111]
def dI:TS:=[(AQ,PI,0),(ajd,PO,1)]
theorem agC:PO.ok:=⟨by decide,by decide,by decide,nofun,by simp[PO,Pn,ni,Key.ok]⟩
theorem zA:TS.ok dI:=by
 intro e he
 simp only[dI,ael,akg,or_false] at he
 rcases he with rfl|rfl
 ·exact⟨Xh,by simp[PI,Pn]⟩
 ·exact⟨agC,by simp[PO,Pn]⟩
theorem aaX:anch ML 1 PO 0=(0,dI,2):=TQ (by decide +kernel) (by decide) rfl rfl
def JR (n:Nat):Nat:=n+10
def Zl (n:Nat):Nat:=n - 10
theorem Xl:∀n,Zl (JR n)=n:=fun n=>by simp[JR,Zl]
theorem Zm (f:Nat→Nat)(ms:TS):(sQ ms).map (fun e=>(e.1,bK f e.2.1,e.2.2))=sQ ms:=by
 simp only[sQ,List.map_map]
 refine ajb fun e _=>?_
 simp[bK,jO.cs,iG,D8]
theorem Zn (f:Nat→Nat)(l:RQ):(mE lV l).map (fun e=>(e.1,bK f e.2.1,e.2.2))=mE lV l:=afT f lV (fun x=>by simp[lV,bK,iG]) l
theorem Zo (f:Nat→Nat)(l:US):(mE qE l).map (fun e=>(e.1,bK f e.2.1,e.2.2))=mE qE l:=afT f qE (fun x=>by simp[qE,bK]) l
theorem agD (f:Nat→Nat)(l:List (List UInt8)):oz f (l.map fun x=>[D.str x])=l.map fun x=>[D.str x]:=Nw f l
theorem Au (f:Nat→Nat)(l:List At):oz f (l.map At.cs)=l.map At.cs:=by
 rw[kN]
 refine (ajb fun x hx=>?_).trans (amE _)
 obtain⟨a,_,rfl⟩:=List.mem_map.1 hx
 simp[At.cs,iG,bK,agD]
theorem xq (f:Nat→Nat)(a:As):iG f a.cs=a.cs:=by simp[As.cs,iG,bK,Au]
theorem EJ (f:Nat→Nat)(a:As)(n:Int):bK f (.aQ [.agg a.cs,.int .i64 n])= .aQ [.agg a.cs,.int .i64 n]:=by simp[bK,iG,xq]
theorem zB (f:Nat→Nat)(rq:RQ)(now:Int):bK f (oD rq now)=oD rq now:=by simp[oD,bK,agD]
set_option maxRecDepth 10000
set_option maxHeartbeats 8000000
theorem agE:aF Pr 24 [] [] (.ref 1 0) [(0,.map (sQ dI) 2),(1,.box 138 [.map 0])]:=by
 refine qX Tryz.func24 Tryz.ntmps24 ?_
 refine zG7 7 [0,1,16] (ajU) (sF AQ [115] (by decide)) (Nk [] 0 agk PI Xh 0) (sF ajd [111] (by decide)) (Nk ML 1 RU PO agC 0) @GI @aaX ?_
 apply WP.ret
 exact ZN
set_option maxRecDepth 20000
end Go.Proofs
