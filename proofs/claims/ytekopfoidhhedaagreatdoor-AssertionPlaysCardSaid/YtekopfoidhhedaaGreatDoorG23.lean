import Derived.Test.YtekopfoidhhedaaGreatDoorG22
import Derived.Test.YtekopfoidhhedaaGreatDoorG13
import Derived.Test.YtekopfoidhhedaaGreatDoorG10
import Derived.Test.YtekopfoidhhedaaGreatDoorG15
import Derived.Shelf.Sort.Plain
set_option linter.unusedVariables false
set_option linter.unusedSimpArgs false
set_option linter.unnecessarySimpa false
namespace Go.Proofs
open Go Go.Id
def vR (r:jO × Int × Int):D:=if r.2.2=0 then .agg r.1.cs else .junk
@[simp] theorem apJ {S:Nat→Prop}(r:jO × Int × Int):bY S (vR r)↔True:=by unfold vR;split <;> simp
theorem alg (x:List UInt8):GU (sO x)= .aQ [.str (adV x),.int .i64 (ueB x)]:=by
 unfold adV ueB
 cases sO x <;> rfl
theorem c4 (m:Nat):((4+m:Nat):Int)=4+(m:Int):=by omega
set_option maxRecDepth 10000
set_option maxHeartbeats 4000000
end Go.Proofs
namespace Go.Id
open Go
theorem Le.agg {l m:List D}(h:Les l m):Le (.agg l) (.agg m):=fun M γ w v hr=>by
 obtain⟨h1,h2⟩:=h.at
 cases hr with
 | @agg _ vs hl hone hr=>
  refine .agg (by rw[hl,h1]) hone fun i d v hd hv=>?_
  have hi:i<l.length:=by rw[h1];exact (acR.1 hd).1
  exact h2 i _ d (abt hi) hd _ _ _ _ (hr i _ v (abt hi) hv)
theorem Le.aQ {l m:List D}(h:Les l m):Le (.aQ l) (.aQ m):=fun M γ w v hr=>by
 obtain⟨h1,h2⟩:=h.at
 cases hr with
 | @aQ _ vs hl hr=>
  refine .aQ (by rw[hl,h1]) fun i d v hd hv=>?_
  have hi:i<l.length:=by rw[h1];exact (acR.1 hd).1
  exact h2 i _ d (abt hi) hd _ _ _ _ (hr i _ v (abt hi) hv)
end Go.Id
namespace Go.Proofs
open Go Go.Id
set_option maxRecDepth 10000
set_option maxHeartbeats 4000000
def wU (k:Key)(s:List UInt8):List UInt8:=k.id++[58]++yS k.sec s
def lS (l:List Key)(s:List UInt8)(now:Int):List UInt8 × Int:=if eqK (xG l now) dP=true then ([],26) else (wU (xG l now) s,0)
theorem vJ (k s:List UInt8):(yS k s).length=16:=yR _
theorem YA {l:List Key}(now:Int)(h:∀k∈l,k.ok):(xG l now).ok:=by
 cases he:eqK (xG l now) dP with
 |true=>rw[(Tt _ _).1 he];exact MZ
 |false=>exact h _ (VZ he).2.1
theorem O9 (k:Key)(s:List UInt8)(hk:k.ok)(hs:s.length≤1099511627776):ay Pr 120 [.agg [.str k.id,.str k.sec,.int .i64 k.sf,.int .i64 k.su,.int .i64 k.af,.int .i64 k.au],.str s] (.str (wU k s)):=by
 refine gK Tryz.func120 Tryz.ntmps120 ?_
 refine aG 1 [1,2,4] ?_
 refine WP.D [1,2,4] fun _ z=>?_
 simp +decide only[W,ak,tK,qK,nT,tN,↓reduceIte]
 refine⟨by have:=hk.1;omega,?_⟩
 refine aj.pure (aeM k.sec s hk.2 hs) rfl (by simp[fg]) (by simp) ?_
 simp +decide only[W,ak,↓reduceIte]
 refine⟨by have:=hk.1;have:=vJ k.sec s;simp;omega,?_⟩
 refine z _ _ (by kernel_rfl) ?_;clear z
 apply WP.ret
 exact zV1 @wU.eq_def
theorem O_ (k:Key)(s:List UInt8)(hk:k.ok)(hs:s.length≤1099511627776):ay Pr 122 [.agg [.str k.id,.str k.sec,.int .i64 k.sf,.int .i64 k.su,.int .i64 k.af,.int .i64 k.au],.str s] (.str (wU k s)):=by
 refine gK Tryz.func122 Tryz.ntmps122 ?_
 refine aG 1 [1,2,4] ?_
 refine WP.D [1,2,4] fun _ z=>?_
 simp +decide only[W,ak,tK,qK,nT,tN,↓reduceIte]
 refine⟨by have:=hk.1;omega,?_⟩
 refine aj.pure (J6 k.sec s hk.2 hs) rfl (by simp[fg]) (by simp) ?_
 simp +decide only[W,ak,↓reduceIte]
 refine⟨by have:=hk.1;have:=vJ k.sec s;simp;omega,?_⟩
 refine z _ _ (by kernel_rfl) ?_;clear z
 apply WP.ret
 exact zV1 @wU.eq_def
abbrev yT:List Nat:=[0,1,2,6,7,8,9,17]
theorem aeO (l:List Key)(nl:Bool)(hn:l.length≤1099511627776)(hnl:nl=true→l=[])(hl:∀k∈l,k.ok)(s:List UInt8)(hs:s.length≤1099511627776)(now:Int):ay Pr 63 [.slice 6 nl (l.map Key.cs) none,.str s,.int .i64 now] (.aQ [.str (lS l s now).1,.int .i64 (lS l s now).2]):=by
 have hok:=YA now hl
 refine gK Tryz.func63 Tryz.ntmps63 ?_
 refine aG 1 yT ?_
 refine WP.S yT fun _ z=>?_
 simp +decide only[W,ak,↓reduceIte]
 refine aj.P (abG l nl now hn hnl hl) rfl rfl ?_
 simp +decide only[W,ak,wO,uY,↓reduceIte]
 apply z;clear z
 refine aG 2 yT ?_
 refine WP.cond rfl (fun q1=>?_) (fun q1=>?_)
 ·skip
  simp only[adh,afE] at q1
  refine aJ 1 yT q1 ?_
  apply WP.ret
  exact zX2 @lS.eq_def q1
 skip
 simp only[adh,afE] at q1
 refine aG 1 [] ?_
 refine WP.S yT fun _ z=>?_
 simp +decide only[W,ak,uY,zT,q1,↓reduceIte]
 refine aj.P (O9 (xG l now) s hok hs) rfl rfl ?_
 simp +decide only[W,ak,↓reduceIte]
 apply z;clear z
 apply WP.ret
 exact zX2 @lS.eq_def q1
abbrev yU:List Nat:=[0,1,2,6,7,8,9,17]
theorem aeP (l:List Key)(nl:Bool)(hn:l.length≤1099511627776)(hnl:nl=true→l=[])(hl:∀k∈l,k.ok)(s:List UInt8)(hs:s.length≤1099511627776)(now:Int):ay Pr 64 [.slice 6 nl (l.map Key.cs) none,.str s,.int .i64 now] (.aQ [.str (lS l s now).1,.int .i64 (lS l s now).2]):=by
 have hok:=YA now hl
 refine gK Tryz.func64 Tryz.ntmps64 ?_
 refine aG 1 yU ?_
 refine WP.S yU fun _ z=>?_
 simp +decide only[W,ak,↓reduceIte]
 refine aj.P (VO l nl now hn hnl hl) rfl rfl ?_
 simp +decide only[W,ak,wO,uY,↓reduceIte]
 apply z;clear z
 refine aG 2 yU ?_
 refine WP.cond rfl (fun q1=>?_) (fun q1=>?_)
 ·skip
  simp only[adh,afE] at q1
  refine aJ 1 yU q1 ?_
  apply WP.ret
  exact zX2 @lS.eq_def q1
 skip
 simp only[adh,afE] at q1
 refine aG 1 [] ?_
 refine WP.S yU fun _ z=>?_
 simp +decide only[W,ak,uY,zT,q1,↓reduceIte]
 refine aj.P (O_ (xG l now) s hok hs) rfl rfl ?_
 simp +decide only[W,ak,↓reduceIte]
 apply z;clear z
 apply WP.ret
 exact zX2 @lS.eq_def q1
end Go.Proofs
namespace Go.Proofs
open Go Go.Id
def keD (l:List Key)(x:List UInt8):D:=if Z_ l x=0 then .aQ [.slice 6 false ((l++[keR x]).map Key.cs) none,.int .i64 0] else .aQ [.slice 6 true [] none,.int .i64 (Z_ l x)]
@[simp] theorem aoR {S:Nat→Prop}(l:List Key)(x:List UInt8):bY S (keD l x)↔True:=by
 unfold keD
 split
 ·simp only[JX,oI,iff_true,ael,akg,or_false,forall_eq_or_imp,forall_eq,ahb,and_true]
  refine⟨fun e he d hd=>?_,nofun⟩
  obtain⟨k,hk,rfl⟩:=List.mem_map.1 he
  exact (MV _).2 trivial k hk d hd
 ·simp
theorem alh {S:Nat→Prop}(l:List Key)(nl:Bool):∀d∈[D.slice 6 nl (l.map Key.cs) none],bY S d:=by
 intro d hd
 rw[ad1.1 hd,oI]
 refine⟨fun e he d hd=>?_,nofun⟩
 obtain⟨k,hk,rfl⟩:=List.mem_map.1 he
 exact (MV _).2 trivial k hk d hd
set_option maxRecDepth 10000
set_option maxHeartbeats 4000000
def Wh:D:= .agg [.str [],.str [],.slice 0 true [] none,.int .i64 0,.int .i64 0]
def ajT (n:Nat)(p:jO)(l:List UInt8):D:=if stE n p l=0 then .aQ [.agg (stP n p l).cs,.int .i64 0] else .aQ [Wh,.int .i64 (stE n p l)]
@[simp] theorem amc {S:Nat→Prop}(n:Nat)(p:jO)(l:List UInt8):bY S (ajT n p l)↔True:=by
 unfold ajT Wh
 split <;> simp[jO.cs]
def aak (s:List UInt8):Int:=Lib.lastIndexByte ⟨s.toArray⟩ 58
def ah5 (s:List UInt8):List UInt8 × Bool:=if aak s<0 then ([],false) else if bg (s.take (aak s).toNat)=true then (s.take (aak s).toNat,(UN (s.drop ((aak s).toNat+1))).2 == 0) else ([],false)
abbrev TS:=List (List UInt8 × jO × Nat)
def sQ (ms:TS):List (List UInt8 × D × Nat):=ms.map fun e=>(e.1,.agg e.2.1.cs,e.2.2)
def gu:TS→List UInt8→Option jO
 | [],_=>none
 |(k,p,_)::ms,s=>if s=k then some p else gu ms s
def YB:TS→List UInt8→jO→TS
 | [],_,_=>[]
 |(k,p,n)::ms,s,x=>if s=k then (k,x,n)::ms else (k,p,n)::YB ms s x
def FY (ms:TS)(c:Nat)(s:List UInt8)(x:jO):TS:=match gu ms s with|some _=>YB ms s x|none=>ms++[(s,x,c)]
def Q7 (ms:TS)(c:Nat)(s:List UInt8):Nat:=match gu ms s with|some _=>c|none=>c+1
theorem wV:∀(ms:TS) (s:List UInt8),jL (sQ ms) s=(gu ms s).map fun p=> .agg p.cs
 | [],_=>rfl
 |(k,p,n)::ms,s=>by
  show (if s=k then some (D.agg p.cs) else jL (sQ ms) s)=_
  unfold gu
  rw[wV ms s]
  split <;> rfl
theorem aeQ:∀(ms:TS) (s:List UInt8) (x:jO),Sr (sQ ms) s (.agg x.cs)=sQ (YB ms s x)
 | [],_,_=>rfl
 |(k,p,n)::ms,s,x=>by
  show (if s=k then _ else _)=_
  unfold YB
  rw[← sQ,aeQ ms s x]
  split <;> rfl
theorem ali (ms:TS)(c:Nat)(s:List UInt8)(x:jO):Jy (sQ ms) c s (.agg x.cs)=sQ (FY ms c s x):=by
 unfold Jy FY
 rw[wV]
 cases gu ms s with
 |none=>simp[sQ]
 |some q=>exact aeQ ms s x
theorem ah6 (ms:TS)(c:Nat)(s:List UInt8):Kt (sQ ms) c s=Q7 ms c s:=by
 unfold Kt Q7
 rw[wV]
 cases gu ms s <;> rfl
theorem ah7 (ms:TS):(sQ ms).length=ms.length:=by simp[sQ]
theorem ah8 {S:Nat→Prop}(ms:TS):∀e∈sQ ms,bY S e.2.1:=by
 intro e he
 obtain⟨x,_,rfl⟩:=List.mem_map.1 he
 simp[jO.cs]
theorem alj (b:Nat):eG Tryz.prog .neq 136 true (.map b) .bI=some (aH (.bool true)):=by
 simp[eG,isEq,eqNil,FI]
@[simp] theorem anA {S:Nat→Prop}(ms:TS):(∀(a:List UInt8) (d:D) (n:Nat),(a,d,n)∈sQ ms→bY S d)↔True:=by
 simp only[iff_true]
 exact fun a d n h=>ah8 ms _ h
def ah9:bf:= .box 55 [.str [],.str [],.slice 0 true [] none,.int .i64 0,.int .i64 0]
theorem Ph (p:jO)(hnk:p.nk=false)(st:St)(h1:st.get 1= .ref 0 0)(h2:st.get 2= .ref 1 0)
  (hb0:lk st.σ 0=some (.box 55 [.str p.id,.str p.addr,.arr 2 6 p.keys.length,.int .i64 p.f,.int .i64 p.u])) (hb1:lk st.σ 1=some ah9) (hb2:lk st.σ 2=some (.arr 99 (flatK p.keys))) (hn:∀i,2<i→lk st.σ i=none):
  Weak [] st ⟨[(1,.ref 0 0),(2,.ref 1 0)],[(0,.box 55 [.str p.id,.str p.addr,.slice 6 false (p.keys.map Key.cs) none,.int .i64 p.f,.int .i64 p.u]),(1,ah9)]⟩:=by
 refine Weak.freeze 2 99 6 (p.keys.map Key.cs) hb2 ?_ (by decide) (by simp[lk]) ?_ ?_ ?_
 ·intro x hx
  obtain⟨k,_,rfl⟩:=List.mem_map.1 hx
  rfl
 ·intro x hx d hd
  obtain⟨k,hk,rfl⟩:=List.mem_map.1 hx
  exact (MV p.keys).2 trivial k hk d hd
 ·intro q hq
  simp at hq
  rcases hq with rfl|rfl
  ·exact .inl ⟨h1.symm,by rw[h1];simp⟩
  ·exact .inl ⟨h2.symm,by rw[h2];simp⟩
 ·intro i hi
  rcases (by omega:i=0∨i=1∨2<i) with rfl|rfl|h
  ·refine .inr ⟨_,_,hb0,rfl,rfl,?_⟩
   exact⟨.inl ⟨rfl,by simp⟩,.inl ⟨rfl,by simp⟩,.inr ⟨by rw[ac'],rfl⟩,.inl ⟨rfl,by simp⟩,.inl ⟨rfl,by simp⟩,trivial⟩
  ·refine .inr ⟨_,_,hb1,rfl,rfl,?_⟩
   exact⟨.inl ⟨rfl,by simp⟩,.inl ⟨rfl,by simp⟩,.inl ⟨rfl,by simp⟩,.inl ⟨rfl,by simp⟩,.inl ⟨rfl,by simp⟩,trivial⟩
  ·refine .inl ⟨hn i h,?_⟩
   have e0:i≠0:=by omega
   have e1:i≠1:=by omega
   simp[lk,Ne.symm e0,Ne.symm e1,e0,e1]
theorem F5 (b:Nat):cells? (.map b)=some [.map b]:=rfl
theorem alk {σ:List (Nat × bf)}{i:Nat}(h:2<i)(hσ:(σ.all fun q=>decide (q.1≤2))=true):lk σ i=none:=by
 induction σ with
 |nil=>rfl
 |cons q t ih=>
  obtain⟨j,x⟩:=q
  simp only[alf,ait,decide_eq_true_eq] at hσ
  rw[lk,if_neg (by omega)]
  exact ih hσ.2
theorem Wi (p:jO)(hp:p.ok)(hne:p.keys≠[]):ay Pr 91 [.agg [.str p.id,.str p.addr,.slice 6 p.nk (p.keys.map Key.cs) none,.int .i64 p.f,.int .i64 p.u]] (.agg p.cs):=by
 have hnk:p.nk=false:=by cases h:p.nk with|false=>rfl|true=>exact absurd (hp.2.2.2.1 h) hne
 refine ay.W Tryz.func91 Tryz.ntmps91 ?_
 simp only[aT]
 refine aJ 1 [1,2] hnk ?_
 refine WP.S [1,2] fun _ z=>?_
 simp +decide only[W,ak,m_,uV,uX,↓reduceIte]
 refine aj.imp (Yq 2 p.keys hne hp.2.2.1) rfl (by simp[fg]) (by simp) (by simp[lk]) (alh _ _) ?_
 simp +decide only[W,ak,m_,uV,↓reduceIte]
 apply z;clear z
 refine WP.weak (Ph p hnk _ (by simp[St.get,lk,W]) (by simp[St.get,W]) (by simp[lk]) (by simp[lk,ah9]) (by simp[lk]) (fun i hi=>alk hi rfl)) ?_
 refine aJ 1 [1,2] @ah9.eq_def ?_
 apply WP.ret
 exact Ends.pure (.inr rfl) rfl (Le.of_eq (by simp +decide only[W,ak,ah4,jO.cs,hnk])) (by simp[jO.cs])
theorem ajU:aF Pr 40 [] [] (.ref 1 0) [(0,.map (sQ []) (0)),(1,.box 138 [.map 0])]:=by
 refine qX Tryz.func40 Tryz.ntmps40 ?_
 refine aJ 2 [0] @F5 ?_
 apply WP.ret
 refine Ends.imp (.inr rfl) rfl (Le.of_eq (by first|(simp +decide only[St.get,W,↓reduceIte];done)|(simp[St.get,lk,W,bne];done)|(simp_all[St.get,lk,W,LN,bne];done)|(simp_all[St.get,lk,W,LN,bne];intros;first|omega|(rw[agZ];simp;try omega)))) ?_ ?_ ?_
 ·simp[lk]
 ·simp[lk,aB,sQ]
 simp[lk]
def TS.ok (ms:TS):Prop:=∀e∈ms,e.2.1.ok∧e.2.1.keys≠[]
theorem Q8:∀{ms:TS} {s:List UInt8} {a:jO},gu ms s=some a→∃n,(s,a,n)∈ms
 |(k,p,n)::ms,s,a,h=>by
  unfold gu at h
  split at h
  ·rename_i e;cases h;subst e;exact⟨n,by simp⟩
  ·obtain⟨m,hm⟩:=Q8 h;exact⟨m,by simp[hm]⟩
theorem yV {ms:TS}(h:TS.ok ms){s:List UInt8}{a:jO}(hf:gu ms s=some a):a.ok∧a.keys≠[]:=by
 obtain⟨n,hn⟩:=Q8 hf
 exact h _ hn
theorem ah_ (ms:TS)(c:Nat)(s:List UInt8)(x:jO):Jy (sQ ms) c s (.agg [.str x.id,.str x.addr,.slice 6 x.nk (x.keys.map Key.cs) none,.int .i64 x.f,.int .i64 x.u])=sQ (FY ms c s x):=ali ms c s x
def Ec (ms:TS)(p:jO)(t:Int):Int:=if (jr p != 0)=true then jr p else if decide (p.u≤aN t)=true then 13 else if (gu ms p.id).isSome=true then 7 else if decide ((ms.length:Int)≥256)=true then 3 else 0
def anch (ms:TS)(c:Nat)(p:jO)(t:Int):Int × TS × Nat:=if Ec ms p t=0 then (0,FY ms c p.id p,Q7 ms c p.id) else (Ec ms p t,ms,c)
theorem TN {ms:TS}{c:Nat}{p:jO}{t e:Int}(h:Ec ms p t=e)(he:e≠0):anch ms c p t=(e,ms,c):=by unfold anch;rw[if_neg (by rw[h];exact he),h]
theorem alm {ms:TS}{c:Nat}{p:jO}{t:Int}(h:Ec ms p t=0):anch ms c p t=(0,FY ms c p.id p,Q7 ms c p.id):=by unfold anch;rw[if_pos h]
theorem Nh {p:jO}(h:(jr p != 0)=false):p.keys≠[]:=by
 intro hk
 unfold jr at h
 rw[hk] at h
 repeat' split at h
 all_goals simp_all
def anB (ms:TS)(text sig:List UInt8)(t:Int):Int:=
 if ((pP text).2.2 != 0)=true then 4 else if (!(ah5 sig).2)=true then 4 else
 match gu ms (pP text).1.id with
 |none=>6
 |some a=>if ((jg a.keys (ah5 sig).1 t 0).2 != 0)=true then (jg a.keys (ah5 sig).1 t 0).2 else if (!(sig == wU (jg a.keys (ah5 sig).1 t 0).1 text))=true then 17 else if decide ((pP text).1.f≤a.f)=true then 12 else 0
def upd (ms:TS)(c:Nat)(text sig:List UInt8)(t:Int):Int × TS × Nat:=if anB ms text sig t=0 then (0,FY ms c (pP text).1.id (pP text).1,Q7 ms c (pP text).1.id) else (anB ms text sig t,ms,c)
def nX (ms:TS)(id:List UInt8)(t:Int):D:=match gu ms id with|none=> .aQ [Wh,.int .i64 6]|some a=>if (jA a.f a.u t 0 != 0)=true then .aQ [Wh,.int .i64 (jA a.f a.u t 0)] else .aQ [.agg a.cs,.int .i64 0]
theorem YC {ms:TS}{id:List UInt8}{t:Int}(h:gu ms id=none):nX ms id t= .aQ [Wh,.int .i64 6]:=by unfold nX;rw[h]
theorem YD {ms:TS}{id:List UInt8}{t:Int}{a:jO}(h:gu ms id=some a)(he:(jA a.f a.u t 0 != 0)=true):nX ms id t= .aQ [Wh,.int .i64 (jA a.f a.u t 0)]:=by unfold nX;rw[h];exact if_pos he
theorem Nj {ms:TS}{id:List UInt8}{t:Int}{a:jO}(h:gu ms id=some a)(he:(jA a.f a.u t 0 != 0)=false):nX ms id t= .aQ [.agg a.cs,.int .i64 0]:=by unfold nX;rw[h];exact if_neg (by rw[he];simp)
@[simp] theorem abU {S:Nat→Prop}(ms:TS)(id:List UInt8)(t:Int):bY S (nX ms id t)↔True:=by
 unfold nX Wh
 split
 ·simp
 ·split <;> simp[jO.cs]
theorem YE {ms:TS}{c:Nat}{p:jO}{t:Int}(h:(jr p != 0)=true):anch ms c p t=(jr p,ms,c):=TN (by unfold Ec;rw[if_pos h]) (by simpa using h)
theorem TP {ms:TS}{c:Nat}{p:jO}{t:Int}(h:(jr p != 0)=false)(h2:decide (p.u≤aN t)=true):anch ms c p t=(13,ms,c):=TN (by unfold Ec;rw[if_neg (by rw[h];simp),if_pos h2]) (by decide)
theorem aeR {ms:TS}{c:Nat}{p a:jO}{t:Int}(h:(jr p != 0)=false)(h2:decide (p.u≤aN t)=false)(h3:gu ms p.id=some a):anch ms c p t=(7,ms,c):=TN (by unfold Ec;rw[if_neg (by rw[h];simp),if_neg (by rw[h2];simp),if_pos (by rw[h3];rfl)]) (by decide)
theorem aeS {ms:TS}{c:Nat}{p:jO}{t:Int}(h:(jr p != 0)=false)(h2:decide (p.u≤aN t)=false)(h3:gu ms p.id=none)(h4:decide ((ms.length:Int)≥256)=true):anch ms c p t=(3,ms,c):=TN (by unfold Ec;rw[if_neg (by rw[h];simp),if_neg (by rw[h2];simp),if_neg (by rw[h3];simp),if_pos h4]) (by decide)
theorem TQ {ms:TS}{c:Nat}{p:jO}{t:Int}(h:(jr p != 0)=false)(h2:decide (p.u≤aN t)=false)(h3:gu ms p.id=none)(h4:decide ((ms.length:Int)≥256)=false):anch ms c p t=(0,FY ms c p.id p,Q7 ms c p.id):=alm (by unfold Ec;rw[if_neg (by rw[h];simp),if_neg (by rw[h2];simp),if_neg (by rw[h3];simp),if_neg (by rw[h4];simp)])
theorem Ed:∀{l:List Key} {id:List UInt8} {now skew:Int},(∀k∈l,k.ok)→(jg l id now skew).1.ok
 | [],_,_,_,_=>MZ
 |k::t,id,now,skew,h=>by
  rw[zY]
  split
  ·split
   ·exact MZ
   ·exact h k (by simp)
  ·exact Ed fun k hk=>h k (by simp[hk])
theorem aal (ms:TS)(c:Nat):aF Pr 88 [.ref 1 0] [(0,.map (sQ ms) (c)),(1,.box 138 [.map 0])] (.bool true) [(0,.map (sQ ms) (c)),(1,.box 138 [.map 0])]:=by
 refine qX Tryz.func88 Tryz.ntmps88 ?_
 refine aJ 2 [0,2] @alj ?_
 apply WP.ret
 refine Ends.imp (.inr rfl) rfl (Le.of_eq (by first|(simp +decide only[St.get,W,↓reduceIte];done)|(simp[St.get,lk,W,bne];done)|(simp_all[St.get,lk,W,LN,bne];done)|(simp_all[St.get,lk,W,LN,bne];intros;first|omega|(rw[agZ];simp;try omega)))) ?_ ?_ ?_
 ·simp
 ·simp[lk,aB]
 simp[lk]
abbrev fC:List Nat:=[0,2,4,6,7,9,12,25,29,36,38]
theorem Nk (ms:TS)(c:Nat)(hms:TS.ok ms)(p:jO)(hp:p.ok)(t:Int):aF Pr 41 [.ref 1 0,.agg [.str p.id,.str p.addr,.slice 6 p.nk (p.keys.map Key.cs) none,.int .i64 p.f,.int .i64 p.u],.int .i64 t] [(0,.map (sQ ms) (c)),(1,.box 138 [.map 0])] (.int .i64 (anch ms c p t).1) [(0,.map (sQ (anch ms c p t).2.1) ((anch ms c p t).2.2)),(1,.box 138 [.map 0])]:=by
 refine qX Tryz.func41 Tryz.ntmps41 ?_
 refine aG 2 fC ?_
 refine WP.S fC fun _ z=>?_
 simp +decide only[W,ak,↓reduceIte]
 refine aj.I (aal ms c) rfl rfl ?_
 simp +decide only[W,ak,↓reduceIte]
 apply z;clear z
 refine WP.cond (b:=false) (by first|rfl|simp[W]) nofun (fun _=>?_)
 refine aG 1 [] ?_
 refine WP.S fC fun _ z=>?_
 simp +decide only[W,ak,uT,uU,↓reduceIte]
 refine aj.P (abL p hp) rfl rfl ?_
 simp +decide only[W,ak,↓reduceIte]
 apply z;clear z
 rcases hF:gu ms p.id with _|a
 ·skip
  iterate 4 first|(refine WP.D fC fun _ z=>?_;simp +decide only[TF,hF,jO.cs,wV,↓reduceIte];refine z _ _ (by kernel_rfl) ?_;clear z)|(refine WP.S fC fun _ z=>?_;simp +decide only[TF,↓reduceIte];apply z;clear z)|apply WP.block|apply WP.seq
  refine WP.cond rfl (fun q1=>?_) (fun q1=>?_)
  ·skip
   have hR:=YE (ms:=ms) (c:=c) (t:=t) (by assumption)
   refine aJ 1 fC q1 ?_
   apply WP.ret
   refine Ends.imp (.inr rfl) rfl (Le.of_eq (by first|(simp +decide only[St.get,W,hR,↓reduceIte];done)|(simp[St.get,lk,W,bne,hF,q1,hR];done)|(simp_all[St.get,lk,W,LN,bne];done)|(simp_all[St.get,lk,W,LN,bne];intros;first|omega|(rw[agZ];simp;try omega)))) ?_ ?_ ?_
   ·simp
   ·simp[lk,aB,hR]
   simp[lk]
  skip
  refine WP.D fC fun _ z=>?_
  simp +decide only[W,ak,lq,jX,o8,lW,q1,↓reduceIte]
  refine aj.P (Jk t) rfl rfl ?_
  simp +decide only[W,ak,↓reduceIte]
  refine z _ _ (by kernel_rfl) ?_;clear z
  refine WP.cond rfl (fun q2=>?_) (fun q2=>?_)
  ·skip
   have hR:=TP (ms:=ms) (c:=c) (t:=t) (by assumption) (by assumption)
   refine aJ 1 fC q2 ?_
   apply WP.ret
   refine Ends.imp (.inr rfl) rfl (Le.of_eq (by first|(simp +decide only[St.get,W,hR,↓reduceIte];done)|(simp[St.get,lk,W,bne,hF,q1,q2,hR];done)|(simp_all[St.get,lk,W,LN,bne];done)|(simp_all[St.get,lk,W,LN,bne];intros;first|omega|(rw[agZ];simp;try omega)))) ?_ ?_ ?_
   ·simp
   ·simp[lk,aB,hR]
   simp[lk]
  skip
  refine aJ 1 fC q2 ?_
  refine WP.cond (b:=false) (by first|rfl|simp[W,hF,q1,q2]) nofun (fun _=>?_)
  refine aJ 1 fC @ah7 ?_
  refine WP.cond rfl (fun q3=>?_) (fun q3=>?_)
  ·skip
   have hR:=aeS (ms:=ms) (c:=c) (t:=t) (by assumption) (by assumption) hF (by assumption)
   refine aJ 1 fC q3 ?_
   apply WP.ret
   refine Ends.imp (.inr rfl) rfl (Le.of_eq (by first|(simp +decide only[St.get,W,hR,↓reduceIte];done)|(simp[St.get,lk,W,bne,hF,q1,q2,q3,hR];done)|(simp_all[St.get,lk,W,LN,bne];done)|(simp_all[St.get,lk,W,LN,bne];intros;first|omega|(rw[agZ];simp;try omega)))) ?_ ?_ ?_
   ·simp
   ·simp[lk,aB,hR]
   simp[lk]
  skip
  have hR:=TQ (ms:=ms) (c:=c) (t:=t) (by assumption) (by assumption) hF (by assumption)
  refine aG 1 [] ?_
  refine WP.D fC fun _ z=>?_
  simp +decide only[W,ak,wP,FD,BN,pV,qK,nT,uT,uU,q3,↓reduceIte]
  refine aj.P (Wi p hp (Nh (by assumption))) rfl rfl ?_
  simp +decide only[W,ak,BM,jO.cs,ah_,ah6,↓reduceIte]
  refine z _ _ (by kernel_rfl) ?_;clear z
  refine aG 1 fC ?_
  apply WP.ret
  refine Ends.imp (.inr rfl) rfl (Le.of_eq (by first|(simp +decide only[St.get,W,hR,↓reduceIte];done)|(simp[St.get,lk,W,bne,hF,q1,q2,q3,hR];done)|(simp_all[St.get,lk,W,LN,bne];done)|(simp_all[St.get,lk,W,LN,bne];intros;first|omega|(rw[agZ];simp;try omega)))) ?_ ?_ ?_
  ·simp
  ·simp[lk,aB,hR]
  simp[lk]
 skip
 iterate 4 first|(refine WP.D fC fun _ z=>?_;simp +decide only[TF,hF,jO.cs,wV,↓reduceIte];refine z _ _ (by kernel_rfl) ?_;clear z)|(refine WP.S fC fun _ z=>?_;simp +decide only[TF,↓reduceIte];apply z;clear z)|apply WP.block|apply WP.seq
 refine WP.cond rfl (fun q4=>?_) (fun q4=>?_)
 ·skip
  have hR:=YE (ms:=ms) (c:=c) (t:=t) (by assumption)
  refine aJ 1 fC q4 ?_
  apply WP.ret
  refine Ends.imp (.inr rfl) rfl (Le.of_eq (by first|(simp +decide only[St.get,W,hR,↓reduceIte];done)|(simp[St.get,lk,W,bne,hF,q4,hR];done)|(simp_all[St.get,lk,W,LN,bne];done)|(simp_all[St.get,lk,W,LN,bne];intros;first|omega|(rw[agZ];simp;try omega)))) ?_ ?_ ?_
  ·simp
  ·simp[lk,aB,hR]
  simp[lk]
 skip
 refine WP.D fC fun _ z=>?_
 simp +decide only[W,ak,lq,jX,o8,lW,q4,↓reduceIte]
 refine aj.P (Jk t) rfl rfl ?_
 simp +decide only[W,ak,↓reduceIte]
 refine z _ _ (by kernel_rfl) ?_;clear z
 refine WP.cond rfl (fun q5=>?_) (fun q5=>?_)
 ·skip
  have hR:=TP (ms:=ms) (c:=c) (t:=t) (by assumption) (by assumption)
  refine aJ 1 fC q5 ?_
  apply WP.ret
  refine Ends.imp (.inr rfl) rfl (Le.of_eq (by first|(simp +decide only[St.get,W,hR,↓reduceIte];done)|(simp[St.get,lk,W,bne,hF,q4,q5,hR];done)|(simp_all[St.get,lk,W,LN,bne];done)|(simp_all[St.get,lk,W,LN,bne];intros;first|omega|(rw[agZ];simp;try omega)))) ?_ ?_ ?_
  ·simp
  ·simp[lk,aB,hR]
  simp[lk]
 skip
 have hR:=aeR (ms:=ms) (c:=c) (t:=t) (by assumption) (by assumption) hF
 refine aJ 1 fC q5 ?_
 refine WP.cond (b:=true) (by first|rfl|simp[W,hF,q4,q5,hR]) (fun _=>?_) nofun
 refine aG 1 fC ?_
 apply WP.ret
 refine Ends.imp (.inr rfl) rfl (Le.of_eq (by first|(simp +decide only[St.get,W,hR,↓reduceIte];done)|(simp[St.get,lk,W,bne,hF,q4,q5,hR];done)|(simp_all[St.get,lk,W,LN,bne];done)|(simp_all[St.get,lk,W,LN,bne];intros;first|omega|(rw[agZ];simp;try omega)))) ?_ ?_ ?_
 ·simp
 ·simp[lk,aB,hR]
 simp[lk]
abbrev kF:List Nat:=[0,1,2,6,7,8,9,10,13,25,32]
theorem BR (ms:TS)(c:Nat)(hms:TS.ok ms)(s:List UInt8)(t:Int):aF Pr 84 [.ref 1 0,.str s,.int .i64 t] [(0,.map (sQ ms) (c)),(1,.box 138 [.map 0])] (nX ms s t) [(0,.map (sQ ms) (c)),(1,.box 138 [.map 0])]:=by
 refine qX Tryz.func84 Tryz.ntmps84 ?_
 refine aG 2 kF ?_
 refine WP.S kF fun _ z=>?_
 simp +decide only[W,ak,↓reduceIte]
 refine aj.I (aal ms c) rfl rfl ?_
 simp +decide only[W,ak,↓reduceIte]
 apply z;clear z
 refine WP.cond (b:=false) (by first|rfl|simp[W]) nofun (fun _=>?_)
 refine aG 1 [] ?_
 rcases hF:gu ms s with _|a
 ·skip
  have hR:=YC (t:=t) hF
  iterate 3 first|(refine WP.S kF fun _ z=>?_;simp +decide only[TF,hF,jO.cs,wV,↓reduceIte];apply z;clear z)|apply WP.seq
  refine WP.cond (b:=true) (by first|rfl|simp[W,hF,hR]) (fun _=>?_) nofun
  refine aG 1 kF ?_
  apply WP.ret
  refine Ends.imp (d:= .aQ [_,_]) (.inr rfl) rfl (Le.of_eq (by rw[hR];simp +decide only[St.get,W,ak,ah4,Wh,↓reduceIte])) ?_ ?_ ?_
  ·simp
  ·simp[lk,aB]
  simp[lk]
 skip
 have ha:=yV hms hF
 iterate 3 first|(refine WP.S kF fun _ z=>?_;simp +decide only[TF,hF,jO.cs,wV,↓reduceIte];apply z;clear z)|apply WP.seq
 refine WP.cond (b:=false) (by first|rfl|simp[W,hF]) nofun (fun _=>?_)
 refine aG 2 [] ?_
 refine WP.S kF fun _ z=>?_
 simp +decide only[W,ak,lq,yC,u_,↓reduceIte]
 refine aj.P (BP a.f a.u t 0) rfl rfl ?_
 simp +decide only[W,ak,↓reduceIte]
 apply z;clear z
 refine aG 1 kF ?_
 refine WP.cond rfl (fun q1=>?_) (fun q1=>?_)
 ·skip
  have hR:=YD hF q1
  refine aJ 1 kF q1 ?_
  apply WP.ret
  refine Ends.imp (d:= .aQ [_,_]) (.inr rfl) rfl (Le.of_eq (by rw[hR];simp +decide only[St.get,W,ak,ah4,Wh,↓reduceIte])) ?_ ?_ ?_
  ·simp
  ·simp[lk,aB]
  simp[lk]
 skip
 have hR:=Nj hF q1
 refine aG 1 [] ?_
 refine WP.S kF fun _ z=>?_
 simp +decide only[W,ak,uT,uU,q1,↓reduceIte]
 refine aj.P (Wi a ha.1 ha.2) rfl rfl ?_
 simp +decide only[W,ak,uT,jO.cs,↓reduceIte]
 apply z;clear z
 apply WP.ret
 refine Ends.imp (d:= .aQ [_,_]) (.inr rfl) rfl (Le.of_eq (by rw[hR];simp +decide only[St.get,W,ak,ah4,jO.cs,↓reduceIte])) ?_ ?_ ?_
 ·simp
 ·simp[lk,aB]
 simp[lk]
theorem oP:∀a:List UInt8,Op.bytesLess a a=false
 | []=>rfl
 |c::a=>by simp[Op.bytesLess,oP a]
theorem nY:∀a b c:List UInt8,Op.bytesLess a b=true→Op.bytesLess b c=true→Op.bytesLess a c=true
 | _,[],_,h,_=>by simp[Op.bytesLess] at h
 | _,_::_,[],_,h=>by simp[Op.bytesLess] at h
 | [],_::_,_::_,_,_=>rfl
 |x::a,y::b,z::c,h,k=>by
  simp only[Op.bytesLess,Bool.or_eq_true,decide_eq_true_eq,ait,beq_iff_eq] at h k ⊢
  rcases h with h | ⟨rfl,h⟩
  ·rcases k with k | ⟨rfl,k⟩
   ·exact .inl (UInt8.lt_trans h k)
   ·exact .inl h
  ·rcases k with k | ⟨rfl,k⟩
   ·exact .inl k
   ·exact .inr ⟨rfl,nY a b c h k⟩
theorem rY:∀a b:List UInt8,Op.bytesLess a b=true∨a=b∨Op.bytesLess b a=true
 | [],[]=> .inr (.inl rfl)
 | [],_::_=> .inl rfl
 | _::_,[]=> .inr (.inr rfl)
 |x::a,y::b=>by
  simp only[Op.bytesLess,Bool.or_eq_true,decide_eq_true_eq,ait,beq_iff_eq,apm]
  rcases aps x.toNat y.toNat with h|h|h
  ·exact .inl (.inl (UInt8.lt_iff_toNat_lt.2 h))
  ·obtain rfl:x=y:=aoA.1 h
   rcases rY a b with h|rfl|h
   ·exact .inl (.inr ⟨rfl,h⟩)
   ·exact .inr (.inl ⟨rfl,rfl⟩)
   ·exact .inr (.inr (.inr ⟨rfl,h⟩))
  ·exact .inr (.inr (.inl (UInt8.lt_iff_toNat_lt.2 h)))
theorem rZ (a b:List UInt8)(h:Op.bytesLess a b=true):Op.bytesLess b a=false:=by
 cases hb:Op.bytesLess b a
 ·rfl
 ·have:=nY a b a h hb
  rw[oP] at this;cases this
theorem aeT {a b:List UInt8}(h:Op.bytesLess a b=true):a≠b:=by
 rintro rfl;rw[oP] at h;cases h
theorem aam (a b:List UInt8):decide (a≤b)=!(Op.bytesLess b a):=by
 rw[bytesLess_eq,agZ]
 simp[List.le]
def Asc (l:List (List UInt8)):Prop:=l.Pairwise fun a b=>Op.bytesLess a b=true
theorem Asc.nodup {l:List (List UInt8)}(h:Asc l):l.Nodup:=List.Pairwise.imp (fun h=>aeT h) h
theorem Asc.head {a:List UInt8}{l:List (List UInt8)}(h:Asc (a::l)):∀x∈l,Op.bytesLess a x=true:=(List.pairwise_cons.1 h).1
theorem Asc.tail {a:List UInt8}{l:List (List UInt8)}(h:Asc (a::l)):Asc l:=(List.pairwise_cons.1 h).2
theorem TR:∀{l k:List (List UInt8)},Asc l→Asc k→(∀x,x∈l↔x∈k)→l=k
 | [],[],_,_,_=>rfl
 | [],b::k,_,_,h=>by have:=(h b).2 (by simp);simp at this
 |a::l,[],_,_,h=>by have:=(h a).1 (by simp);simp at this
 |a::l,b::k,h1,h2,h=>by
  have hab:a=b:=by
   rcases ael.1 ((h a).1 (by simp)) with e|e
   ·exact e
   ·rcases ael.1 ((h b).2 (by simp)) with e'|e'
    ·exact e'.symm
    ·have q1:=h2.head a e
     have q2:=h1.head b e'
     rw[rZ _ _ q1] at q2;cases q2
  subst hab
  rw[TR h1.tail h2.tail fun x=>?_]
  constructor
  ·intro hx
   rcases ael.1 ((h x).1 (by simp[hx])) with e|e
   ·subst e;have:=h1.head x hx;rw[oP] at this;cases this
   ·exact e
  ·intro hx
   rcases ael.1 ((h x).2 (by simp[hx])) with e|e
   ·subst e;have:=h2.head x hx;rw[oP] at this;cases this
   ·exact e
def bU (l:List (List UInt8)):List (List UInt8):=l.mergeSort fun x y=>decide (x≤y)
theorem dL (l:List (List UInt8)):(bU l).length=l.length:=List.length_mergeSort l
theorem oQ (l:List (List UInt8))(x:List UInt8):x∈bU l↔x∈l:=List.mem_mergeSort
theorem BU (l:List (List UInt8)):(bU l).Perm l:=List.mergeSort_perm l _
theorem zZ {l:List (List UInt8)}(h:l.Nodup):Asc (bU l):=by
 have hs:(bU l).Pairwise fun x y=>decide (x≤y)=true:=by
  refine List.pairwise_mergeSort (fun a b c h k=>?_) (fun a b=>?_) l
  ·rw[aam,adh] at h k ⊢
   cases hca:Op.bytesLess c a
   ·rfl
   ·rcases rY b c with q|rfl|q
    ·have:=nY b c a q hca;rw[h] at this;cases this
    ·rw[h] at hca;cases hca
    ·rw[k] at q;cases q
  ·rw[aam,aam]
   cases hba:Op.bytesLess b a
   ·rfl
   ·rw[rZ _ _ hba];rfl
 have hn:(bU l).Nodup:=(BU l).nodup_iff.2 h
 refine List.Pairwise.imp₂ (fun a b h1 h2=>?_) hs hn
 rw[aam,adh] at h1
 rcases rY a b with q|q|q
 ·exact q
 ·exact absurd q h2
 ·rw[h1] at q;cases q
theorem vK {l k:List (List UInt8)}(hl:l.Nodup)(hk:Asc k)(h:∀x,x∈l↔x∈k):bU l=k:=TR (zZ hl) hk fun x=>by rw[oQ,h]
abbrev AO:=List (List UInt8 × D × Nat)
structure ah' (q:AO × Nat):Prop where
 keys:(q.1.map (·.1)).Nodup
 born:(q.1.map (·.2.2)).Nodup
 lt:∀e∈q.1,e.2.2<q.2
theorem ajV (l:List (List UInt8)):(l.map fun x=>[D.str x]).flatten=l.map .str:=by
 induction l with
 |nil=>rfl
 |cons a l ih=>simp[ih]
theorem anC (t:Nat)(l:List (List UInt8)):∀e∈(l.map fun x=>[D.str x]),∀d∈e,Fr t d:=by
 simp only[List.mem_map]
 rintro e ⟨x,_,rfl⟩ d hd
 simp only[ad1] at hd;subst hd;exact .str _
theorem aln (l:List (List UInt8)):∀e∈(l.map fun x=>[D.str x]),e.length=1:=by
 simp only[List.mem_map]
 rintro e ⟨x,_,rfl⟩;rfl
theorem Q9:bU []=[]:=by simp[bU]
theorem aeU {a:List UInt8}{l:List (List UInt8)}:(bU (a::l)).isEmpty=false:=by
 have:=dL (a::l)
 cases h:bU (a::l) with
 |nil=>rw[h] at this;simp at this
 |cons=>rfl
structure MI (es:AO) (seen:List Nat) (ks:List (List UInt8)):Prop where
 nodup:ks.Nodup
 old:∀k∈ks,∃d n,(k,d,n)∈es∧n∈seen
 all:∀e∈es,e.2.2∈seen→e.1∈ks
theorem MI.nil (es:AO):MI es [] []:=⟨by simp,by simp,by simp⟩
theorem abV {es:AO}(h:(es.map (·.1)).Nodup){e f:List UInt8 × D × Nat}(he:e∈es)(hf:f∈es)(hk:e.1=f.1):e=f:=by
 obtain⟨i,hi,rfl⟩:=aja.1 he
 obtain⟨j,hj,rfl⟩:=aja.1 hf
 have:=(apb (i:=i) (j:=j) (h₀:=by simpa using hi) (h₁:=by simpa using hj) h).1 (by simpa using hk)
 subst this;rfl
theorem YF {es:AO}(h:(es.map (·.2.2)).Nodup){e f:List UInt8 × D × Nat}(he:e∈es)(hf:f∈es)(hk:e.2.2=f.2.2):e=f:=by
 obtain⟨i,hi,rfl⟩:=aja.1 he
 obtain⟨j,hj,rfl⟩:=aja.1 hf
 have:=(apb (i:=i) (j:=j) (h₀:=by simpa using hi) (h₁:=by simpa using hj) h).1 (by simpa using hk)
 subst this;rfl
theorem vM {es:AO}{seen:List Nat}{e:List UInt8 × D × Nat}(h:e∈jc es seen):e∈es∧e.2.2 ∉ seen:=by
 unfold jc at h
 rw[ak1] at h
 exact⟨h.1,by simpa using h.2⟩
theorem MI.next {q:AO × Nat}(hq:ah' q){seen:List Nat}{ks:List (List UInt8)}(h:MI q.1 seen ks){e:List UInt8 × D × Nat}(he:e∈jc q.1 seen):MI q.1 (seen++[e.2.2]) (ks++[e.1]):=by
 obtain⟨h1,h2⟩:=vM he
 refine⟨?_,fun k hk=>?_,fun f hf hfs=>?_⟩
 ·rw[List.nodup_append]
  refine⟨h.nodup,by simp,fun a ha b hb=>?_⟩
  simp at hb;subst hb
  rintro rfl
  obtain⟨d,n,h3,h4⟩:=h.old _ ha
  have:=abV hq.keys h1 h3 rfl
  exact h2 (by rw[this];exact h4)
 ·rcases List.mem_append.1 hk with hk|hk
  ·obtain⟨d,n,h3,h4⟩:=h.old k hk;exact⟨d,n,h3,by simp[h4]⟩
  ·simp at hk;subst hk;exact⟨e.2.1,e.2.2,h1,by simp⟩
 ·rcases List.mem_append.1 hfs with hfs|hfs
  ·exact List.mem_append_left _ (h.all f hf hfs)
  ·simp at hfs
   have:=YF hq.born hf h1 hfs
   subst this;simp
theorem TT {es:AO}{seen:List Nat}{e:List UInt8 × D × Nat}(h:e∈jc es seen):(jc es (seen++[e.2.2])).length<(jc es seen).length:=by
 have e1:jc es (seen++[e.2.2])=(jc es seen).filter fun x=>!(x.2.2 == e.2.2):=by
  unfold jc
  rw[List.filter_filter]
  congr 1;funext x
  simp only[List.contains_eq_mem,List.mem_append,ad1]
  by_cases a:x.2.2∈seen <;> by_cases b:x.2.2=e.2.2 <;> simp[a,b]
 rw[e1,List.length_filter_lt_length_iff_exists]
 exact⟨e,h,by simp⟩
theorem F6 {α:Type}[BEq α][LawfulBEq α]:∀{a b:List α},a.Nodup→(∀x∈a,x∈b)→a.length≤b.length
 | [],b,_,_=>by simp
 |x::a,b,hn,h=>by
  rw[anE] at hn
  have h1:=F6 (a:=a) (b:=b.erase x) hn.2 fun y hy=>by
   have hxy:y≠x:=fun e=>hn.1 (e ▸ hy)
   exact (List.mem_erase_of_ne hxy).2 (h y (by simp[hy]))
  have h2:=List.length_erase_of_mem (h x (by simp))
  have h3:0<b.length:=List.length_pos_of_mem (h x (by simp))
  simp;omega
theorem MI.len {q:AO × Nat}(hq:ah' q){seen:List Nat}{ks:List (List UInt8)}(h:MI q.1 seen ks):ks.length≤q.1.length:=
 by
 rw[← ac' (f:=fun e:List UInt8 × D × Nat=>e.1)]
 exact F6 h.nodup fun x hx=>by
  obtain⟨d,n,h1,_⟩:=h.old x hx
  exact List.mem_map.2 ⟨_,h1,rfl⟩
theorem MI.done {q:AO × Nat}(hq:ah' q){seen:List Nat}{ks:List (List UInt8)}(h:MI q.1 seen ks)(hl:jc q.1 seen=[]):bU ks=bU (q.1.map (·.1)):=by
 refine vK h.nodup (zZ hq.keys) fun x=>?_
 rw[oQ]
 constructor
 ·intro hx
  obtain⟨d,n,h1,_⟩:=h.old x hx
  exact List.mem_map.2 ⟨_,h1,rfl⟩
 ·intro hx
  obtain⟨e,he,rfl⟩:=List.mem_map.1 hx
  refine h.all e he ?_
  by_cases hs:e.2.2∈seen
  ·exact hs
  ·exfalso
   have:e∈jc q.1 seen:=by unfold jc;rw[ak1];exact⟨he,by simpa using hs⟩
   rw[hl] at this;simp at this
end Go.Proofs
namespace Go.Proofs
open Go Go.Id Go.Shelf Go.Sort
theorem aia (l:List (List UInt8))(hn:l.length≤1099511627776):aF Pr 75 [.arr 0 1 l.length] [(0,.arr 9 (l.map .str))] (.aQ []) [(0,.arr 9 ((bU l).map .str))]:=by
 refine aF.rows (by simp[dL]) (dH Tryz.func75 (by kernel_rfl) (by kernel_rfl)) fun M γ w vs B cap z us hst hl hr hγ hB hsz hle h1 hrr=>?_
 match vs,hl with
 | [v0],_=>
  have q0:=hr 0 _ _ rfl rfl
  generalize hv0:v0=v0' at q0
  cases q0 with
  | @arr _ B' _ n cap' hγ' hn'=>
   rw[hγ] at hγ'
   cases hγ'
   subst hv0
   rw[ac'] at hle h1
   have hget:∀(L:List (List UInt8)) (t:Nat) (ht:t<L.length),L.toArray[t]! = L[t]:=fun L t ht=>by
    rw[getElem!_pos L.toArray t (by simpa using ht)];simp
   have hH:Holds encStr w B 0 l.toArray:=by
    intro t ht
    have ht':t<l.length:=by simpa using ht
    have hlt:t<us.size:=by omega
    have hu:=adr hlt
    have h3:=hrr t (.str l[t]) _ (by simp[ht']) hu
    have h4:us[t]=encStr l[t]:=by
     generalize us[t]=u at h3
     obtain⟨s,hs,e⟩:=str_inj h3
     rw[hs,encStr,← e]
    refine⟨?_,?_⟩
    ·rw[cell_of_row w B (0+t) us 9 _ hB,ade,hu,h4,hget l t ht']
    ·rw[ade];exact (h1 t _ ht' hu).2
   have hblk:B<w.heap.size:=(ag6.1 hB).1
   have hcon:=Tryz.slices_Sort_string B 0 cap l w hH hblk (by omega)
   refine hcon.mono ?_
   rintro e w' ⟨rfl,m,os,rfl⟩
   show ∃v us',_
   have hsA:(bU l).toArray.size=l.length:=by simp[dL]
   change ∃v us',_=_∧_∧(grow (putRow encStr (Sort.ahead w m) B 0 (bU l).toArray) os).heap[B]?=_∧(∀k,_→_→(grow (putRow encStr (Sort.ahead w m) B 0 (bU l).toArray) os).heap[k]?=_)∧_
   have hwB:(grow (putRow encStr (Sort.ahead w m) B 0 (bU l).toArray) os).heap[B]?=some (.cells (putCells encStr 0 (bU l).toArray us) 9 (0,0)):=by
    rw[heap_grow_old _ _ (by rw[size_putRow];exact hblk)]
    simp only[putRow,mapBlock,Sort.ahead,amk,if_true,hB,aiD,onCells]
   have hat:∀t (ht:t<l.length),(putCells encStr 0 (bU l).toArray us)[t]?=some (encStr ((bU l)[t]'(by rw[dL];exact ht))):=by
    intro t ht
    have hlt:t<us.size:=by omega
    simp only[putCells,Array.getElem?_mapIdx,adr hlt,aiD,ade,ada,true_and,Nat.sub_zero]
    rw[if_pos (by rw[hsA];exact ht),hget (bU l) t (by rw[dL];exact ht)]
   refine⟨_,putCells encStr 0 (bU l).toArray us,rfl,by simp[putCells],hwB,fun k hk hkB=>?_,?_,⟨rfl,rfl,rfl⟩,fun i v hi hv=>?_,fun i d v hd hv=>?_,.aQ rfl (by simp)⟩
   ·rw[heap_grow_old _ _ (by rw[size_putRow];exact hk)]
    simp only[putRow,mapBlock,Sort.ahead,amk,if_neg (Ne.symm hkB)]
   ·have:(putRow encStr (Sort.ahead w m) B 0 (bU l).toArray).heap.size=w.heap.size:=by rw[size_putRow];rfl
    rw[← this];simp[grow]
   ·rw[ac'] at hi
    rw[hat i hi] at hv
    cases hv
    rfl
   ·have hi:i<l.length:=by
     have:=(acR.1 hd).1
     rw[ac',dL] at this;exact this
    rw[hat i hi] at hv
    cases hv
    have hi2:i<(bU l).length:=by rw[dL];exact hi
    rw[adw,abt hi2] at hd
    simp only[aiD,abr] at hd
    subst hd
    have:=Rep.str (M:=aA (Pr.base M) γ) (γ:=γ) (w:=w) ⟨((bU l)[i]).toArray⟩
    simpa [encStr] using this
theorem aeV:ay Pr 75 [.slice 1 true [] none] (.aQ []):=aF.same (dH Tryz.func75 (by kernel_rfl) (by kernel_rfl)) fun M γ w vs hst hl hr=>by
 match vs,hl with
 | [v0],_=>
  have q0:=hr 0 _ _ rfl rfl
  cases q0
  refine (Tryz.slices_Sort_string_none none 0 w).mono ?_
  rintro e w' ⟨rfl,rfl⟩
  exact⟨_,rfl,rfl,.aQ rfl (by simp)⟩
end Go.Proofs
namespace Go.Proofs
open Go Go.Id
theorem aan (f:Nat→Nat)(l:List (List UInt8)):iG f (l.map D.str)=l.map D.str:=by
 rw[iH];simp[bK]
theorem Nl (a:Nat)(l:List (List UInt8))(hn:l.length≤1099511627776):aF Pr 75 [.arr a 1 l.length] [(a,.arr 9 (l.map .str))] (.aQ []) [(a,.arr 9 ((bU l).map .str))]:=by
 obtain⟨f,g,h1,h2⟩:=lg [a] (by simp)
 have:=aF.rename h1 (aia l hn)
 have f0:f 0=a:=h2 0 a rfl
 simpa [kC,lU,bK,iG,aan,f0] using this
def anD (ms:TS):List (List UInt8):=bU (ms.map (·.1))
def ajW (ms:TS):D:= .slice 1 ms.isEmpty ((anD ms).map fun x=>[D.str x]) none
def ajX (es:AO):D:= .slice 1 es.isEmpty ((bU (es.map (·.1))).map fun x=>[D.str x]) none
@[simp] theorem amd {S:Nat→Prop}(es:AO):bY S (ajX es)↔True:=by simp[ajX]
@[simp] theorem ame {S:Nat→Prop}(ms:TS):bY S (ajW ms)↔True:=by simp[ajW]
theorem Q_ {es:AO}{vs:List Value}{a:List UInt8}{d:D}{n:Nat}(h:(a,d,n)∈adN es vs):∃v,d= .val v:=by
 obtain⟨p,_,e⟩:=List.mem_map.1 h
 exact⟨p.2,by cases e;rfl⟩
@[simp] theorem alo {S:Nat→Prop}(es:AO)(vs:List Value):(∀(a:List UInt8) (d:D) (n:Nat),(a,d,n)∈adN es vs→bY S d)↔True:=by
 simp only[iff_true]
 intro a d n h
 obtain⟨v,rfl⟩:=Q_ h
 simp
@[simp] theorem amf (t:Nat)(es:AO)(vs:List Value):(∀(a:List UInt8) (d:D) (n:Nat),(a,d,n)∈adN es vs→Fr t d)↔True:=by
 simp only[iff_true]
 intro a d n h
 obtain⟨v,rfl⟩:=Q_ h
 exact .val v
theorem alp {t b:Nat}(h:b≠t):Fr t (.map b):= .map h
end Go.Proofs
