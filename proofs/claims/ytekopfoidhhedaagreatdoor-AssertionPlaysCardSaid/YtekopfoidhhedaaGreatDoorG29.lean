import Derived.Test.YtekopfoidhhedaaGreatDoorG13
import Derived.Test.YtekopfoidhhedaaGreatDoorG28
import Derived.Test.YtekopfoidhhedaaGreatDoorG21
import Derived.Test.YtekopfoidhhedaaGreatDoorG10
import Derived.Test.YtekopfoidhhedaaGreatDoorG23
set_option linter.unusedVariables false
set_option linter.unusedSimpArgs false
set_option linter.unnecessarySimpa false
set_option maxRecDepth 10000
namespace Go.Proofs
open Go Go.Id
set_option maxHeartbeats 4000000
theorem aax (k y:List UInt8)(ls:List (List UInt8))(hk:k.length≤100):gU Pr (xL (uK k (y::ls))) 53 [.ref 0 0,.str k] [(0,.box 88 [.slice 1 false ((y::ls).map fun x=>[D.str x]) none])] (vL (uK k (y::ls))) [(0,.box 88 [.slice 1 false ((rL (y::ls) (uK k (y::ls))).map fun x=>[D.str x]) none])]:=by
 have h1l:(1≤ls.length+1)=True:=eq_true (by omega)
 have htk:List.take ls.length (ls.map fun x=>[D.str x])=ls.map fun x=>[D.str x]:=ajr (by simp)
 refine gU.of_wp Tryz.func53 rfl (by kernel_rfl) Tryz.ntmps53 (by simp) ?_
 simp only[aT,ade,ag1,aj9]
 refine aG 1 [0,1] ?_
 rcases hq:decide (((y::ls).length:Int)>1) with _ | _
 ·
  have hno:uK k (y::ls)=none:=anM hq
  rw[abN] at hq
  refine WP.seq ?_
  refine WP.nS 6 (x:= .iface 83 l7) (by kernel_rfl) rfl rfl rfl fun K hK=>?_
  simp only[ahL,ajE]
  simp +decide only[TF,hq,↓reduceIte]
  refine hK _ _ ?_;clear hK K
  refine jq.imp (uo) rfl rfl (by simp[lk,aB]) (by simp[lk]) (by simp[lk]) ?_
  show lQ _ _ _ _ _ _ _ _
  refine lQ.panic (by rw[hno];rfl) (by rw[hno];rfl) ?_ ?_
  · simp[St.lay,lk,aB,W,rL,hno]
  · simp[lk]
 ·
  have hq0:=hq
  rw[abN] at hq
  refine jd 1 [0,1] (Gl) hq ?_
  refine WP.sr [0,5,6] (by kernel_rfl) fun K hK=>?_
  simp +decide only[TF,↓reduceIte]
  refine⟨by omega,?_⟩
  refine aj.pure (O6 _ _) rfl rfl (by simp[-List.map_take]) ?_
  simp +decide only[TF,↓reduceIte]
  refine hK _ _ ?_;clear hK K
  rcases hp:Lib.hasPrefix y (k++[61]) with _ | _
  ·
   have hno:uK k (y::ls)=none:=anN hp
   refine WP.seq ?_
   refine WP.nS 1 (x:= .iface 83 l7) (by kernel_rfl) rfl rfl rfl fun K hK=>?_
   simp only[ahL,ajE]
   simp +decide only[TF,↓reduceIte]
   refine hK _ _ ?_;clear hK K
   refine jq.imp (uo) rfl rfl (by simp[lk,aB]) (by simp[lk]) (by simp[lk]) ?_
   show lQ _ _ _ _ _ _ _ _
   refine lQ.panic (by rw[hno];rfl) (by rw[hno];rfl) ?_ ?_
   · simp[St.lay,lk,aB,W,rL,hno]
   · simp[lk]
  ·
   have hyes:=aj3 hq0 hp
   refine oC 3 [0,4,5] (Gl) h1l htk ?_
   refine WP.ret ?_
   refine lQ.ret (by rw[hyes];rfl) ?_
   refine Ends.imp (.inr rfl) rfl (Le.of_eq (by simp +decide only[St.get,W,vL,hyes,↓reduceIte])) ?_ ?_ ?_
   · simp[hyes,vL]
   · simp[lk,aB,rL,hyes]
   · simp[lk]
set_option maxRecDepth 10000
theorem zn {k y:List UInt8}{ls:List (List UInt8)}{q:List UInt8 × List (List UInt8)}(hk:k.length≤100)(h:uK k (y::ls)=some q):aF Pr 53 [.ref 0 0,.str k] [(0,.box 88 [.slice 1 false ((y::ls).map fun x=>[D.str x]) none])] (.str q.1) [(0,.box 88 [.slice 1 false (q.2.map fun x=>[D.str x]) none])]:=by
 have:=aax k y ls hk
 rw[h] at this
 exact this
theorem N8 {k y:List UInt8}{ls:List (List UInt8)}(hk:k.length≤100)(h:uK k (y::ls)=none):gU Pr (some (.iface 83 l7)) 53 [.ref 0 0,.str k] [(0,.box 88 [.slice 1 false ((y::ls).map fun x=>[D.str x]) none])] .junk [(0,.box 88 [.junk])]:=by
 have:=aax k y ls hk
 rw[h] at this
 exact this.SX ⟨Le.junk _,trivial⟩
theorem acp (s t:List UInt8):(Lib.trimPrefix s t).length≤s.length:=by
 unfold Lib.trimPrefix
 split <;> simp
theorem Ez {k y:List UInt8}{ls:List (List UInt8)}{q:List UInt8 × List (List UInt8)}(h:uK k (y::ls)=some q):q.1.length≤y.length∧q.2=ls∧ls≠[]:=by
 unfold uK at h
 split at h
 ·rename_i h0
  split at h
  ·cases h
   refine⟨acp _ _,rfl,?_⟩
   rintro rfl
   simp at h0
  ·cases h
 ·cases h
def nN (k:List UInt8)(ls:List (List UInt8)):Option (List UInt8 × List (List UInt8)):=(uK k ls).bind fun q=>(sO q.1).map fun z=>(z,q.2)
def rD (o:Option (List UInt8 × List (List UInt8))):D:=match o with|some q=> .slice 1 false (q.2.map fun x=>[D.str x]) none|none=> .junk
theorem acr (k:List UInt8)(ls:List (List UInt8)):(uK k ls=none∧nN k ls=none)∨(∃q,uK k ls=some q∧sO q.1=none∧nN k ls=none)∨∃q z,uK k ls=some q∧sO q.1=some z∧nN k ls=some (z,q.2):=by
 unfold nN
 cases h:uK k ls with
 |none=>exact .inl ⟨rfl,rfl⟩
 |some q=>
  cases hu:sO q.1 with
  |none=>exact .inr (.inl ⟨q,rfl,hu,by simp[hu]⟩)
  |some z=>exact .inr (.inr ⟨q,z,rfl,hu,by simp[hu]⟩)
theorem aay (k y:List UInt8)(ls:List (List UInt8))(hk:k.length≤100)(hy:y.length≤4096):gU Pr (xL (nN k (y::ls))) 50 [.ref 0 0,.str k] [(0,.box 88 [.slice 1 false ((y::ls).map fun x=>[D.str x]) none])] (vL (nN k (y::ls))) [(0,.box 88 [rD (uK k (y::ls))])]:=by
 refine gU.of_wp Tryz.func50 rfl (by kernel_rfl) Tryz.ntmps50 (by simp) ?_
 simp only[aT,ade,ag1,aj9]
 refine aG 1 [0,1] ?_
 rcases acr k (y::ls) with⟨hn,ht⟩ | ⟨q,hn,hu,ht⟩ | ⟨q,z,hn,hu,ht⟩
 ·
  refine WP.seq ?_
  refine WP.nS 2 (x:= .iface 83 l7) (by kernel_rfl) rfl rfl rfl fun K hK=>?_
  simp only[ahL,ajE]
  simp +decide only[TF,↓reduceIte]
  refine hK _ _ ?_;clear hK K
  refine jq.imp (N8 hk hn) rfl rfl (by simp[lk,aB]) (by simp[lk]) (by simp[lk]) ?_
  show lQ _ _ _ _ _ _ _ _
  refine lQ.panic (by rw[ht];rfl) (by rw[ht];rfl) ?_ ?_
  · simp[St.lay,lk,dl,aB,W,rD,hn]
  · simp[lk]
 ·
  have hql:=Ez hn
  have hbad:=trivial
  refine CO 1 [5,6] (zn hk hn) (wR q.1 (by omega)) hu @GU.eq_def ?_
  rcases True.intro with _
  ·
   refine WP.seq ?_
   refine WP.nS 2 (x:= .iface 83 l7) (by kernel_rfl) rfl rfl rfl fun K hK=>?_
   simp only[ahL,ajE]
   simp +decide only[TF,↓reduceIte]
   refine hK _ _ ?_;clear hK K
   refine jq.imp (uo) rfl rfl (by simp[lk,aB]) (by simp[lk]) (by simp[lk]) ?_
   show lQ _ _ _ _ _ _ _ _
   refine lQ.panic (by rw[ht];rfl) (by rw[ht];rfl) ?_ ?_
   · simp[St.lay,lk,aB,W,rD,hn]
   · simp[lk]
 ·
  have hql:=Ez hn
  refine OY 3 [4,5,6] (zn hk hn) (wR q.1 (by omega)) (Gl) hu @GU.eq_def ?_
  refine WP.ret ?_
  refine lQ.ret (by rw[ht];rfl) ?_
  refine Ends.imp (.inr rfl) rfl (Le.of_eq (by simp +decide only[St.get,W,vL,ht,↓reduceIte])) ?_ ?_ ?_
  · simp[ht,vL]
  · simp[lk,aB,rD,hn]
  · simp[lk]
def Cm (k:List UInt8)(ls:List (List UInt8)):Option (Int × List (List UInt8)):=(uK k ls).bind fun q=>if ((xB q.1).2 == 0)=true then some ((xB q.1).1,q.2) else none
def vNb (o:Option (Int × List (List UInt8))):D:=match o with|some q=> .int .i64 q.1|none=> .junk
theorem acs (k:List UInt8)(ls:List (List UInt8)):(uK k ls=none∧Cm k ls=none)∨(∃q,uK k ls=some q∧((xB q.1).2 == 0)=false∧Cm k ls=none)∨∃q,uK k ls=some q∧((xB q.1).2 == 0)=true∧Cm k ls=some ((xB q.1).1,q.2):=by
 unfold Cm
 cases h:uK k ls with
 |none=>exact .inl ⟨rfl,rfl⟩
 |some q=>
  cases hu:((xB q.1).2 == 0) with
  |false=>exact .inr (.inl ⟨q,rfl,hu,by simp only[adf,hu];rfl⟩)
  |true=>exact .inr (.inr ⟨q,rfl,hu,by simp only[adf,hu,↓reduceIte]⟩)
theorem Ru (k y:List UInt8)(ls:List (List UInt8))(hk:k.length≤100)(hy:y.length≤4096):gU Pr (xL (Cm k (y::ls))) 51 [.ref 0 0,.str k] [(0,.box 88 [.slice 1 false ((y::ls).map fun x=>[D.str x]) none])] (vNb (Cm k (y::ls))) [(0,.box 88 [rD (uK k (y::ls))])]:=by
 refine gU.of_wp Tryz.func51 rfl (by kernel_rfl) Tryz.ntmps51 (by simp) ?_
 simp only[aT,ade,ag1,aj9]
 refine aG 1 [0,1] ?_
 rcases acs k (y::ls) with⟨hn,ht⟩ | ⟨q,hn,hu,ht⟩ | ⟨q,hn,hu,ht⟩
 ·
  refine WP.seq ?_
  refine WP.nS 2 (x:= .iface 83 l7) (by kernel_rfl) rfl rfl rfl fun K hK=>?_
  simp only[ahL,ajE]
  simp +decide only[TF,↓reduceIte]
  refine hK _ _ ?_;clear hK K
  refine jq.imp (N8 hk hn) rfl rfl (by simp[lk,aB]) (by simp[lk]) (by simp[lk]) ?_
  show lQ _ _ _ _ _ _ _ _
  refine lQ.panic (by rw[ht];rfl) (by rw[ht];rfl) ?_ ?_
  · simp[St.lay,lk,dl,aB,W,rD,hn]
  · simp[lk]
 ·
  have hql:=Ez hn
  refine oC 1 [5,6] (zn hk hn) (QO q.1 (by omega)) @OE.eq_def ?_
  rcases True.intro with _
  ·
   refine WP.seq ?_
   refine WP.nS 2 (x:= .iface 83 l7) (by kernel_rfl) rfl rfl rfl fun K hK=>?_
   simp only[ahL,ajE]
   simp +decide only[TF,hu,↓reduceIte]
   refine hK _ _ ?_;clear hK K
   refine jq.imp (uo) rfl rfl (by simp[lk,aB]) (by simp[lk]) (by simp[lk]) ?_
   show lQ _ _ _ _ _ _ _ _
   refine lQ.panic (by rw[ht];rfl) (by rw[ht];rfl) ?_ ?_
   · simp[St.lay,lk,aB,W,rD,hn]
   · simp[lk]
 ·
  have hql:=Ez hn
  refine OY 3 [4,5,6] (zn hk hn) (QO q.1 (by omega)) (Gl) @OE.eq_def hu ?_
  refine WP.ret ?_
  refine lQ.ret (by rw[ht];rfl) ?_
  refine Ends.imp (.inr rfl) rfl (Le.of_eq (by simp +decide only[St.get,W,vNb,ht,↓reduceIte])) ?_ ?_ ?_
  · simp[ht,vNb]
  · simp[lk,aB,rD,hn]
  · simp[lk]
theorem aiE {k:List UInt8}{ls:List (List UInt8)}{z:List UInt8}{r:List (List UInt8)}(h:nN k ls=some (z,r)):∃x,uK k ls=some (x,r):=by
 unfold nN at h
 cases hq:uK k ls with
 |none=>rw[hq] at h;cases h
 |some q=>
  rw[hq] at h
  simp only[adf,abR] at h
  obtain⟨w,_,e⟩:=h
  cases e
  exact⟨q.1,rfl⟩
theorem aiF {k:List UInt8}{ls:List (List UInt8)}{z:Int}{r:List (List UInt8)}(h:Cm k ls=some (z,r)):∃x,uK k ls=some (x,r):=by
 unfold Cm at h
 cases hq:uK k ls with
 |none=>rw[hq] at h;cases h
 |some q=>
  rw[hq] at h
  simp only[adf] at h
  split at h
  ·cases h;exact⟨q.1,rfl⟩
  ·cases h
theorem afC {k y z:List UInt8}{ls r:List (List UInt8)}(hk:k.length≤100)(hy:y.length≤4096)(h:nN k (y::ls)=some (z,r)):aF Pr 50 [.ref 0 0,.str k] [(0,.box 88 [.slice 1 false ((y::ls).map fun x=>[D.str x]) none])] (.str z) [(0,.box 88 [.slice 1 false (r.map fun x=>[D.str x]) none])]:=by
 have:=aay k y ls hk hy
 obtain⟨x,hx⟩:=aiE h
 rw[h,hx] at this
 exact this
theorem afD {k y:List UInt8}{ls:List (List UInt8)}(hk:k.length≤100)(hy:y.length≤4096)(h:nN k (y::ls)=none):gU Pr (some (.iface 83 l7)) 50 [.ref 0 0,.str k] [(0,.box 88 [.slice 1 false ((y::ls).map fun x=>[D.str x]) none])] .junk [(0,.box 88 [.junk])]:=by
 have:=aay k y ls hk hy
 rw[h] at this
 exact this.SX ⟨Le.junk _,trivial⟩
theorem YV {k y:List UInt8}{z:Int}{ls r:List (List UInt8)}(hk:k.length≤100)(hy:y.length≤4096)(h:Cm k (y::ls)=some (z,r)):aF Pr 51 [.ref 0 0,.str k] [(0,.box 88 [.slice 1 false ((y::ls).map fun x=>[D.str x]) none])] (.int .i64 z) [(0,.box 88 [.slice 1 false (r.map fun x=>[D.str x]) none])]:=by
 have:=Ru k y ls hk hy
 obtain⟨x,hx⟩:=aiF h
 rw[h,hx] at this
 exact this
theorem YW {k y:List UInt8}{ls:List (List UInt8)}(hk:k.length≤100)(hy:y.length≤4096)(h:Cm k (y::ls)=none):gU Pr (some (.iface 83 l7)) 51 [.ref 0 0,.str k] [(0,.box 88 [.slice 1 false ((y::ls).map fun x=>[D.str x]) none])] .junk [(0,.box 88 [.junk])]:=by
 have:=Ru k y ls hk hy
 rw[h] at this
 exact this.SX ⟨Le.junk _,trivial⟩
def nxA (ls:List (List UInt8)):Option (At × List (List UInt8)):=(uK mV ls).bind fun q=>(qR q.1).bind fun vs=>match vs with|n::v::l=>some (⟨n,false,v::l⟩,q.2) | _=>none
def zo:Nat→List (List UInt8)→List At→Option (List At)
 | 0,_,acc=>some acc
 |n+1,ls,acc=>if decide ((ls.length:Int)>1)=true then (nxA ls).bind fun q=>zo n q.2 (acc++[q.1]) else some acc
def bF:As:=⟨[],[],[],[],[],0,0,0,true,[]⟩
def rdA (ls:List (List UInt8)):Option As:=
 (nN nM ls).bind fun q1=>(nN gJ q1.2).bind fun q2=>(nN iy q2.2).bind fun q3=>(nN ji q3.2).bind fun q4=>(nN jT q4.2).bind fun q5=>
 (Cm kW q5.2).bind fun q6=>(Cm mQ q6.2).bind fun q7=>(Cm ql q7.2).bind fun q8=>(zo q8.2.length q8.2 []).map fun l=>⟨q1.1,q2.1,q3.1,q4.1,q5.1,q6.1,q7.1,q8.1,l.isEmpty,l⟩
def jF (s:List UInt8):As × Int:=
 if decide ((s.length:Int)>4096)=true then (bF,3) else match rdA (bH 10 [] s) with
  |none=>(bF,4)
  |some a=>if (((dX a).2 == 0) && ((dX a).1 == s))=true then (a,0) else (bF,4)
theorem WQ:∀n,n<16→hexD n∈hexL:=by decide +kernel
theorem afF {c:UInt8}(h:fJ c.toNat=false)(h2:c≠37)(h3:c ∉ hexL)(s:List UInt8):c ∉ aC s:=by
 unfold aC
 rw[List.mem_flatMap]
 rintro ⟨x,_,hx⟩
 unfold xE at hx
 have hlt:=x.toNat_lt
 split at hx
 ·rename_i hp
  simp only[ad1] at hx
  subst hx;rw[h] at hp;cases hp
 ·simp only[ael,akg,or_false] at hx
  rcases hx with hx|hx|hx
  ·exact h2 hx
  ·exact h3 (hx ▸ WQ _ (by omega))
  ·exact h3 (hx ▸ WQ _ (by omega))
theorem afG (s:List UInt8):(10:UInt8) ∉ aC s:=afF (by decide) (by decide) (by decide) s
theorem aiG (s:List UInt8):(124:UInt8) ∉ aC s:=afF (by decide) (by decide) (by decide) s
theorem aaz {c d:UInt8}(h:c≠d):∀ls:List (List UInt8),(∀l∈ls,c ∉ l)→c ∉ Lib.join ls [d]
 | [],_=>by simp[Lib.join_nil]
 | [x],hl=>by rw[Lib.join_one];exact hl x (by simp)
 |x::y::r,hl=>by
  rw[ajN]
  have:=aaz h (y::r) fun l hm=>hl l (ahA _ hm)
  simp only[List.mem_append,ael,not_or]
  exact⟨hl x (by simp),h,this⟩
theorem aiH (ls:List (List UInt8)):(10:UInt8) ∉ oU ls:=by
 unfold oU
 split
 ·decide
 split
 ·decide
 ·refine aaz (by decide) _ fun l hl=>?_
  obtain⟨x,_,rfl⟩:=List.mem_map.1 hl
  exact afG x
theorem aaA:∀ls:List (List UInt8),UO (ls.map aC)=some ls
 | []=>rfl
 |x::l=>by rw[ag1,Ew (rX x),aaA l];rfl
theorem afH {x y:List UInt8}(h:aC x=aC y):x=y:=by
 have:=rX x
 rw[h,rX y] at this
 exact (al6 this).symm
theorem Rx (ls:List (List UInt8)):qR (oU ls)=some ls:=by
 cases ls with
 |nil=>rfl
 |cons x l=>
  unfold oU
  rw[if_neg (by simp;omega)]
  split
  ·rename_i h;rw[h];rfl
  ·rename_i h
   have hc:bH 124 [] (Lib.join ((x::l).map aC) [124])=(x::l).map aC:=VY 124 _ (by simp) fun w hw=>by
    obtain⟨y,_,rfl⟩:=List.mem_map.1 hw
    exact aiG y
   rw[YR,hc,aaA]
   ·rw[beq_eq_false_iff_ne]
    intro e
    rw[e] at hc
    refine h ?_
    have h1:(x::l).map aC=[aC [45]]:=hc.symm
    cases l with
    |nil=>simp only[ag1,aj9,apm,and_true] at h1;rw[afH h1]
    |cons y l=>simp at h1
   ·rw[beq_eq_false_iff_ne]
    intro e
    rw[e] at hc
    have h1:(x::l).map aC=[[37,50,68]]:=hc.symm
    have h2:=rX x
    simp only[ag1,apm] at h1
    rw[h1.1] at h2
    revert h2
    rw[show sO [37,50,68]=none from by decide +kernel]
    exact fun h=>by cases h
theorem Ry:∀ls:List (List UInt8),(∀l∈ls,(10:UInt8) ∉ l)→bH 10 [] ((ls.map (·++[10])).flatten)=ls++[[]]
 | [],_=>rfl
 |x::l,h=>by
  rw[ag1,amb,List.append_assoc,yM 10 x [] _ (h x (by simp)),abT,aoj,M_,Ry l fun y hy=>h y (ahA _ hy)]
  rfl
def Gm (k v:List UInt8):List UInt8:=k++[61]++v
def Pm (a:As):List (List UInt8):=[Gm nM (aC a.id),Gm gJ (aC a.iw),Gm iy (aC a.jV),Gm ji (aC a.sub),Gm jT (aC a.req),Gm kW (Lib.itoa a.kK),Gm mQ (Lib.itoa a.fD),Gm ql (Lib.itoa a.lvl)]++(jh a.ats).map fun x=>Gm mV (oU (x.name::x.vals))
theorem YX (a:As):iL a=((Pm a).map (·++[10])).flatten:=by
 unfold iL Pm nG
 have:∀l:List At,(l.map JO).flatten=((l.map fun x=>Gm mV (oU (x.name::x.vals))).map (·++[10])).flatten:=fun l=>by
  rw[List.map_map];rfl
 rw[this,List.map_append,apL]
 simp[bW,Gm]
theorem alI {k v:List UInt8}(h:(10:UInt8) ∉ k)(h2:(10:UInt8) ∉ v):(10:UInt8) ∉ Gm k v:=by
 unfold Gm
 simp only[List.mem_append,ad1,not_or]
 exact⟨⟨h,by decide⟩,h2⟩
theorem aiI (a:As):∀l∈Pm a,(10:UInt8) ∉ l:=by
 intro l hl
 unfold Pm at hl
 simp only[List.mem_append,ael,akg,or_false,List.mem_map] at hl
 rcases hl with (rfl|rfl|rfl|rfl|rfl|rfl|rfl|rfl) | ⟨x,_,rfl⟩
 all_goals refine alI (by decide) ?_
 all_goals first|exact afG _|exact (ak6 _).2.2|exact aiH _
theorem N9 (a:As):bH 10 [] (iL a)=Pm a++[[]]:=by rw[YX,Ry _ (aiI a)]
theorem WR (k v:List UInt8):Lib.hasPrefix (Gm k v) (k++[61])=true:=by
 unfold Lib.hasPrefix Gm
 rw[List.isPrefixOf_iff_prefix]
 exact List.prefix_append _ _
theorem acu (k v:List UInt8):Lib.trimPrefix (Gm k v) (k++[61])=v:=by
 unfold Lib.trimPrefix
 rw[if_pos (WR k v)]
 unfold Gm
 exact List.drop_left' rfl
theorem N_ (k v:List UInt8){r:List (List UInt8)}(h:r≠[]):uK k (Gm k v::r)=some (v,r):=by
 rw[aj3 _ (WR k v),acu]
 have:0<r.length:=akT.2 h
 simp;omega
theorem zq (k x:List UInt8){r:List (List UInt8)}(h:r≠[]):nN k (Gm k (aC x)::r)=some (x,r):=by
 unfold nN
 rw[N_ k _ h,adf,rX];rfl
theorem Oa (k:List UInt8){n:Int}(hn:jo n){r:List (List UInt8)}(h:r≠[]):Cm k (Gm k (Lib.itoa n)::r)=some (n,r):=by
 unfold Cm
 rw[N_ k _ h,adf,VX n hn.1 hn.2];rfl
theorem afI {x:At}(h1:x.nl=false)(h2:x.vals≠[]){r:List (List UInt8)}(h:r≠[]):nxA (Gm mV (oU (x.name::x.vals))::r)=some (x,r):=by
 unfold nxA
 rw[N_ mV _ h,adf,Rx,adf]
 obtain⟨nm,nl,vs⟩:=x
 cases vs with
 |nil=>exact absurd rfl h2
 |cons v l=>simp only at h1;subst h1;rfl
theorem Ob:∀(xs:List At) (n:Nat) (acc:List At),(∀x∈xs,x.nl=false∧x.vals≠[])→xs.length≤n→zo n (xs.map (fun x=>Gm mV (oU (x.name::x.vals)))++[[]]) acc=some (acc++xs)
 | [],0,acc,_,_=>by simp[zo]
 | [],n+1,acc,_,_=>by rw[zo,if_neg (by simp)];simp
 |x::l,0,acc,_,h=>by simp at h
 |x::l,n+1,acc,hx,h=>by
  rw[zo,if_pos (by simp;omega),ag1,abS,afI (hx x (by simp)).1 (hx x (by simp)).2 (by simp),adf,Ob l n _ (fun y hy=>hx y (ahA _ hy)) (by simp at h;omega)]
  simp
def nrm (a:As):As:={ a with nl:=(jh a.ats).isEmpty,ats:=jh a.ats }
theorem Rz {a:As}(hc:bM a=0):rdA (bH 10 [] (iL a))=some (nrm a):=by
 obtain⟨_,⟨q6,q7,q8⟩,⟨q9,q10⟩,hA⟩:=jE hc
 have i1:jo a.kK:=⟨by omega,by omega⟩
 have i2:jo a.fD:=⟨by omega,by omega⟩
 have i3:jo a.lvl:=⟨by omega,by omega⟩
 rw[N9]
 unfold Pm rdA
 simp only[abS,abT]
 rw[zq nM _ (by simp),adf,zq gJ _ (by simp),adf,zq iy _ (by simp),adf,zq ji _ (by simp),adf,zq jT _ (by simp),adf,
  Oa kW i1 (by simp),adf,Oa mQ i2 (by simp),adf,Oa ql i3 (by simp),adf]
 simp only
 rw[Ob _ _ _ (fun x hx=>⟨(qm hA hx).2.1,(qm hA hx).2.2.1⟩) (by simp)]
 rfl
theorem acv:∀c:UInt8,BX (BX c)=BX c:=FQ (by decide +kernel)
theorem afJ:∀c:UInt8,um c.toNat=true→um (BX c).toNat=true:=FQ (by decide +kernel)
theorem aiJ:∀c:UInt8,dB c.toNat=true→dB (BX c).toNat=true:=FQ (by decide +kernel)
theorem RD (s:List UInt8):bG (bG s)=bG s:=by
 unfold bG
 rw[List.map_map]
 exact ajb fun c _=>acv c
theorem acw {s:List UInt8}(h:nameB s=true):nameB (bG s)=true:=by
 unfold nameB r_ at h ⊢
 simp only[ait,ami,decide_eq_true_eq,vO] at h ⊢
 obtain⟨⟨⟨h1,h2⟩,h3⟩,h4⟩:=h
 refine⟨⟨⟨fun c hc=>?_,?_⟩,h3⟩,?_⟩
 ·obtain⟨x,hx,rfl⟩:=List.mem_map.1 hc
  exact afJ x (h1 x hx)
 ·cases s with
  |nil=>exact h2
  |cons c l=>rfl
 ·cases s with
  |nil=>exact h4
  |cons c l=>exact aiJ c h4
theorem Jt {l:List (List UInt8)}(h:l.Nodup):(bU l).Nodup:=(BU l).nodup_iff.2 h
theorem WS {l:List (List UInt8)}(h:l.Nodup):bU (bU l)=bU l:=vK (Jt h) (zZ h) fun x=>Iff.rfl
theorem aiK {a:At}(h:a.vals.Nodup):XH (XH a)=XH a:=by
 unfold XH
 simp only[RD,WS h]
theorem aaB {l:List At}{x:At}(hx:x∈jh l):∃a∈l,x=XH a:=by
 obtain⟨a,ha,rfl⟩:=List.mem_map.1 ((vV l).mem_iff.1 hx)
 exact⟨a,ha,rfl⟩
theorem acy {l:List At}(hn:(l.map fun a=>bG a.name).Nodup):((jh l).map fun a=>bG a.name).Nodup:=by
 have:=((vV l).map fun a=>bG a.name).nodup_iff.2 (by
  rw[List.map_map]
  have e:((fun a:At=>bG a.name)∘XH)=fun a:At=>bG a.name:=funext fun a=>RD _
  rw[e];exact hn)
 exact this
theorem aiL {l:List At}(hc:CkA l)(hd:∀a∈l,a.vals.Nodup)(hn:(l.map fun a=>bG a.name).Nodup):jh (jh l)=jh l:=by
 have e:(jh l).map XH=jh l:=by
  have:(jh l).map XH=(jh l).map id:=ajb fun x hx=>by
   obtain⟨a,ha,rfl⟩:=aaB hx
   exact aiK (hd a ha)
  rw[this,amE]
 show ((jh l).map XH).mergeSort leA=jh l
 rw[e]
 refine List.mergeSort_of_pairwise ?_
 have h:=Rn hn
 unfold Asc at h
 rw[List.pairwise_map] at h
 refine h.imp fun {a b} hab=>?_
 unfold leA
 rw[adh]
 cases hq:Op.bytesLess b.name a.name with
 |false=>rfl
 |true=>
  rw[rZ _ _ hab] at hq;cases hq
theorem aaC:∀(pre l:List (List UInt8)),(∀v∈l,b_ v=true)→l.Nodup→(∀v∈l,v ∉ pre)→wW pre l=0
 |pre,[],_,_,_=>rfl
 |pre,v::l,h1,h2,h3=>by
  rw[wW,if_neg (by rw[h1 v (by simp)];decide),if_neg (by simpa using h3 v (by simp))]
  rw[anE] at h2
  refine aaC _ l (fun x hx=>h1 x (ahA _ hx)) h2.2 fun x hx=>?_
  simp only[List.mem_append,ad1,not_or]
  exact⟨h3 x (ahA _ hx),fun e=>h2.1 (e ▸ hx)⟩
theorem aaD:∀(pre l:List At),(∀a∈l,nameB a.name=true∧a.vals≠[]∧a.vals.length≤16∧a.vals.Nodup∧∀v∈a.vals,b_ v=true)→(l.map fun a=>bG a.name).Nodup→(∀a∈l,∀b∈pre,bG a.name≠bG b.name)→AP pre l=0
 |pre,[],_,_,_=>rfl
 |pre,a::l,h1,h2,h3=>by
  obtain⟨q1,q2,q3,q4,q5⟩:=h1 a (by simp)
  have ha:atE pre a=0:=by
   unfold atE
   rw[if_neg (by rw[q1];decide),if_neg,if_neg,if_neg,aaC [] _ q5 q4 (by simp)]
   ·simp;omega
   ·cases hv:a.vals with
    |nil=>exact absurd hv q2
    |cons x y=>simp
   ·rw[apK,List.any_eq_false]
    intro b hb
    simpa using h3 a (by simp) b hb
  rw[AP,if_neg (by rw[ha];simp)]
  rw[ag1,anE] at h2
  refine aaD _ l (fun x hx=>h1 x (ahA _ hx)) h2.2 fun x hx b hb=>?_
  rcases List.mem_append.1 hb with hb|hb
  ·exact h3 x (ahA _ hx) b hb
  ·rw[ad1] at hb;subst hb
   exact fun e=>h2.1 (List.mem_map.2 ⟨x,hx,e⟩)
theorem Oc {l:List At}(h:eP l=0):eP (jh l)=0∧jh (jh l)=jh l:=by
 have hg:=Js h
 have hk:=Gf h
 have hz:(l.map fun a=>bG a.name).Nodup∧∀a∈l,a.vals≠[]∧a.vals.length≤16∧a.vals.Nodup:=by
  unfold eP at h
  split at h
  ·cases h
  exact⟨(Af [] l h).1,fun a ha=>((Af [] l h).2 a ha).2⟩
 refine⟨?_,aiL hk (fun a ha=>(hz.2 a ha).2.2) hz.1⟩
 unfold eP
 rw[Ae]
 have hlen:¬decide ((l.length:Int)>32)=true:=by
  intro q;unfold eP at h;rw[if_pos q] at h;cases h
 rw[if_neg hlen]
 refine aaD [] _ (fun x hx=>?_) (acy hz.1) (by simp)
 obtain⟨a,ha,rfl⟩:=aaB hx
 obtain⟨z1,z2,z3⟩:=hz.2 a ha
 refine⟨acw (hg a ha).1,?_,?_,Jt z3,fun v hv=>(hg a ha).2 v ((oQ _ _).1 hv)⟩
 ·intro e
  have:=dL a.vals
  rw[show bU a.vals=[] from e] at this
  exact z1 (List.length_eq_zero_iff.1 this.symm)
 ·show (bU a.vals).length≤16
  rw[dL];exact z2
theorem YZ {a:As}(h:bM a=0):bM (nrm a)=0:=by
 obtain⟨_,_,_,hA⟩:=jE h
 unfold bM at h ⊢
 simp only[nrm]
 split at h
 ·cases h
 split at h
 ·cases h
 split at h
 ·cases h
 rename_i h1 h2 h3
 exact (if_neg h1).trans ((if_neg h2).trans ((if_neg h3).trans (Oc hA).1))
theorem Y0 {a:As}(h:bM a=0):iL (nrm a)=iL a:=by
 obtain⟨_,_,_,hA⟩:=jE h
 show nG (nrm a)++((jh (jh a.ats)).map JO).flatten=_
 rw[(Oc hA).2];rfl
theorem wZ {a:As}{s:List UInt8}(h:dX a=(s,0)):bM a=0∧iL a=s∧s.length≤4096:=by
 unfold dX at h
 split at h
 ·rename_i h1
  have:=congrArg Prod.snd h
  simp only at this
  rw[this] at h1;simp at h1
 split at h
 ·cases h
 ·rename_i h1 h2
  cases h
  exact⟨by simpa using h1,rfl,by simp at h2;omega⟩
theorem Uj {a:As}{s:List UInt8}(h1:bM a=0)(h2:iL a=s)(h3:s.length≤4096):dX a=(s,0):=by
 subst h2
 exact YT (by rw[h1];rfl) (by simp;omega)
theorem afK {a:As}{s:List UInt8}(h:dX a=(s,0)):dX (nrm a)=(s,0):=by
 obtain⟨h1,h2,h3⟩:=wZ h
 exact Uj (YZ h1) ((Y0 h1).trans h2) h3
theorem aaE {a:As}{s:List UInt8}(h:dX a=(s,0)):jF s=(nrm a,0):=by
 obtain⟨h1,h2,h3⟩:=wZ h
 have hr:=Rz h1
 rw[h2] at hr
 have hn:=afK h
 unfold jF
 rw[if_neg (by simp;omega),hr]
 simp only[hn]
 rw[if_pos (by simp)]
theorem aaF {b:As}{s:List UInt8}(h:(jF s).2=0)(hb:(jF s).1=b):dX b=(s,0)∧nrm b=b∧rdA (bH 10 [] s)=some b∧s.length≤4096:=by
 by_cases h0:decide ((s.length:Int)>4096)=true
 ·unfold jF at h;rw[if_pos h0] at h;cases h
 cases hr:rdA (bH 10 [] s) with
 |none=>unfold jF at h;rw[if_neg h0,hr] at h;cases h
 |some a=>
  have e:jF s=if (((dX a).2 == 0) && ((dX a).1 == s))=true then (a,(0:Int)) else (bF,4):=by unfold jF;rw[if_neg h0,hr]
  by_cases h1:(((dX a).2 == 0) && ((dX a).1 == s))=true
  ·rw[if_pos h1] at e
   rw[e] at hb
   subst hb
   simp only[ait,beq_iff_eq] at h1
   have he:dX a=(s,0):=Prod.ext h1.2 h1.1
   refine⟨he,?_,rfl,by simp at h0;omega⟩
   obtain⟨q1,q2,_⟩:=wZ he
   have:=Rz q1
   rw[q2,hr] at this
   exact (al6 this).symm
  ·rw[if_neg h1] at e
   rw[e] at h
   cases h
theorem Oe (s:List UInt8):(4096<s.length∧jF s=(bF,3))∨(s.length≤4096∧jF s=(bF,4)∧∀a,dX a≠(s,0))∨(s.length≤4096∧∃b,jF s=(b,0)∧dX b=(s,0)∧nrm b=b∧rdA (bH 10 [] s)=some b):=by
 by_cases h:4096<s.length
 ·refine .inl ⟨h,?_⟩
  unfold jF;rw[if_pos (by simp;omega)]
 ·by_cases h0:(jF s).2=0
  ·obtain⟨q1,q2,q3,q4⟩:=aaF h0 rfl
   exact .inr (.inr ⟨q4,_,Prod.ext rfl h0,q1,q2,q3⟩)
  ·refine .inr (.inl ⟨by omega,?_,fun a ha=>h0 (by rw[aaE ha])⟩)
   unfold jF at h0 ⊢
   rw[if_neg (by simp;omega)] at h0 ⊢
   split
   ·rfl
   ·rename_i a ha
    rw[ha] at h0
    simp only at h0 ⊢
    split
    ·rename_i h1;rw[if_pos h1] at h0;exact absurd rfl h0
    ·rfl
structure XI (ls:List (List UInt8)):Prop where
 ne:ls≠[]
 len:∀x∈ls,x.length≤4096
 sz:ls.length≤4097
theorem XI.cut {s:List UInt8}(hs:s.length≤4096):XI (bH 10 [] s):=
 ⟨fun e=>by have:=(qg 10 s []).2;rw[e] at this;simp at this,fun x hx=>by have:=rW 10 s [] x hx;simp at this;omega,by have:=(qg 10 s []).1;omega⟩
theorem EC {k:List UInt8}{ls:List (List UInt8)}{q:List UInt8 × List (List UInt8)}(h:XI ls)(hn:uK k ls=some q):XI q.2∧q.1.length≤4096∧ls.length=q.2.length+1:=by
 cases ls with
 |nil=>exact absurd rfl h.ne
 |cons y l=>
  obtain⟨h1,h2,h3⟩:=Ez hn
  refine⟨⟨by rw[h2];exact h3,fun x hx=>h.len x (by rw[h2] at hx;simp[hx]),by have:=h.sz;rw[h2];simp at this;omega⟩,?_,by rw[h2];rfl⟩
  have:=h.len y (by simp)
  omega
theorem ED {k:List UInt8}{ls r:List (List UInt8)}{z:List UInt8}(h:XI ls)(hn:nN k ls=some (z,r)):XI r∧z.length≤4096:=by
 unfold nN at hn
 cases hq:uK k ls with
 |none=>rw[hq] at hn;cases hn
 |some q=>
  obtain⟨q1,q2,_⟩:=EC h hq
  rw[hq] at hn
  simp only[adf,abR] at hn
  obtain⟨w,hw,e⟩:=hn
  cases e
  exact⟨q1,ag9 (Tv hw) q2⟩
theorem aaG (s:List UInt8):jo (xB s).1:=by
 unfold xB jo
 split
 ·simp
 ·split
  ·split
   ·split
    ·simp only;omega
    ·simp
   ·simp
  ·split
   ·split
    ·simp only;omega
    ·simp
   ·simp
theorem Uk {k:List UInt8}{ls r:List (List UInt8)}{z:Int}(h:XI ls)(hn:Cm k ls=some (z,r)):XI r∧jo z:=by
 unfold Cm at hn
 cases hq:uK k ls with
 |none=>rw[hq] at hn;cases hn
 |some q=>
  obtain⟨q1,q2,_⟩:=EC h hq
  rw[hq] at hn
  simp only[adf] at hn
  split at hn
  ·cases hn;exact⟨q1,aaG _⟩
  ·cases hn
theorem w_ {f:Nat→Nat}{b:Nat}(hf:f 0=b)(ls:List (List UInt8)):kC f [(0,.box 88 [.slice 1 false (ls.map fun x=>[D.str x]) none])]=[(b,.box 88 [.slice 1 false (ls.map fun x=>[D.str x]) none])]:=by
 have e:oz f (ls.map fun x=>[D.str x])=ls.map fun x=>[D.str x]:=Nw f ls
 simp[kC,lU,bK,iG,e,hf]
theorem Y1 {f:Nat→Nat}{b:Nat}(hf:f 0=b):kC f [(0,.box 88 [.junk])]=[(b,.box 88 [.junk])]:=by
 simp[kC,lU,bK,iG,hf]
theorem Gn {f:Nat→Nat}{b:Nat}(hf:f 0=b)(k:List UInt8):[D.ref 0 0,D.str k].map (bK f)=[.ref b 0,.str k]:=by
 simp[bK,hf]
theorem zu (b:Nat){k:List UInt8}{ls:List (List UInt8)}{q:List UInt8 × List (List UInt8)}(hk:k.length≤100)(hL:XI ls)(h:uK k ls=some q):aF Pr 53 [.ref b 0,.str k] [(b,.box 88 [.slice 1 false (ls.map fun x=>[D.str x]) none])] (.str q.1) [(b,.box 88 [.slice 1 false (q.2.map fun x=>[D.str x]) none])]:=by
 cases ls with
 |nil=>exact absurd rfl hL.ne
 |cons y l=>
  obtain⟨f,g,h1,h2⟩:=lg [b] (by simp)
  have:=aF.rename h1 (zn hk h)
  have f0:f 0=b:=h2 0 b rfl
  rw[Gn f0,w_ f0,w_ f0] at this
  exact this
theorem WT (b:Nat){k:List UInt8}{ls:List (List UInt8)}(hk:k.length≤100)(hL:XI ls)(h:uK k ls=none):gU Pr (some (.iface 83 l7)) 53 [.ref b 0,.str k] [(b,.box 88 [.slice 1 false (ls.map fun x=>[D.str x]) none])] .junk [(b,.box 88 [.junk])]:=by
 cases ls with
 |nil=>exact absurd rfl hL.ne
 |cons y l=>
  obtain⟨f,g,h1,h2⟩:=lg [b] (by simp)
  have:=gU.rename h1 (N8 hk h)
  have f0:f 0=b:=h2 0 b rfl
  rw[Gn f0,w_ f0,Y1 f0] at this
  exact this
theorem qp (b:Nat){k z:List UInt8}{ls r:List (List UInt8)}(hk:k.length≤100)(hL:XI ls)(h:nN k ls=some (z,r)):aF Pr 50 [.ref b 0,.str k] [(b,.box 88 [.slice 1 false (ls.map fun x=>[D.str x]) none])] (.str z) [(b,.box 88 [.slice 1 false (r.map fun x=>[D.str x]) none])]:=by
 cases ls with
 |nil=>exact absurd rfl hL.ne
 |cons y l=>
  obtain⟨f,g,h1,h2⟩:=lg [b] (by simp)
  have:=aF.rename h1 (afC hk (hL.len y (by simp)) h)
  have f0:f 0=b:=h2 0 b rfl
  rw[Gn f0,w_ f0,w_ f0] at this
  exact this
theorem qw (b:Nat){k:List UInt8}{ls:List (List UInt8)}(hk:k.length≤100)(hL:XI ls)(h:nN k ls=none):gU Pr (some (.iface 83 l7)) 50 [.ref b 0,.str k] [(b,.box 88 [.slice 1 false (ls.map fun x=>[D.str x]) none])] .junk [(b,.box 88 [.junk])]:=by
 cases ls with
 |nil=>exact absurd rfl hL.ne
 |cons y l=>
  obtain⟨f,g,h1,h2⟩:=lg [b] (by simp)
  have:=gU.rename h1 (afD hk (hL.len y (by simp)) h)
  have f0:f 0=b:=h2 0 b rfl
  rw[Gn f0,w_ f0,Y1 f0] at this
  exact this
theorem uM (b:Nat){k:List UInt8}{z:Int}{ls r:List (List UInt8)}(hk:k.length≤100)(hL:XI ls)(h:Cm k ls=some (z,r)):aF Pr 51 [.ref b 0,.str k] [(b,.box 88 [.slice 1 false (ls.map fun x=>[D.str x]) none])] (.int .i64 z) [(b,.box 88 [.slice 1 false (r.map fun x=>[D.str x]) none])]:=by
 cases ls with
 |nil=>exact absurd rfl hL.ne
 |cons y l=>
  obtain⟨f,g,h1,h2⟩:=lg [b] (by simp)
  have:=aF.rename h1 (YV hk (hL.len y (by simp)) h)
  have f0:f 0=b:=h2 0 b rfl
  rw[Gn f0,w_ f0,w_ f0] at this
  exact this
theorem uN (b:Nat){k:List UInt8}{ls:List (List UInt8)}(hk:k.length≤100)(hL:XI ls)(h:Cm k ls=none):gU Pr (some (.iface 83 l7)) 51 [.ref b 0,.str k] [(b,.box 88 [.slice 1 false (ls.map fun x=>[D.str x]) none])] .junk [(b,.box 88 [.junk])]:=by
 cases ls with
 |nil=>exact absurd rfl hL.ne
 |cons y l=>
  obtain⟨f,g,h1,h2⟩:=lg [b] (by simp)
  have:=gU.rename h1 (YW hk (hL.len y (by simp)) h)
  have f0:f 0=b:=h2 0 b rfl
  rw[Gn f0,w_ f0,Y1 f0] at this
  exact this
theorem aaH:∀{l ls:List (List UInt8)},UO l=some ls→ls.length=l.length∧∀x∈ls,∃y∈l,x.length≤y.length
 | [],ls,h=>by cases h;simp
 |y::l,ls,h=>by
  cases hu:sO y with
  |none=>rw[N7 hu] at h;cases h
  |some z=>
   rw[Ew hu,abR] at h
   obtain⟨m,hm,rfl⟩:=h
   obtain⟨h1,h2⟩:=aaH hm
   refine⟨by simp[h1],fun x hx=>?_⟩
   rcases ael.1 hx with rfl|hx
   ·exact⟨y,by simp,Tv hu⟩
   ·obtain⟨w,hw,hle⟩:=h2 x hx
    exact⟨w,ahA _ hw,hle⟩
theorem WU {s:List UInt8}{ls:List (List UInt8)}(h:qR s=some ls):ls.length≤s.length+1∧∀x∈ls,x.length≤s.length+1:=by
 unfold qR at h
 split at h
 ·cases h;simp
 split at h
 ·cases h;simp
 ·obtain⟨h1,h2⟩:=aaH h
  refine⟨by rw[h1];have:=(qg 124 s []).1;omega,fun x hx=>?_⟩
  obtain⟨y,hy,hle⟩:=h2 x hx
  have:=rW 124 s [] y hy
  simp at this
  omega
theorem acz (ls:List (List UInt8)):(uK mV ls=none∧nxA ls=none)∨(∃q,uK mV ls=some q∧qR q.1=none∧nxA ls=none)∨(∃q l,uK mV ls=some q∧qR q.1=some l∧l.length≤1∧nxA ls=none)∨
  ∃q n v l,uK mV ls=some q∧qR q.1=some (n::v::l)∧nxA ls=some (⟨n,false,v::l⟩,q.2):=by
 unfold nxA
 cases h:uK mV ls with
 |none=>exact .inl ⟨rfl,rfl⟩
 |some q=>
  cases hs:qR q.1 with
  |none=>exact .inr (.inl ⟨q,rfl,hs,by simp only[adf,hs];rfl⟩)
  |some l=>
   match l,hs with
   | [],hs=>exact .inr (.inr (.inl ⟨q,[],rfl,hs,by simp,by simp only[adf,hs]⟩))
   | [n],hs=>exact .inr (.inr (.inl ⟨q,[n],rfl,hs,by simp,by simp only[adf,hs]⟩))
   |n::v::l,hs=>exact .inr (.inr (.inr ⟨q,n,v,l,rfl,hs,by simp only[adf,hs]⟩))
theorem RF {ls:List (List UInt8)}(h:1<ls.length)(n:Nat)(acc:List At):zo (n+1) ls acc=(nxA ls).bind fun q=>zo n q.2 (acc++[q.1]):=by
 rw[zo,if_pos (by simp;omega)]
theorem afL {ls:List (List UInt8)}(h:¬ 1<ls.length)(n:Nat)(acc:List At):zo n ls acc=some acc:=by
 cases n with
 |zero=>rfl
 |succ n=>rw[zo,if_neg (by simp;omega)]
def Ju (acc:List At):Prop:=∀x∈acc,x.ok
theorem Ju.snoc {acc:List At}{a:At}(h:Ju acc)(ha:a.ok):Ju (acc++[a]):=by
 intro x hx
 rcases List.mem_append.1 hx with hx|hx
 ·exact h x hx
 ·rw[ad1] at hx;subst hx;exact ha
theorem afM {n v:List UInt8}{l:List (List UInt8)}{s:List UInt8}(hs:s.length≤4096)(h:qR s=some (n::v::l)):(At.mk n false (v::l)).ok:=by
 obtain⟨h1,h2⟩:=WU h
 refine⟨ag9 (h2 n (by simp)) (by omega),ag9 (show (v::l).length≤s.length+1 by simp at h1 ⊢;omega) (by omega),nofun,fun x hx=>ag9 (h2 x (ahA _ hx)) (by omega)⟩
theorem oV (n:Int):Le (.aQ [.agg [.str [],.str [],.str [],.str [],.str [],.int .i64 0,.int .i64 0,.int .i64 0,.slice 0 true [] none],.int .i64 n]) (.aQ [.agg bF.cs,.int .i64 n]):=by
 have h9:Le (.slice 0 true [] none) (.slice 2 true [] none):=Le.nil _ _ _
 refine Le.Ui ?_ (Le.refl _)
 exact Le.agg ⟨Le.refl _,Le.refl _,Le.refl _,Le.refl _,Le.refl _,Le.refl _,Le.refl _,Le.refl _,h9,trivial⟩
section
variable {ls r1 r2 r3 r4 r5 r6 r7 r8:List (List UInt8)} {z1 z2 z3 z4 z5:List UInt8} {z6 z7 z8:Int}
theorem aiM (h1:nN nM ls=none):rdA ls=none:=by unfold rdA;rw[h1];rfl
theorem aiN (h1:nN nM ls=some (z1,r1))(h2:nN gJ r1=none):rdA ls=none:=by unfold rdA;simp only[h1,h2,adf,apd]
theorem aiO (h1:nN nM ls=some (z1,r1))(h2:nN gJ r1=some (z2,r2))(h3:nN iy r2=none):rdA ls=none:=by unfold rdA;simp only[h1,h2,h3,adf,apd]
theorem aiP (h1:nN nM ls=some (z1,r1))(h2:nN gJ r1=some (z2,r2))(h3:nN iy r2=some (z3,r3))(h4:nN ji r3=none):rdA ls=none:=by unfold rdA;simp only[h1,h2,h3,h4,adf,apd]
theorem aiQ (h1:nN nM ls=some (z1,r1))(h2:nN gJ r1=some (z2,r2))(h3:nN iy r2=some (z3,r3))(h4:nN ji r3=some (z4,r4))(h5:nN jT r4=none):rdA ls=none:=by unfold rdA;simp only[h1,h2,h3,h4,h5,adf,apd]
theorem aiR (h1:nN nM ls=some (z1,r1))(h2:nN gJ r1=some (z2,r2))(h3:nN iy r2=some (z3,r3))(h4:nN ji r3=some (z4,r4))(h5:nN jT r4=some (z5,r5))(h6:Cm kW r5=none):rdA ls=none:=by
 unfold rdA;simp only[h1,h2,h3,h4,h5,h6,adf,apd]
theorem aiS (h1:nN nM ls=some (z1,r1))(h2:nN gJ r1=some (z2,r2))(h3:nN iy r2=some (z3,r3))(h4:nN ji r3=some (z4,r4))(h5:nN jT r4=some (z5,r5))(h6:Cm kW r5=some (z6,r6))(h7:Cm mQ r6=none):rdA ls=none:=by
 unfold rdA;simp only[h1,h2,h3,h4,h5,h6,h7,adf,apd]
theorem aiT (h1:nN nM ls=some (z1,r1))(h2:nN gJ r1=some (z2,r2))(h3:nN iy r2=some (z3,r3))(h4:nN ji r3=some (z4,r4))(h5:nN jT r4=some (z5,r5))(h6:Cm kW r5=some (z6,r6))(h7:Cm mQ r6=some (z7,r7))(h8:Cm ql r7=none):rdA ls=none:=by
 unfold rdA;simp only[h1,h2,h3,h4,h5,h6,h7,h8,adf,apd]
theorem aiU (h1:nN nM ls=some (z1,r1))(h2:nN gJ r1=some (z2,r2))(h3:nN iy r2=some (z3,r3))(h4:nN ji r3=some (z4,r4))(h5:nN jT r4=some (z5,r5))(h6:Cm kW r5=some (z6,r6))(h7:Cm mQ r6=some (z7,r7))(h8:Cm ql r7=some (z8,r8)):
  rdA ls=(zo r8.length r8 []).map fun l=>⟨z1,z2,z3,z4,z5,z6,z7,z8,l.isEmpty,l⟩:=by
 unfold rdA;simp only[h1,h2,h3,h4,h5,h6,h7,h8,adf]
end
theorem lG {s:List UInt8}(hs:s.length≤4096)(h:rdA (bH 10 [] s)=none):jF s=(bF,4):=by
 unfold jF;rw[if_neg (by simp;omega),h]
theorem afN {s:List UInt8}{a:As}(hs:s.length≤4096)(h:rdA (bH 10 [] s)=some a)(h1:((dX a).2 == 0)=false):jF s=(bF,4):=by
 unfold jF;rw[if_neg (by simp;omega),h]
 simp only[h1,akD];rfl
theorem afO {s:List UInt8}{a:As}(hs:s.length≤4096)(h:rdA (bH 10 [] s)=some a)(h1:((dX a).1 == s)=false):jF s=(bF,4):=by
 unfold jF;rw[if_neg (by simp;omega),h]
 simp only[h1,Bool.and_false];rfl
theorem afP {s:List UInt8}{a:As}(hs:s.length≤4096)(h:rdA (bH 10 [] s)=some a)(h0:((dX a).2 == 0)=true)(h1:((dX a).1 == s)=true):jF s=(a,0):=by
 unfold jF;rw[if_neg (by simp;omega),h]
 simp only[h0,h1,Bool.and_self,↓reduceIte]
theorem Ul {ls:List (List UInt8)}{acc:List At}(h:1<ls.length)(ht:nxA ls=none):zo ls.length ls acc=none:=by
 obtain⟨n,hn⟩:∃n,ls.length=n+1:=⟨ls.length - 1,by omega⟩
 rw[hn,RF h,ht];rfl
theorem aiV {ls:List (List UInt8)}{acc:List At}{q:At × List (List UInt8)}(h:1<ls.length)(hq:ls.length=q.2.length+1)(ht:nxA ls=some q):zo ls.length ls acc=zo q.2.length q.2 (acc++[q.1]):=by
 rw[hq,RF h,ht];rfl
theorem aiW (a b:Bool):a=false∨(a=true∧b=false)∨(a=true∧b=true):=by cases a <;> cases b <;> simp
theorem anP {n:Nat}(h:n≤1):decide ((n:Int)>1)=false:=decide_eq_false (by omega)
theorem aiX (M:Nat→Nat→Prop)(γ:Nat→Option G)(w:World):Rep M γ w (.iface 83 (.agg [])) (.iface 83 l7):=
 .iface (.agg (cs:=[]) rfl (fun i v hv=>by simp at hv) fun i d v hd hv=>by simp at hd)
theorem WV {α:Type}{l:List (Nat × α)}{k:Nat}{x:α}(h:lk l k=some x):k<fresh l:=by
 rcases apG k (fresh l) with h2|h2
 ·exact h2
 ·rw[U2 l k h2] at h;cases h
theorem fA (h:24<Tryz.prog.types.size):(Tryz.prog.types[24]'h).size=9:=by kernel_rfl
theorem anQ (h:27<Tryz.prog.types.size):(Tryz.prog.types[27]'h).size=1:=by kernel_rfl
theorem e40:((4:Int) == 0)=false:=by decide
theorem anR {n:Nat}(h:decide ((n:Int)>1)=true):1<n:=by simp at h;omega
theorem anS {n:Nat}(h:decide ((n:Int)>1)=false):¬ 1<n:=by simp at h;omega
def jw (s:List UInt8):D:= .aQ [.agg (jF s).1.cs,.int .i64 (jF s).2]
end Go.Proofs
namespace Go.Proofs
open Go Go.Id
set_option maxHeartbeats 4000000
theorem lN {s:List UInt8}(hX:jF s=(bF,4)){gc:Code}{r0:Nat}{X9:Array Oper}(gb:Tryz.f48.body=some (.seq (.region r0 X9 false) gc)){st:St}{cs0 cs1:List D}
  (h0:lk st.σ 0=some (.box 24 cs0)) (hl0:cs0.length=9) (h1:lk st.σ 1=some (.box 27 cs1)) (hl1:cs1.length=1) (h2:st.get 2= .ref 0 0) (h3:st.get 3= .ref 1 0):
  ∃u u' x xv,amK Pr Tryz.f13 17 2 gc [.ref 0 0,.ref 1 0] (jw s) (.panic [{ v:= .iface 83 l7,recovered:=false }]) st u u' x xv:=by
 have hv:jw s= .aQ [.agg bF.cs,.int .i64 4]:=by unfold jw;rw[hX]
 rw[hv]
 have f0:=WV h0
 have f1:=WV h1
 have hd0:List.drop 9 cs0=[]:=akV (by omega)
 have hd1:List.drop 1 cs1=[]:=akV (by omega)
 have e0:(0=fresh st.σ)=False:=eq_false (by omega)
 have e1:(1=fresh st.σ)=False:=eq_false (by omega)
 have e2:(fresh st.σ=0)=False:=eq_false (by omega)
 have e3:(fresh st.σ=1)=False:=eq_false (by omega)
 refine⟨_,_,.iface 83 (.agg []),.iface 83 l7,.yes _,.inr ⟨rfl,rfl⟩,aiX,?_⟩
 cases gb
 simp +decide only[aT,TF,EV,ag1,aj9,Nat.reduceAdd,↓reduceIte,Int.reduceToNat]
 refine WP.sr [0,1,2,7] (by kernel_rfl) fun K hK=>?_
 simp +decide only[TF,EV,↓reduceIte,Int.reduceToNat]
 refine hK _ _ ?_
 clear hK K
 refine WP.cond (b:=true) rfl (fun _=>?_) (fun q1=>by cases q1)
 refine WP.seq ?_
 refine WP.sr [0,1,2,4] (by kernel_rfl) fun K hK=>?_
 simp +decide only[TF,EV,e0,e1,e2,e3,↓reduceIte,Int.reduceToNat]
 refine hK _ _ ?_
 clear hK K
 refine WP.sr [0,1,2,14] (by kernel_rfl) fun K hK=>?_
 simp +decide only[TF,EV,↓reduceIte,Int.reduceToNat]
 refine hK _ _ ?_
 clear hK K
 refine WP.cond (b:=false) rfl (fun q1=>by cases q1) (fun _=>?_)
 refine WP.skip ?_
 show WP _ _ _ _ _ _
 refine WP.sr [0,1] (by kernel_rfl) fun K hK=>?_
 simp +decide only[TF,EV,PS,h0,hl0,hd0,e0,e1,e2,e3,↓reduceIte,Int.reduceToNat]
 refine hK _ _ ?_
 clear hK K
 refine WP.region (by kernel_rfl) fun K hK=>?_
 simp +decide only[TF,EV,PS,h1,hl1,hd1,e0,e1,e2,e3,↓reduceIte,Int.reduceToNat]
 refine hK _ _ ⟨.inl rfl,_,?_,oV 4⟩
 have hres:Tryz.f13.results.toList=[.cell 2 24,.cell 3 27]:=by kernel_rfl
 have ha:j_ Tryz.prog 27=some false:=by kernel_rfl
 have g2:∀ σ,St.get ⟨st.F,σ⟩ 2= .ref 0 0:=fun _=>h2
 have g3:∀ σ,St.get ⟨st.F,σ⟩ 3= .ref 1 0:=fun _=>h3
 simp +decide only[resD,hres,Fq,KG,dY,bT,g2,g3,ha,TF,EV,lk,dl,fA,anQ,adf,aiD,↓reduceIte]
end Go.Proofs
