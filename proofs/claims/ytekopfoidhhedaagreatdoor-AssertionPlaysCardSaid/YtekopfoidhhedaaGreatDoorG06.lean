import Derived.Test.YtekopfoidhhedaaGreatDoorG05
import Derived.RowKit3
import Derived.RangeFuncLeaves
set_option linter.unusedVariables false
set_option linter.unusedSimpArgs false
set_option linter.unnecessarySimpa false
namespace Go.Id
open Go
theorem KE {t:Nat}:∀(l:List (Oper × bJ)) (j k:Nat) (F:Nat→D) (o:Oper) (r:bJ),l[j]?=some (o,r)→o.dst=some t→jm (fun i=>decide (i<k+j+1)) k l F t=r.d
 | [],_,_,_,_,_,h,_=>by simp at h
 |(o',r')::l,0,k,F,o,r,h,hd=>by
  simp only[alB,abr,apM] at h
  obtain⟨rfl,rfl⟩:=h
  simp only[jm]
  rw[oK _ _ _ (fun i hi=>by simp;omega),if_pos (by simp)]
  simp[oh,hd,upd]
 |(o',r')::l,j+1,k,F,o,r,h,hd=>by
  simp only[jm]
  rw[if_pos (by simp;omega)]
  have:=KE l j (k+1) (oh F o'.dst r'.d) o r (by simpa using h) hd
  rw[show k+(j+1)+1=k+1+j+1 from by omega]
  exact this
theorem foldσ_last {b:Nat}{blk:bf}:∀(l:List (Oper × bJ)) (j k:Nat) (σ:Nat→Option bf) (o:Oper) (r:bJ),l[j]?=some (o,r)→lk r.r.ws b=some blk→foldσ (fun i=>decide (i<k+j+1)) k l σ b=some blk
 | [],_,_,_,_,_,h,_=>by simp at h
 |(o',r')::l,0,k,σ,o,r,h,hd=>by
  simp only[alB,abr,apM] at h
  obtain⟨rfl,rfl⟩:=h
  simp only[foldσ]
  rw[foldσ_none _ _ _ (fun i hi=>by simp;omega),if_pos (by simp)]
  simp[laid,hd]
 |(o',r')::l,j+1,k,σ,o,r,h,hd=>by
  simp only[foldσ]
  rw[if_pos (by simp;omega)]
  have:=foldσ_last l j (k+1) (laid σ r'.r.ws) o r (by simpa using h) hd
  rw[show k+(j+1)+1=k+1+j+1 from by omega]
  exact this
structure amu (ops:Array Oper) (z:List (Oper × bJ)) (A:Nat→Nat→Bool):Prop where
 edges:∀j o,ops[j]?=some o→∀e∈o.after,Region.binds .any e=true→e.on<j
 anc:∀j o i,ops[j]?=some o→i<j→A i j=true→∃e∈o.after,Region.binds .any e=true∧(e.on=i∨(i<e.on∧A i e.on=true))
 indep:∀i j oi ri oj rj,i<j→z[i]?=some (oi,ri)→z[j]?=some (oj,rj)→A i j=false→xW ops oi ri oj rj=true
theorem ZB {ops:Array Oper}{rs:List bJ}(h:nR ops rs=true):amu ops (ops.toList.zip rs) (fun i j=>((Region.before ops).getD j 0).testBit i):=by
 unfold nR at h
 simp only[ait,ami] at h
 obtain⟨⟨h1,h2⟩,h3⟩:=h
 refine⟨fun j o hj e he hb=>?_,fun j o i hj hij hA=>?_,fun i j oi ri oj rj hij hi hj hA=>?_⟩
 ·have:=h1 (o,j) (by rw[aoD];simpa using hj)
  have:=(Array.all_eq_true'.1 this) e he
  simpa [hb] using this
 ·have:=h2 (o,j) (by rw[aoD];simpa using hj) i (by simpa using hij)
  rw[hA] at this
  simp only[aoC,Bool.false_or,Array.any_eq_true'] at this
  obtain⟨e,he,hq⟩:=this
  simp only[ait,Bool.or_eq_true,beq_iff_eq,decide_eq_true_eq] at hq
  exact⟨e,he,hq.1,hq.2⟩
 ·have h4:=h3 ((oj,rj),j) (by rw[aoD];exact hj) ((oi,ri),i) (by rw[aoD,ag3,if_pos hij];exact hi)
  simp only[hA,Bool.false_or] at h4
  exact h4
theorem jW {ops:Array Oper}{oi oj:Oper}{ri rj:bJ}(h:xW ops oi ri oj rj=true):
  (∀t,oi.dst=some t→t ∉ rJ ops oj∧oj.dst≠some t)∧(∀t,oj.dst=some t→t ∉ rJ ops oi)∧
  (∀b,(lk ri.r.ws b).isSome=true→b ∉ rj.r.BH∧(lk rj.r.ws b).isSome=false)∧(∀b,(lk rj.r.ws b).isSome=true→b ∉ ri.r.BH):=by
 unfold xW at h
 simp only[ait] at h
 obtain⟨⟨⟨h1,h2⟩,h3⟩,h4⟩:=h
 refine⟨fun t ht=>?_,fun t ht=>?_,fun b hb=>?_,fun b hb=>?_⟩
 ·simp only[ht,ait,adh] at h1
  refine⟨by simpa using h1.1,fun e=>?_⟩
  have:=h1.2
  simp[e] at this
 ·simp only[ht,adh] at h2
  simpa using h2
 ·rw[X0,List.any_eq_true] at hb
  obtain⟨q,hq,e⟩:=hb
  have:=(ami.1 h3) q hq
  simp only[beq_iff_eq] at e
  subst e
  simp only[ait,adh] at this
  exact⟨by simpa using this.1,by rw[X0];exact this.2⟩
 ·rw[X0,List.any_eq_true] at hb
  obtain⟨q,hq,e⟩:=hb
  have:=(ami.1 h4) q hq
  simp only[beq_iff_eq] at e
  subst e
  simpa using this
section
variable {P:dF} {E:BI P} {ent:List Nat} {N:Nat}
def qB (listed:Array Bool)(i:Nat):Bool:=listed.getD i false
theorem AZ {ops:Array Oper}{o:Oper}{F F':Nat→D}(h:∀t∈rJ ops o,F' t=F t):kT ops F' o=kT ops F o:=by
 unfold kT
 cases hg:o.guard with
 |none=>rfl
 |some p=>
  obtain⟨j,want⟩:=p
  simp only
  cases hq:(ops[j]?).bind (·.dst) with
  |none=>rfl
  |some t=>simp only[h t (by simp[rJ,hg,hq])]
theorem U4 {ops:Array Oper}{o:Oper}{F F':Nat→D}(h:∀t∈rJ ops o,F' t=F t):∀x∈o.op.operands,bT F' x=bT F x:=by
 intro x hx
 cases x with
 | tmp t=>exact h t (by
   simp only[rJ,List.mem_append,List.mem_filterMap]
   exact .inr ⟨.tmp t,by simpa using hx,rfl⟩)
 | _=>rfl
theorem G7 {Fe:Fence}(hF:nP Fe){nf:Nat}{ops:Array Oper}(hd:dD N ops=true){z:List (Oper × bJ)}{A:Nat→Nat→Bool}(hz:∀(i:Nat) (o:Oper),ops[i]?=some o→∃r:bJ,z[i]?=some (o,r))(hz':∀(i:Nat) (o:Oper) (r:bJ),z[i]?=some (o,r)→ops[i]?=some o)(hB:amu ops z A)
  {F0:Nat→D} {σ0:Nat→Option bf} (hst:∀(j:Nat) (o:Oper) (r:bJ),z[j]?=some (o,r)→adD P ops (jm (fun i=>decide (i<j)) 0 z F0) (foldσ (fun i=>decide (i<j)) 0 z σ0) o r)
  (Q:Exit→Act→World→Prop) (hq:∀L,(∀i,i<ops.size→L i=true)→∀a w,Rel E ent N (jm L 0 z F0) (foldσ L 0 z σ0) a w→Q .normal a w):
  ∀(fuel:Nat) (listed:Array Bool),listed.size=ops.size→listed.toList.count false≤fuel→
   (∀(i:Nat) (o:Oper),ops[i]?=some o→qB listed i=true→∀e∈o.after,Region.binds .any e=true→qB listed e.on=true)→
   ∀a w,Rel E ent N (jm (qB listed) 0 z F0) (foldσ (qB listed) 0 z σ0) a w→wpAnyIn Fe nf P.prog .any ops Q fuel listed a w:=by
 have allL:∀(listed:Array Bool),listed.size=ops.size→listed.toList.count false=0→∀i,i<ops.size→qB listed i=true:=by
  intro listed hs hc i hi
  have hlt:i<listed.size:=by omega
  have hne:false ∉ listed.toList:=List.count_eq_zero.1 hc
  cases hv:listed[i] with
  |true=>simp[qB,ag_,hlt,hv]
  |false=>exact absurd (by rw[← hv];simp) hne
 intro fuel
 induction fuel with
 |zero=>
  intro listed hs hc _ a w hr
  have hall:=allL listed hs (by omega)
  refine⟨?_,hq _ hall a w hr⟩
  simp only[Region.ready,List.filter_eq_nil_iff,List.mem_range]
  intro i hi
  have:=hall i hi
  simp only[qB,ag_] at this
  have hlt:i<listed.size:=by omega
  simp[ag_,hlt] at this ⊢
  simp[this]
 |succ fuel ih=>
  intro listed hs hc hcl a w hr
  refine⟨fun hnone=>?_,fun j hj=>?_⟩
  ·-- all listed
   refine hq _ ?_ a w hr
   intro i hi
   induction i using Nat.strongRecOn with
   | _ i ihi=>
    cases hL:qB listed i with
    |true=>rfl
    |false=>
     exfalso
     obtain⟨o,ho⟩:∃o,ops[i]?=some o:=⟨ops[i],adr hi⟩
     have:i∈Region.ready .any ops listed:=by
      simp only[Region.ready,ak1,List.mem_range]
      refine⟨hi,?_⟩
      have hlt:i<listed.size:=by omega
      have hL':listed.getD i true=false:=by
       simp only[qB,ag_,adr hlt,alb] at hL ⊢
       exact hL
      simp only[hL',apa,al5,ho,aiD,alb,Array.all_eq_true']
      intro e he
      cases hb:Region.binds .any e with
      |false=>rfl
      |true=>
       have hlt':=hB.edges i o ho e he hb
       have:=ihi e.on hlt' (by omega)
       simpa [qB] using this
     rw[hnone] at this
     cases this
  ·-- the next operation
   simp only[Region.ready,ak1,List.mem_range,ait,adh] at hj
   obtain⟨hjlt,hjn,hje⟩:=hj
   obtain⟨o,ho⟩:∃o,ops[j]?=some o:=⟨ops[j],adr hjlt⟩
   obtain⟨r,hzr⟩:=hz j o ho
   have ahj:j<listed.size:=by omega
   have hjL:qB listed j=false:=by
    simp only[qB,ag_,adr ahj,alb] at hjn ⊢
    exact hjn
   simp only[ho,aiD,alb,Array.all_eq_true'] at hje
   have adF:∀e∈o.after,Region.binds .any e=true→qB listed e.on=true:=by
    intro e he hb
    have:=hje e he
    simpa [hb,qB] using this
   have amw:∀(q:Nat) oq,ops[q]?=some oq→(∀e∈oq.after,Region.binds .any e=true→qB listed e.on=true)→∀i,i<q→A i q=true→qB listed i=true:=by
    intro q
    induction q using Nat.strongRecOn with
    | _ q ihq=>
     intro oq hoq amx i hiq hA
     obtain⟨e,he,hb,hor⟩:=hB.anc q oq i hoq hiq hA
     have amy:=amx e he hb
     rcases hor with rfl | ⟨hlt,hA'⟩
     ·exact amy
     ·have heq:=hB.edges q oq hoq e he hb
      obtain⟨oe,hoe⟩:∃oe,ops[e.on]?=some oe:=by
       have:e.on<ops.size:=by have:=(ag6.1 hoq).1;omega
       exact⟨ops[e.on],adr this⟩
      exact ihq e.on heq oe hoe (hcl e.on oe hoe amy) i hlt hA'
   have before:∀i oi ri,z[i]?=some (oi,ri)→i<j→qB listed i=false→xW ops oi ri o r=true:=by
    intro i oi ri hzi hij hni
    refine hB.indep i j oi ri o r hij hzi hzr ?_
    cases hA:A i j with
    |false=>rfl
    |true=>rw[amw j o ho adF i hij hA] at hni;cases hni
   have behind:∀i oi ri,z[i]?=some (oi,ri)→j<i→qB listed i=true→xW ops o r oi ri=true:=by
    intro i oi ri hzi hij hli
    refine hB.indep j i o r oi ri hij hzr hzi ?_
    cases hA:A j i with
    |false=>rfl
    |true=>
     have:=amw i oi (hz' i oi ri hzi) (hcl i oi (hz' i oi ri hzi) hli) j hij hA
     rw[hjL] at this;cases this
   have hFr:∀t∈rJ ops o,jm (qB listed) 0 z F0 t=jm (fun i=>decide (i<j)) 0 z F0 t:=by
    intro t ht
    refine mX z 0 _ _ (fun i oi ri hzi hdi=>?_) rfl
    simp only[ade]
    rcases aps i j with h|h|h
    ·rw[decide_eq_true h]
     cases hL:qB listed i with
     |true=>rfl
     |false=>exact absurd ht ((jW (before i oi ri hzi h hL)).1 t hdi).1
    ·subst h;rw[hjL];simp
    ·rw[decide_eq_false (by omega)]
     cases hL:qB listed i with
     |false=>rfl
     |true=>exact absurd ht ((jW (behind i oi ri hzi h hL)).2.1 t hdi)
   have hσr:∀b∈r.r.BH,foldσ (qB listed) 0 z σ0 b=foldσ (fun i=>decide (i<j)) 0 z σ0 b:=by
    intro b hb
    refine foldσ_agree z 0 _ _ (fun i oi ri hzi hdi=>?_) rfl
    simp only[ade]
    rcases aps i j with h|h|h
    ·rw[decide_eq_true h]
     cases hL:qB listed i with
     |true=>rfl
     |false=>exact absurd hb ((jW (before i oi ri hzi h hL)).2.2.1 b hdi).1
    ·subst h;rw[hjL];simp
    ·rw[decide_eq_false (by omega)]
     cases hL:qB listed i with
     |false=>rfl
     |true=>exact absurd hb ((jW (behind i oi ri hzi h hL)).2.2.2 b hdi)
   have hset:∀i,qB (listed.setIfInBounds j true) i=if i=j then true else qB listed i:=by
    intro i
    simp only[qB,ag_,ao2]
    by_cases e:j=i
    ·subst e;simp[ahj]
    ·rw[if_neg e,if_neg (fun q=>e q.symm)]
   have hcount:(listed.setIfInBounds j true).toList.count false≤fuel:=by
    have hlt:j<listed.toList.length:=by simpa using ahj
    have hv:listed.toList[j]=false:=by
     simp only[qB,ag_,adr ahj,alb] at hjL
     simpa using hjL
    rw[Array.toList_setIfInBounds,List.count_set hlt,hv]
    have hpos:0<listed.toList.count false:=List.count_pos_iff.2 (by rw[← hv];exact adb hlt)
    rw[if_pos (by rfl),if_neg (by decide)]
    omega
   have ajz:oh (jm (qB listed) 0 z F0) o.dst r.d=jm (qB (listed.setIfInBounds j true)) 0 z F0:=by
    funext t
    by_cases hdt:o.dst=some t
    ·have h1:oh (jm (qB listed) 0 z F0) o.dst r.d t=r.d:=by simp[oh,hdt,upd]
     rw[h1,← KE z j 0 F0 o r hzr hdt]
     refine (mX z 0 _ _ (fun i oi ri hzi hdi=>?_) rfl).symm
     simp only[ade,hset]
     rcases aps i j with h|h|h
     ·rw[if_neg (by omega),decide_eq_true (by omega)]
      cases hL:qB listed i with
      |true=>rfl
      |false=>exact absurd hdt ((jW (before i oi ri hzi h hL)).1 t hdi).2
     ·subst h;simp
     ·rw[if_neg (by omega),decide_eq_false (by omega)]
      cases hL:qB listed i with
      |false=>rfl
      |true=>exact absurd hdi ((jW (behind i oi ri hzi h hL)).1 t hdt).2
    ·have h1:oh (jm (qB listed) 0 z F0) o.dst r.d t=jm (qB listed) 0 z F0 t:=by
      cases hod:o.dst with
      |none=>rfl
      |some t'=>simp only[oh,upd];rw[if_neg (fun q=>hdt (by rw[hod,q]))]
     rw[h1]
     refine mX z 0 _ _ (fun i oi ri hzi hdi=>?_) rfl
     simp only[ade,hset]
     by_cases e:i=j
     ·subst e;rw[hzr] at hzi;cases hzi;exact absurd hdi hdt
     ·rw[if_neg e]
   have hnewσ:laid (foldσ (qB listed) 0 z σ0) r.r.ws=foldσ (qB (listed.setIfInBounds j true)) 0 z σ0:=by
    funext b
    cases hlk:lk r.r.ws b with
    |some blk=>
     have h1:laid (foldσ (qB listed) 0 z σ0) r.r.ws b=some blk:=by simp[laid,hlk]
     rw[h1,← foldσ_last z j 0 σ0 o r hzr hlk]
     refine (foldσ_agree z 0 _ _ (fun i oi ri hzi hdi=>?_) rfl).symm
     simp only[ade,hset]
     rcases aps i j with h|h|h
     ·rw[if_neg (by omega),decide_eq_true (by omega)]
      cases hL:qB listed i with
      |true=>rfl
      |false=>
       have:=((jW (before i oi ri hzi h hL)).2.2.1 b hdi).2
       rw[hlk] at this;cases this
     ·subst h;simp
     ·rw[if_neg (by omega),decide_eq_false (by omega)]
      cases hL:qB listed i with
      |false=>rfl
      |true=>
       have:=((jW (behind i oi ri hzi h hL)).2.2.1 b (by simp[hlk])).2
       rw[this] at hdi;cases hdi
    |none=>
     have h1:laid (foldσ (qB listed) 0 z σ0) r.r.ws b=foldσ (qB listed) 0 z σ0 b:=by simp[laid,hlk]
     rw[h1]
     refine foldσ_agree z 0 _ _ (fun i oi ri hzi hdi=>?_) rfl
     simp only[ade,hset]
     by_cases e:i=j
     ·subst e;rw[hzr] at hzi;cases hzi;simp[hlk] at hdi
     ·rw[if_neg e]
   have hcl':∀i oi,ops[i]?=some oi→qB (listed.setIfInBounds j true) i=true→∀e∈oi.after,Region.binds .any e=true→qB (listed.setIfInBounds j true) e.on=true:=by
    intro i oi hoi hL e he hb
    rw[hset] at hL ⊢
    split
    ·rfl
    ·split at hL
     ·rename_i h;subst h;rw[ho] at hoi;cases hoi;exact adF e he hb
     ·exact hcl i oi hoi hL e he hb
   have hs':(listed.setIfInBounds j true).size=ops.size:=by simp[hs]
   have hmem:o∈ops:=ajY ho
   unfold wpOpIn
   simp only[ho]
   rcases hst j o r hzr with⟨hw,hout⟩ | ⟨hw,hdj,hrj⟩
   ·rw[← AZ hFr] at hw
    rw[qV hr hw,if_pos rfl]
    have amA:=hout.congr (ρ':=bT (jm (qB listed) 0 z F0)) (σ':=foldσ (qB listed) 0 z σ0) (U4 hFr) hσr
    refine amA.wp hF hr (dM hd hmem) _ _ (fun v w' hr'=>ih _ hs' hcount hcl' _ w' ?_)
    rw[← ajz,← hnewσ];exact hr'
   ·rw[← AZ hFr] at hw
    rw[qV hr hw,if_neg (by simp)]
    refine⟨fun f _=>hF.fn f,ih _ hs' hcount hcl' _ _ ?_⟩
    rw[← ajz,← hnewσ,hdj,hrj,U3]
    exact hr.skip (dM hd hmem)
theorem Rel.drew {F:Nat→D}{σ:Nat→Option bf}{a:Act}{w:World}(h:Rel E ent N F σ a w):Rel E ent N F σ a w.drew:=by
 obtain⟨γ,h1,h2,h3,h4,h5,h6⟩:=h
 have hv:aW (aA E.M γ) γ w (aA E.M γ) γ w.drew:=⟨rfl,rfl,rfl,ag4 _,fun _ _ _ _ h=>h,fun _ _ h _=>h,fun _ g h=>⟨g,h,G.le_refl g⟩,fun _ _ _=>rfl,fun b g _ h h' _=>⟨b,g,h,h'⟩⟩
 refine⟨γ,h1,⟨fun b=>?_,h2.dist,h2.outer,h2.apart,E.M.stable _ _ h2.inv (fun _ _=>rfl),h2.low,h2.big⟩,h3.trans hv,h4,h5.dA hv,fun t=>(h6 t).dA hv⟩
 rcases h2.names b with⟨blk,g,q1,q2,q3⟩|q
 ·exact .inl ⟨blk,g,q1,q2,q3.keep hv (fun _ _=>rfl)⟩
 ·exact .inr q
theorem JC {Fe:Fence}(hF:nP Fe){nf:Nat}{id:Nat}{ops:Array Oper}(hm:P.prog.follows .mixedOrders=true)(hd:dD N ops=true){Q:Exit→Act→World→Prop}{st st':St}{rs:List bJ}(h:Chain P ops ops.toList st rs st')(hb:nR ops rs=true)
  {a:Act} {w:World} (hr:Rel E ent N st.get (lk st.σ) a w) (hq:∀a' w',Rel E ent N st'.get (lk st'.σ) a' w'→Q .normal a' w'):(Code.region id ops true).wpIn Fe nf P.prog Q a w:=by
 obtain⟨h1,h2,h3⟩:=h.steps
 refine wpIn_region_any hm ?_
 refine G7 hF (E:=E) (ent:=ent) hd (z:=ops.toList.zip rs) (fun i o ho=>?_) (fun i o r hi=>?_) (ZB hb) (F0:=st.get) (σ0:=lk st.σ) (fun j o r hj=>?_) Q (fun L hL a w hr'=>hq a w ?_) ops.size _ (by simp) (by simp) (fun i o ho hL=>?_) a _ ?_
 ·have hlt:i<rs.length:=by have:=(ag6.1 ho).1;simp at h1;omega
  exact⟨rs[i],by rw[anz];exact⟨by simpa using ho,abt hlt⟩⟩
 ·rw[anz] at hi;simpa using hi.1
 ·have:=h3 0 j o r hj
  simpa using this
 ·obtain⟨q1,q2⟩:=h2 0 (fun _=>true) (fun _ _=>rfl)
  rw[← q1,← q2]
  have hlen:∀i o r,(ops.toList.zip rs)[i]?=some (o,r)→i<ops.size:=fun i o r hi=>by
   rw[anz] at hi
   have:=(acR.1 hi.1).1
   simpa using this
  have e1:jm L 0 (ops.toList.zip rs) st.get=jm (fun _=>true) 0 (ops.toList.zip rs) st.get:=by
   funext t;exact mX _ 0 _ _ (fun i o r hi _=>by simpa using hL i (hlen i o r hi)) rfl
  have e2:foldσ L 0 (ops.toList.zip rs) (lk st.σ)=foldσ (fun _=>true) 0 (ops.toList.zip rs) (lk st.σ):=by
   funext t;exact foldσ_agree _ 0 _ _ (fun i o r hi _=>by simpa using hL i (hlen i o r hi)) rfl
  rw[← e1,← e2];exact hr'
 ·exfalso
  simp only[qB,ag_] at hL
  rw[Array.getElem?_replicate] at hL
  split at hL <;> simp at hL
 ·have hno:∀i,0≤i→qB (Array.replicate ops.size false) i=false:=by
   intro i _
   simp only[qB,ag_,Array.getElem?_replicate]
   split <;> rfl
  rw[oK _ _ _ hno,foldσ_none _ _ _ hno]
  exact hr.drew
end
end Go.Id
namespace Go.Id
open Go
def aj (P:dF)(fo:D)(args:List D)(σ:List (Nat × bf))(K:D→Rec→Prop):Prop:=
 ∃k first cap ins d r,fo= .fn (.func k) first cap∧aF P k ((first++args++cap).map fg) ins d r.ws∧
  (∀b blk,lk ins b=some blk→lk σ b=some blk∧aB (fun i=>(lk ins i).isSome=true) blk)∧(∀b,(lk r.ws b).isSome=true→(lk ins b).isSome=true∨(lk σ b=none∧b∈r.BH))∧
  (∀d∈(first++args++cap).map fg,bY (fun i=>(lk ins i).isSome=true) d)∧(∀b,(lk ins b).isSome=true→b∈r.BH)∧K d r
def Fp (u:Bool)(n:Nat)(K:D→Rec→Prop):Option Eff→Prop
 |some f=>f.side∧K f.val ⟨if u=true then n::f.BH else f.BH,f.ws⟩
 |none=>False
def OpK (P:dF)(o:Op)(st:St)(K:D→Rec→Prop):Prop:=
 match o with
 | .call { callee:= .value f,args,.. }=>aj P (bT st.get f) (args.toList.map (bT st.get)) st.σ K
 | .load t (.global g)=>Fp false (fresh st.σ) K (dY P.prog (sN P (bT st.get)) (lk st.σ) (fresh st.σ) (.load t (.global g)))
 | .indexAddr t (.global g) i=>Fp false (fresh st.σ) K (dY P.prog (sN P (bT st.get)) (lk st.σ) (fresh st.σ) (.indexAddr t (.global g) i))
 | .buildSlice t n ps=>Fp (P.lit t n ps) (fresh st.σ) K (if P.lit t n ps=true then opA P.prog (bT st.get) (fresh st.σ) t n ps else dY P.prog (bT st.get) (lk st.σ) (fresh st.σ) (.buildSlice t n ps))
 |o=>Fp (Sv o) (fresh st.σ) K (dY P.prog (bT st.get) (lk st.σ) (fresh st.σ) o)
theorem Fp.mono {u:Bool}{n:Nat}{K K':D→Rec→Prop}(hk:∀d r,K d r→K' d r){x:Option Eff}(h:Fp u n K x):Fp u n K' x:=by
 cases x with
 |none=>exact h
 |some f=>exact⟨h.1,hk _ _ h.2⟩
def ah (P:dF)(ops:Array Oper):List Oper→St→List bJ→(St→List bJ→Prop)→Prop
 | [],st,acc,K=>K st acc
 |o::os,st,acc,K=>match kT ops st.get o with
  |some true=>OpK P o.op st fun d r=>ah P ops os ((st.put o.dst d).lay r.ws) (acc++[⟨true,d,r⟩]) K
  |some false=>ah P ops os (st.put o.dst (.aQ [])) (acc++[⟨false,.aQ [],⟨[],[]⟩⟩]) K
  |none=>False
section
variable {P:dF}
theorem OpK.out {o:Oper}{st:St}{K:D→Rec→Prop}(h:OpK P o.op st K):∃d r,CW P o (bT st.get) (lk st.σ) d r∧K d r:=by
 have plain:Fp (KD P o.op) (fresh st.σ) K (opM P (bT st.get) (lk st.σ) (fresh st.σ) o.op)→∃d r,CW P o (bT st.get) (lk st.σ) d r∧K d r:=by
  intro h
  cases hf:opM P (bT st.get) (lk st.σ) (fresh st.σ) o.op with
  |none=>rw[hf] at h;exact h.elim
  |some f=>
   rw[hf] at h
   exact⟨_,_,.inl ⟨fresh st.σ,f,fun _=>U2 _ _ (ag4 _),hf,h.1,rfl,rfl⟩,h.2⟩
 unfold OpK at h
 split at h
 ·rename_i fo args ts heq
  obtain⟨k,first,cap,ins,d,r,h1,h2,h3,h4,h5,h6,h7⟩:=h
  exact⟨d,r,.inr ⟨fo,args,ts,k,first,cap,ins,heq,h1,h2,h3,h4,h5,h6⟩,h7⟩
 ·rename_i t g heq
  refine plain ?_
  rw[heq];exact h
 ·rename_i t g i heq
  refine plain ?_
  rw[heq];exact h
 ·rename_i t n ps heq
  refine plain ?_
  rw[heq];exact h
 ·rename_i hne1 hne2 ao5 ao6
  have e:=zN P (bT st.get) (lk st.σ) (fresh st.σ) o.op (fun t n ps ho=>(ao6 t n ps ho).elim) (fun t g ho=>(hne2 t g ho).elim) (fun t g i ho=>(ao5 t g i ho).elim)
  rw[← e.1,← e.2] at h
  exact plain h
theorem ah.chain {ops:Array Oper}:∀(os:List Oper) (st:St) (acc:List bJ) (K:St→List bJ→Prop),ah P ops os st acc K→∃rs st',Chain P ops os st rs st'∧K st' (acc++rs)
 | [],st,acc,K,h=>⟨[],st,.nil st,by simpa [ah] using h⟩
 |o::os,st,acc,K,h=>by
  simp only[ah] at h
  split at h
  ·rename_i hw
   obtain⟨d,r,ho,h⟩:=OpK.out h
   obtain⟨rs,st',hc,hk⟩:=ah.chain os _ _ _ h
   exact⟨_,st',.ran hw ho hc,by simpa using hk⟩
  ·rename_i hw
   obtain⟨rs,st',hc,hk⟩:=ah.chain os _ _ _ h
   exact⟨_,st',.skip hw hc,by simpa using hk⟩
  ·exact h.elim
theorem OpK.mono {o:Op}{st:St}{K K':D→Rec→Prop}(hk:∀d r,K d r→K' d r)(h:OpK P o st K):OpK P o st K':=by
 unfold OpK at h ⊢
 split at h
 ·obtain⟨k,first,cap,ins,d,r,h1,h2,h3,h4,h5,h6,h7⟩:=h
  exact⟨k,first,cap,ins,d,r,h1,h2,h3,h4,h5,h6,hk _ _ h7⟩
 ·exact Fp.mono hk h
 ·exact Fp.mono hk h
 ·exact Fp.mono hk h
 ·exact Fp.mono hk h
theorem ah.mono {ops:Array Oper}:∀(os:List Oper) (st:St) (acc:List bJ) (K K':St→List bJ→Prop),(∀st rs,K st rs→K' st rs)→ah P ops os st acc K→ah P ops os st acc K'
 | [],st,acc,K,K',hk,h=>hk _ _ h
 |o::os,st,acc,K,K',hk,h=>by
  unfold ah at h ⊢
  cases hw:kT ops st.get o with
  |none=>rw[hw] at h;exact h.elim
  |some b=>
   rw[hw] at h
   cases b with
   |true=>exact OpK.mono (fun d r h=>ah.mono os _ _ _ _ hk h) h
   |false=>exact ah.mono os _ _ _ _ hk h
theorem ah.append {ops:Array Oper}:∀(os os':List Oper) (st:St) (acc:List bJ) (K:St→List bJ→Prop),ah P ops os st acc (fun st' acc'=>ah P ops os' st' acc' K)→ah P ops (os++os') st acc K
 | [],os',st,acc,K,h=>h
 |o::os,os',st,acc,K,h=>by
  rw[abS]
  unfold ah at h ⊢
  cases hw:kT ops st.get o with
  |none=>rw[hw] at h;exact h.elim
  |some b=>
   rw[hw] at h
   cases b with
   |true=>exact OpK.mono (fun d r h=>ah.append os os' _ _ _ h) h
   |false=>exact ah.append os os' _ _ _ h
theorem ah.take (n:Nat){ops:Array Oper}{os:List Oper}{st:St}{acc:List bJ}{K:St→List bJ→Prop}(h:∀K':St→List bJ→Prop,(∀st' acc',ah P ops (os.drop n) st' acc' K→K' st' acc')→ah P ops (os.take n) st acc K'):
  ah P ops os st acc K:=by
 have:=ah.append (P:=P) (ops:=ops) (os.take n) (os.drop n) st acc K (h _ (fun _ _ h=>h))
 rwa [aki] at this
end
def MK:Nat:=1000000
def OkF (ent:List Nat)(Fe:Fence):Prop:=nP Fe∧(Fe.round.isSome=true→MK∈ent)
theorem OkF.wide (ent:List Nat):OkF ent Fence.wide:=⟨.wide,nofun⟩
def WP (P:dF)(ent:List Nat)(N:Nat)(c:Code)(Q:Exit→St→Prop)(st:St):Prop:=
 ∀(Fe:Fence) (nf:Nat),OkF ent Fe→∀(E:BI P) (a:Act) (w:World),Rel E ent N st.get (lk st.σ) a w→c.wpIn Fe nf P.prog (fun e a' w'=>∃st',Q e st'∧Rel E ent N st'.get (lk st'.σ) a' w') a w
def CX (next:St→Prop)(Q:Exit→St→Prop):Exit→St→Prop
 | .normal,st=>next st
 |e,st=>Q e st
def X3 (id:Nat)(Q:Exit→St→Prop):Exit→St→Prop
 | .exit i,st=>if i=id then Q .normal st else Q (.exit i) st
 |e,st=>Q e st
section
variable {P:dF} {ent:List Nat} {N:Nat} {Q:Exit→St→Prop} {st:St}
theorem WP.seq {x y:Code}(h:WP P ent N x (CX (fun st'=>WP P ent N y Q st') Q) st):WP P ent N (.seq x y) Q st:=by
 intro Fe nf hF E a w hr
 refine wpIn_seq (wpIn_mono (h Fe nf hF E a w hr) ?_)
 rintro e a' w' ⟨st',hq,hr'⟩
 cases e with
 |normal=>exact hq Fe nf hF E a' w' hr'
 | _=>exact⟨st',hq,hr'⟩
theorem WP.skip (h:Q .normal st):WP P ent N .skip Q st:=fun Fe nf hF E a w hr=>wpIn_skip ⟨st,h,hr⟩
theorem WP.exit {id:Nat}(h:Q (.exit id) st):WP P ent N (.exit id) Q st:=fun Fe nf hF E a w hr=>wpIn_exit ⟨st,h,hr⟩
theorem WP.ret (h:Q .ret st):WP P ent N .ret Q st:=fun Fe nf hF E a w hr=>wpIn_ret ⟨st,h,hr⟩
theorem WP.cond {c:Operand}{x y:Code}{b:Bool}(hc:bT st.get c= .bool b)(ht:b=true→WP P ent N x Q st)(hf:b=false→WP P ent N y Q st):WP P ent N (.cond c x y) Q st:=by
 intro Fe nf hF E a w hr
 have hr0:=hr
 obtain⟨γ,h1,h2,h3,h4,h5,h6⟩:=hr
 have he:=iY h6 c
 rw[hc] at he
 exact wpIn_cond_split (pI he) (fun e=>ht e Fe nf hF E a w hr0) (fun e=>hf e Fe nf hF E a w hr0)
theorem WP.block {id:Nat}{c:Code}(h:WP P ent N c (X3 id Q) st):WP P ent N (.block id c) Q st:=by
 intro Fe nf hF E a w hr
 refine wpIn_block (wpIn_mono (h Fe nf hF E a w hr) ?_)
 rintro e a' w' ⟨st',hq,hr'⟩
 cases e with
 |exit i=>
  simp only[Exit.inBlock,X3] at hq ⊢
  split <;> rename_i hi
  ·rw[if_pos hi] at hq;exact⟨st',hq,hr'⟩
  ·rw[if_neg hi] at hq;exact⟨st',hq,hr'⟩
 | _=>exact⟨st',hq,hr'⟩
theorem WP.region {id:Nat}{ops:Array Oper}(hd:dD N ops=true)(h:∀K:St→List bJ→Prop,(∀st' rs,Q .normal st'→K st' rs)→ah P ops ops.toList st [] K):WP P ent N (.region id ops false) Q st:=by
 intro Fe nf hF E a w hr
 obtain⟨rs,st',hc,hk⟩:=ah.chain _ _ _ _ (h (fun st' _=>Q .normal st') (fun _ _ h=>h))
 exact JB hF.1 hd hc hr (fun a' w' hr'=>⟨st',hk,hr'⟩)
theorem WP.drawn {id:Nat}{ops:Array Oper}(hm:P.prog.follows .mixedOrders=true)(hd:dD N ops=true)(h:∀K:St→List bJ→Prop,(∀st' rs,nR ops rs=true→Q .normal st'→K st' rs)→ah P ops ops.toList st [] K):
  WP P ent N (.region id ops true) Q st:=by
 intro Fe nf hF E a w hr
 obtain⟨rs,st',hc,hk⟩:=ah.chain _ _ _ _ (h (fun st' rs=>nR ops rs=true∧Q .normal st') (fun _ _ h h'=>⟨h,h'⟩))
 exact JC hF.1 hm hd hc (by simpa using hk.1) hr (fun a' w' hr'=>⟨st',hk.2,hr'⟩)
theorem WP.mono {c:Code}{Q':Exit→St→Prop}(h:WP P ent N c Q st)(hq:∀e st,Q e st→Q' e st):WP P ent N c Q' st:=
 fun Fe nf hF E a w hr=>wpIn_mono (h Fe nf hF E a w hr) (fun e a w ⟨st',q,r⟩=>⟨st',hq _ _ q,r⟩)
def Weak (ent:List Nat)(st st':St):Prop:=∀(P:dF) (E:BI P) (N:Nat) (a:Act) (w:World),Rel E ent N st.get (lk st.σ) a w→Rel E ent N st'.get (lk st'.σ) a w
theorem Weak.refl (st:St):Weak ent st st:=fun _ _ _ _ _ h=>h
theorem Weak.trans {a b c:St}(h:Weak ent a b)(k:Weak ent b c):Weak ent a c:=fun P E N x w hr=>k P E N x w (h P E N x w hr)
theorem WP.weak {c:Code}{st':St}(hw:Weak ent st st')(h:WP P ent N c Q st'):WP P ent N c Q st:=fun Fe nf hF E a w hr=>h Fe nf hF E a w (hw P E N a w hr)
def Le (d d':D):Prop:=∀(M:Nat→Nat→Prop) (γ:Nat→Option G) (w:World) (v:Value),Rep M γ w d v→Rep M γ w d' v
theorem Le.refl (d:D):Le d d:=fun _ _ _ _ h=>h
theorem Le.junk (d:D):Le d .junk:=fun _ _ _ v _=> .junk v
theorem Le.fg (d:D):Le d (fg d):=fun _ _ _ _ h=>adB h
theorem Le.trans {a b c:D}(h:Le a b)(k:Le b c):Le a c:=fun M γ w v hr=>k M γ w v (h M γ w v hr)
theorem Le.nil (sz sz':Nat)(aI:Option Nat):Le (.slice sz true [] aI) (.slice sz' true [] aI):=fun M γ w v h=>by
 cases h with
 |nilslice ht=>exact .nilslice ht
theorem KF {st st':St}(h:∀p∈st'.F,Le (st.get p.1) p.2)(t:Nat):Le (st.get t) (st'.get t):=by
 unfold St.get
 have:∀l:List (Nat × D),(∀p∈l,Le (st.get p.1) p.2)→Le ((lk st.F t).getD .junk) ((lk l t).getD .junk):=by
  intro l
  induction l with
  |nil=>intro _;exact Le.junk _
  |cons p l ih=>
   obtain⟨k,d⟩:=p
   intro hl
   simp only[lk]
   split
   ·rename_i e;subst e;exact hl (t,d) (by simp)
   ·exact ih (fun p hp=>hl p (by simp[hp]))
 exact this st'.F h
theorem Weak.frame {F':List (Nat × D)}(h:∀p∈F',Le (st.get p.1) p.2):Weak ent st ⟨F',st.σ⟩:=by
 rintro P E N a w ⟨γ,h1,h2,h3,h4,h5,h6⟩
 exact⟨γ,h1,h2,h3,h4,h5,fun t=>KF (st':=⟨F',st.σ⟩) h t _ _ _ _ (h6 t)⟩
theorem iZ {α:Type}:∀(l:List (Nat × α)) (b:Nat) (x:α),lk l b=some x→(b,x)∈l
 | [],_,_,h=>by cases h
 |(k,v)::l,b,x,h=>by
  simp only[lk] at h
  split at h
  ·rename_i e;subst e;cases h;simp
  ·exact ahA _ (iZ l b x h)
theorem Weak.store {st':St}(h:∀p∈st'.F,Le (st.get p.1) p.2)(hs:∀p∈st'.σ,lk st.σ p.1=some p.2)(hcF:∀p∈st'.F,bY (fun i=>(lk st'.σ i).isSome=true) p.2)(hcσ:∀p∈st'.σ,aB (fun i=>(lk st'.σ i).isSome=true) p.2)
  (hent:∀b∈ent,(lk st'.σ b).isSome=true∨lk st.σ b=none):Weak ent st st':=by
 rintro P E N a w ⟨γ,h1,h2,h3,h4,h5,h6⟩
 let γ':Nat→Option G:=fun b=>if (lk st'.σ b).isSome=true then γ b else none
 have hγ:∀b g,γ' b=some g→(lk st'.σ b).isSome=true∧γ b=some g:=by
  intro b g hg
  simp only[γ'] at hg
  split at hg
  ·exact⟨by assumption,hg⟩
  ·cases hg
 have hS:∀b,(lk st'.σ b).isSome=true→γ' b=γ b:=fun b hb=>by simp only[γ',if_pos hb]
 have hM:∀B off,aA E.M γ' B off→aA E.M γ B off:=by
  rintro B off (hm | ⟨b,g,hg,hw⟩)
  ·exact .inl hm
  ·exact .inr ⟨b,g,(hγ b g hg).2,hw⟩
 refine⟨γ',h1,⟨fun b=>?_,fun b b' g g' B q1 q2 q3 q4=>h2.dist b b' g g' B (hγ _ _ q1).2 (hγ _ _ q2).2 q3 q4,h2.outer,fun b g B off q1 q2=>h2.apart b g B off (hγ _ _ q1).2 q2,h2.inv,fun b g B q1 q2=>h2.low b g B (hγ _ _ q1).2 q2,h2.big⟩,?_,h4,h5.sub (fun b g hg=>(hγ b g hg).2),fun t=>?_⟩
 ·cases hb:lk st'.σ b with
  |none=>exact .inr ⟨rfl,by simp[γ',hb]⟩
  |some blk=>
   have hm:=iZ _ _ _ hb
   obtain⟨g,q1,q2⟩:=h2.hit (hs _ hm)
   refine .inl ⟨blk,g,rfl,(hS b (by simp[hb])).trans q1,?_⟩
   have:=q2.restrict hS (hcσ _ hm)
   exact this.JU ⟨fun _ _ _ _ h=>h,fun B off h _=>hM B off h,fun _ g h=>⟨g,h,G.le_refl g⟩⟩ (fun _ _=>rfl)
 ·refine⟨h3.os,h3.tape,h3.output,h3.size,h3.cell,fun B off q1 q2=>h3.wr B off (hM B off q1) q2,fun b g hg=>?_,h3.block,fun b g B q1 q2 q3=>h3.old b g B (hγ _ _ q1).2 q2 q3⟩
  obtain⟨g',q1,q2⟩:=h3.names b g hg
  refine⟨g',?_,q2⟩
  rcases hent b (h1 b g hg) with q|q
  ·exact (hS b q).trans q1
  ·rw[h2.miss q] at q1;cases q1
 ·have hle:=KF (st':=st') h t _ _ _ _ (h6 t)
  have hcl:bY (fun i=>(lk st'.σ i).isSome=true) (st'.get t):=by
   unfold St.get
   cases hq:lk st'.F t with
   |none=>exact .junk
   |some d=>exact hcF _ (iZ _ _ _ hq)
  exact (hle.restrict hS hcl).sub hM
theorem WP.loop {X:Type}(S:X→St)(μ:X→Nat){c:Code}(h:∀x,WP P ent N c (CX (fun st'=>∃y,μ y < μ x∧Weak ent st' (S y)) Q) (S x))(x:X)(h0:Weak ent st (S x)):WP P ent N (.loop c) Q st:=by
 intro Fe nf hF E a w hr b k cs hro hb hrm
 have key:∀(n:Nat) (x:X) (a:Act) (w:World),μ x=n→Rel E ent N (S x).get (lk (S x).σ) a w→
   ∃e a' w',(∃st',Q e st'∧Rel E ent N st'.get (lk st'.σ) a' w')∧ArrivesIn (Machine.fenced P.prog Fe) P.prog (lone (b.atR a (.code c:: .inLoop c::k)) cs w) b k cs e a' w':=by
  intro n
  induction n using Nat.strongRecOn with
  | _ n ih=>
   intro x a w hn hrx
   obtain⟨e,a₁,w₁,⟨st₁,hq,hr₁⟩,harr⟩:=h x Fe nf hF E a w hrx b (.inLoop c::k) cs hro hb hrm
   cases e with
   |normal=>
    obtain⟨y,hlt,hwk⟩:=hq
    obtain⟨e₂,a₂,w₂,hq₂,harr₂⟩:=ih (μ y) (hn ▸ hlt) y a₁ w₁ rfl (hwk P E N a₁ w₁ hr₁)
    exact⟨e₂,a₂,w₂,hq₂,.of_steps (StepsIn.trans harr (.one (fenced_calm hb hrm rfl) stepR_inLoop)) harr₂⟩
   |exit id=>exact⟨_,a₁,w₁,⟨st₁,hq,hr₁⟩,.pass (x:= .inLoop c) rfl (fun _ _=> .inl (by simp)) harr⟩
   |goto l=>exact⟨_,a₁,w₁,⟨st₁,hq,hr₁⟩,.pass (x:= .inLoop c) rfl (fun _ _=> .inl (by simp)) harr⟩
   |ret=>exact⟨_,a₁,w₁,⟨st₁,hq,hr₁⟩,.pass (x:= .inLoop c) rfl (fun _ _=> .inl (by simp)) harr⟩
   |panic ch=>exact⟨_,a₁,w₁,⟨st₁,hq,hr₁⟩,.pass (x:= .inLoop c) rfl (fun _ _=> .inl (by simp)) harr⟩
   |outgrown=>exact⟨_,a₁,w₁,⟨st₁,hq,hr₁⟩,.pass (x:= .inLoop c) rfl (fun _ _=> .inl (by simp)) harr⟩
 obtain⟨e,a',w',hq,harr⟩:=key _ x a w rfl (h0 P E N a w hr)
 exact⟨e,a',w',hq,.of_steps (.one (fenced_calm hb hrm rfl) stepR_loop) harr⟩
def KG (P:Program)(st:St):ResultVar→Option D
 | .tmp t=>some (st.get t)
 | .cell t ty=>(dY P (bT st.get) (lk st.σ) 0 (.load ty (.tmp t))).map (·.val)
def Fq (P:Program)(st:St):List ResultVar→Option (List D)
 | []=>some []
 |r::rs=>(KG P st r).bind fun d=>(Fq P st rs).map (d::·)
def resD (P:Program)(fn:Func)(st:St):Option D:=
 (Fq P st fn.results.toList).map fun ds=>match ds with| [d]=>d|ds=> .aQ ds
def SK (a:Act):ResultVar→Sem Value
 | .tmp t=>pure (a.tmps.getD t undef)
 | .cell t ty=>do loadVar ty (← asAddr (a.tmps.getD t undef))
theorem U5 {P:dF}{E:BI P}{st:St}{γ:Nat→Option G}{a:Act}{w:World}(h2:Store E.M γ (lk st.σ) w)(h6:∀t,Rep (aA E.M γ) γ w (st.get t) (a.tmps.getD t undef)){r:ResultVar}{d:D}(h:KG P.prog st r=some d):
  ∃v,(SK a r).run P.prog w= .ok v w∧Rep (aA E.M γ) γ w d v:=by
 cases r with
 |tmp t=>simp only[KG,abr] at h;subst h;exact⟨_,rfl,h6 t⟩
 |cell t ty=>
  simp only[KG,dY,abR,ac9] at h
  obtain⟨f,⟨g,hg,sz,hsz,hf⟩,rfl⟩:=h
  have ha:=h6 t
  have e0:bT st.get (.tmp t)=st.get t:=rfl
  rw[e0] at hf
  have glue:∀{d:D},(∃v,(Instr.loadAt ty (a.tmps.getD t undef)).run P.prog w= .ok v w∧Rep (aA E.M γ) γ w d v)→∃v,(do loadVar ty (← asAddr (a.tmps.getD t undef)):Sem Value).run P.prog w= .ok v w∧Rep (aA E.M γ) γ w d v:=by
   rintro d ⟨v,q1,q2⟩
   refine⟨v,?_,q2⟩
   generalize a.tmps.getD t undef=av at *
   unfold Instr.loadAt Instr.sureAddr at q1
   cases av with
   |pointer p=>cases p with
    |some p=>simpa [asAddr] using q1
    |none=>simp at q1
   | _=>simp at q1
  split at hf
  ·rename_i b off e
   rw[e] at ha
   split at hf
   ·rename_i cs hb
    obtain⟨d,hd,rfl⟩:=abR.1 hf
    exact glue (qG h2 hg hsz (.inl ⟨_,hb⟩) hd ha)
   ·rename_i z cs hb
    obtain⟨d,hd,rfl⟩:=abR.1 hf
    exact glue (qG h2 hg hsz (.inr ⟨z,hb⟩) hd ha)
   ·cases hf
  ·rename_i cs e
   rw[e] at ha
   obtain⟨d,hd,rfl⟩:=abR.1 hf
   exact glue (AX hg hsz hd ha)
  ·cases hf
theorem U6 {P:dF}{E:BI P}{st:St}{γ:Nat→Option G}{a:Act}{w:World}(h2:Store E.M γ (lk st.σ) w)(h6:∀t,Rep (aA E.M γ) γ w (st.get t) (a.tmps.getD t undef)):∀(rs:List ResultVar) (ds:List D),Fq P.prog st rs=some ds→
  ∃vs:List Value,(rs.mapM (SK a)).run P.prog w= .ok vs w∧vs.length=ds.length∧∀(i:Nat) d v,ds[i]?=some d→vs[i]?=some v→Rep (aA E.M γ) γ w d v:=by
 intro rs
 induction rs with
 |nil=>intro ds h;simp only[Fq,abr] at h;subst h;exact⟨[],rfl,rfl,by simp⟩
 |cons r rs ih=>
  intro ds h
  simp only[Fq,ac9,abR] at h
  obtain⟨d,hd,ds',hds,rfl⟩:=h
  obtain⟨v,q1,q2⟩:=U5 h2 h6 hd
  obtain⟨vs,q3,q4,q5⟩:=ih ds' hds
  refine⟨v::vs,?_,by simp[q4],fun i d v h1 h2=>?_⟩
  ·simp only[List.mapM_cons,Sem.run_bind,q1,Result.andThen_ok,q3,Sem.run_pure]
  ·cases i with
   |zero=>simp at h1 h2;subst h1;subst h2;exact q2
   |succ i=>exact q5 i d v (by simpa using h1) (by simpa using h2)
theorem PU {P:dF}{E:BI P}{st:St}{γ:Nat→Option G}{a:Act}{w:World}(h2:Store E.M γ (lk st.σ) w)(h6:∀t,Rep (aA E.M γ) γ w (st.get t) (a.tmps.getD t undef)){fn:Func}{d:D}(h:resD P.prog fn st=some d):
  ∃v,(results fn a.tmps).run P.prog w= .ok v w∧Rep (aA E.M γ) γ w d v:=by
 unfold resD at h
 obtain⟨ds,hds,rfl⟩:=abR.1 h
 obtain⟨vs,q1,q2,q3⟩:=U6 h2 h6 _ _ hds
 have hrun:∀f:ResultVar→Sem Value,(∀r,f r=SK a r)→(fn.results.mapM f).run P.prog w= .ok vs.toArray w:=by
  intro f hf
  obtain rfl:f=SK a:=funext hf
  cases hq:fn.results with
  |mk l=>
   rw[hq] at q1
   simp only[List.mapM_toArray,Sem.run_map,q1,Result.andThen_ok]
 refine⟨if h:vs.toArray.size=1 then vs.toArray[0] else .tuple vs.toArray,?_,?_⟩
 ·unfold results
  rw[Sem.run_bind]
  rw[hrun _ (fun r=>by cases r <;> rfl)]
  rfl
 ·match ds,vs,q2,q3 with
  | [d],[v],_,q3=>simpa using q3 0 d v rfl rfl
  | [],[],_,q3=>simpa using (Rep.aQ (M:=aA E.M γ) (γ:=γ) (w:=w) (cs:=[]) (vs:=#[]) rfl (by simp))
  |d::d'::ds,v::v'::vs,q2,q3=>simpa using (Rep.aQ (M:=aA E.M γ) (γ:=γ) (w:=w) (cs:=d::d'::ds) (vs:=(v::v'::vs).toArray) (by simpa using q2) (fun i d v h1 h2=>q3 i d v h1 (by simpa using h2)))
end
end Go.Id
namespace Go.Id
open Go
theorem Store.forget {M₀:Base}{Mb:Nat→Nat→Prop}{γ γb:Nat→Option G}{σ:Nat→Option bf}{w wb:World}(h2:Store M₀ γ σ w)(h3:aW Mb γb wb (aA M₀ γ) γ w){l:List (Nat × bf)}
  (hs:∀p∈l,σ p.1=some p.2) (hcσ:∀p∈l,aB (fun i=>(lk l i).isSome=true) p.2) (hent:∀b g,γb b=some g→(lk l b).isSome=true):
  ∃ γ',Store M₀ γ' (lk l) w∧aW Mb γb wb (aA M₀ γ') γ' w∧∀d v,Rep (aA M₀ γ) γ w d v→bY (fun i=>(lk l i).isSome=true) d→Rep (aA M₀ γ') γ' w d v:=by
 let γ':Nat→Option G:=fun b=>if (lk l b).isSome=true then γ b else none
 have hγ:∀b g,γ' b=some g→(lk l b).isSome=true∧γ b=some g:=by
  intro b g hg
  simp only[γ'] at hg
  split at hg
  ·exact⟨by assumption,hg⟩
  ·cases hg
 have hS:∀b,(lk l b).isSome=true→γ' b=γ b:=fun b hb=>by simp only[γ',if_pos hb]
 have hM:∀B off,aA M₀ γ' B off→aA M₀ γ B off:=by
  rintro B off (hm | ⟨b,g,hg,hw⟩)
  ·exact .inl hm
  ·exact .inr ⟨b,g,(hγ b g hg).2,hw⟩
 refine⟨γ',⟨fun b=>?_,fun b b' g g' B q1 q2 q3 q4=>h2.dist b b' g g' B (hγ _ _ q1).2 (hγ _ _ q2).2 q3 q4,h2.outer,fun b g B off q1 q2=>h2.apart b g B off (hγ _ _ q1).2 q2,h2.inv,fun b g B q1 q2=>h2.low b g B (hγ _ _ q1).2 q2,h2.big⟩,?_,fun d v hr hcl=>(hr.restrict hS hcl).sub hM⟩
 ·cases hb:lk l b with
  |none=>exact .inr ⟨rfl,by simp[γ',hb]⟩
  |some blk=>
   have hm:=iZ _ _ _ hb
   obtain⟨g,q1,q2⟩:=h2.hit (hs _ hm)
   refine .inl ⟨blk,g,rfl,(hS b (by simp[hb])).trans q1,?_⟩
   have:=q2.restrict hS (hcσ _ hm)
   exact this.JU ⟨fun _ _ _ _ h=>h,fun B off h _=>hM B off h,fun _ g h=>⟨g,h,G.le_refl g⟩⟩ (fun _ _=>rfl)
 ·refine⟨h3.os,h3.tape,h3.output,h3.size,h3.cell,fun B off q1 q2=>h3.wr B off (hM B off q1) q2,fun b g hg=>?_,h3.block,fun b g B q1 q2 q3=>h3.old b g B (hγ _ _ q1).2 q2 q3⟩
  obtain⟨g',q1,q2⟩:=h3.names b g hg
  exact⟨g',(hS b (hent b g hg)).trans q1,q2⟩
def aT:Nat→List D→List (Nat × D)
 | _,[]=>[]
 |i,d::ds=>(i,d)::aT (i+1) ds
theorem wG:∀(ds:List D) (i t:Nat),lk (aT i ds) t=if i≤t then ds[t - i]? else none
 | [],i,t=>by simp[aT,lk]
 |d::ds,i,t=>by
  simp only[aT,lk,wG ds (i+1) t]
  by_cases h:t=i
  ·subst h;simp
  ·rw[if_neg h]
   by_cases h2:i≤t
   ·rw[if_pos h2,if_pos (by omega)]
    have:t - i=(t - (i+1))+1:=by omega
    rw[this,amG]
   ·rw[if_neg h2,if_neg (by omega)]
def Ends (P:dF)(fn:Func)(ins:List (Nat × bf))(val:D)(outs:List (Nat × bf))(e:Exit)(st:St):Prop:=
 (e= .normal∨e= .ret)∧∃d,resD P.prog fn st=some d∧Le d val∧bY (fun i=>(lk outs i).isSome=true) val∧(∀p∈outs,lk st.σ p.1=some p.2∧aB (fun i=>(lk outs i).isSome=true) p.2)∧(∀p∈ins,(lk outs p.1).isSome=true)
theorem wH {P:dF}{E:BI P}{γ γ':Nat→Option G}{w:World}{R:Ending→World→Prop}{fn:Func}{tmps:Array Value}{F:Nat→D}{σ:Nat→Option bf}{T:List Deferred}{n:Nat}(hn:P.n≤n){u:FrameMode}(hu:u≠ .run)
  (hend:∀w',Store E.M γ' σ w'→aW (aA E.M γ) γ w (aA E.M γ') γ' w'→(∀t,Rep (aA E.M γ') γ' w' (F t) (tmps.getD t undef))→LeavesInM Fence.wide 0 P.prog fn tmps R T u w') (hw:w.heap.size≤n):
  ∀(Ds:List Nat) (ds:List Deferred) (w':World),ds=Ds.map (fun D=>{ target:= .collected D,args:=#[] })++T→Ds.Nodup→
   (∀D∈Ds,n≤D∧w'.heap[D]?=some (.deferred (some []))∧∀b g,γ' b=some g→g.block≠some D)→
   Store E.M γ' σ w'→aW (aA E.M γ) γ w (aA E.M γ') γ' w'→(∀t,Rep (aA E.M γ') γ' w' (F t) (tmps.getD t undef))→LeavesInM Fence.wide 0 P.prog fn tmps R ds u w':=by
 intro Ds
 induction Ds with
 |nil=>
  rintro ds w' rfl _ _ h2 h3 h6
  exact hend w' h2 h3 h6
 |cons D Ds ih=>
  rintro ds w' rfl hnd hD h2 h3 h6
  obtain⟨p1,p2,p3⟩:=hD D (by simp)
  obtain⟨g1,g2,g3⟩:=PN (o':= .deferred none) h2 h3 (by omega) (by show P.n≤D;omega) p2 rfl p3
  refine⟨hu,.inl ⟨D,_,rfl,run_takeDeferred p2,?_⟩⟩
  refine ih _ _ rfl (anE.1 hnd).2 (fun D' hD'=>?_) g1 g2 (fun t=>g3 _ _ (h6 t))
  obtain⟨r1,r2,r3⟩:=hD D' (by simp[hD'])
  exact⟨r1,(World.putObj_heap_other (fun e=>(anE.1 hnd).1 (by rw[← e];exact hD'))).trans r2,r3⟩
def lQ (P:dF)(fn:Func)(ins:List (Nat × bf))(x:Option Value)(val:D)(outs:List (Nat × bf))(e:Exit)(st:St):Prop:=
 match x with
 |none=>Ends P fn ins val outs e st
 |some y=>e= .panic [{ v:=y,recovered:=false }]∧val= .junk∧(∀p∈outs,lk st.σ p.1=some p.2∧aB (fun i=>(lk outs i).isSome=true) p.2)∧(∀p∈ins,(lk outs p.1).isSome=true)
theorem gU.of_wp {P:dF}{x:Option Value}{k:FuncId}{fn:Func}{c:Code}{args:List D}{ins outs:List (Nat × bf)}{val:D}{N:Nat}(hf:P.prog.funcs[k]?=some fn)(hb:fn.body=some c)(hn:(fn.name == "runtime.NumGoroutine")=false)
  (hN:fn.ntmps=N) (hle:args.length≤N) (h:WP P (ins.map (·.1)) N c (lQ P fn ins x val outs) ⟨aT 0 args,ins⟩):gU P x k args ins val outs:=by
 refine⟨⟨fn,hf,hn,by simp[hb]⟩,fun M₀ γ w vs hst hl hr=>?_⟩
 refine callsIn_wide.1 (callsIn_of_wp_marks (n:=0) hf hb trivial ?_ rfl)
 let E:BI P:=⟨M₀,γ,w,max w.heap.size P.n,ag4 _,[]⟩
 have hsz:vs.toArray.size=args.length:=by simpa using hl
 have hrel:Rel E (ins.map (·.1)) N (St.get ⟨aT 0 args,ins⟩) (lk ins) { tmps:=vs.toArray++Array.replicate (fn.ntmps - vs.toArray.size) undef,defers:=[] } w:=by
  refine⟨γ,fun b g hg=>?_,hst,aW.refl _ _ _,?_,Marks.nil _ _ _ _,fun t=>?_⟩
  ·rcases hst.names b with⟨blk,g',q1,_⟩ | ⟨_,q1⟩
   ·exact List.mem_map.2 ⟨(b,blk),iZ _ _ _ q1,rfl⟩
   ·have hg':γ b=some g:=hg
    rw[hg'] at q1;cases q1
  ·simp[hl];omega
  ·simp only[St.get,wG,ada,if_true,Nat.sub_zero]
   rw[ag_]
   by_cases ht:t<vs.length
   ·have h1:(vs.toArray++Array.replicate (fn.ntmps - vs.toArray.size) undef)[t]?=vs[t]?:=by
     rw[Array.getElem?_append_left (by simpa using ht)];simp
    have h2:t<args.length:=by omega
    rw[h1,abt ht,abt h2]
    exact hr t _ _ (abt h2) (abt ht)
   ·rw[al_ (by omega:args.length≤t)]
    exact .junk _
 refine wpIn_mono (h Fence.wide 0 (.wide _) E _ w hrel) ?_
 rintro e a' w' ⟨st',hx,γ',h1,h2,h3,h4,h5,h6⟩
 have fin:∀{w':World},Store E.M γ' (lk st'.σ) w'→aW (aA E.M γ) γ w (aA E.M γ') γ' w'→(∀p∈outs,lk st'.σ p.1=some p.2∧aB (fun i=>(lk outs i).isSome=true) p.2)→(∀p∈ins,(lk outs p.1).isSome=true)→_:=
  fun {w'} h2 h3 hout hin=>h2.forget h3 (l:=outs) (fun p hp=>(hout p hp).1) (fun p hp=>(hout p hp).2) (fun b g hg=>by
   have:=h1 b g hg
   obtain⟨p,hp,rfl⟩:=List.mem_map.1 this
   exact hin p hp)
 obtain⟨Ds,⟨d1,_⟩,d2,d3⟩:=h5
 cases x with
 |none=>
  obtain⟨he,d,hd,hle,hcl,hout,hin⟩:=hx
  have:=wH (E:=E) (fn:=fn) (tmps:=a'.tmps) (F:=st'.get) (σ:=lk st'.σ) (γ:=γ) (w:=w) (T:=[]) (n:=max w.heap.size P.n) (by omega) (u:= .returning) (by simp)
   (R:=fun e w'=>∃v γ',e=ahh none v∧Store (P.base M₀) γ' (lk outs) w'∧aW (aA (P.base M₀) γ) γ w (aA (P.base M₀) γ') γ' w'∧Rep (aA (P.base M₀) γ') γ' w' val v)
   (fun w' h2 h3 h6=>by
    obtain⟨v,q1,q2⟩:=PU h2 h6 hd
    obtain⟨γ'',q3,q4,q5⟩:=fin h2 h3 hout hin
    exact⟨v,q1,v,γ'',rfl,q3,q4,q5 _ _ (hle _ _ _ _ q2) hcl⟩) (by omega) Ds a'.defers w' d1 d2 d3 h2 h3 h6
  rcases he with rfl|rfl <;> exact this
 |some y=>
  obtain⟨rfl,rfl,hout,hin⟩:=hx
  exact wH (E:=E) (fn:=fn) (tmps:=a'.tmps) (F:=st'.get) (σ:=lk st'.σ) (γ:=γ) (w:=w) (T:=[]) (n:=max w.heap.size P.n) (by omega) (u:= .panicking [{ v:=y,recovered:=false }]) (by simp)
   (R:=fun e w'=>∃v γ',e=ahh (some y) v∧Store (P.base M₀) γ' (lk outs) w'∧aW (aA (P.base M₀) γ) γ w (aA (P.base M₀) γ') γ' w'∧Rep (aA (P.base M₀) γ') γ' w' .junk v)
   (fun w' h2 h3 h6=>by
    obtain⟨γ'',q3,q4,q5⟩:=fin h2 h3 hout hin
    exact⟨undef,γ'',rfl,q3,q4,.junk _⟩) (by omega) Ds a'.defers w' d1 d2 d3 h2 h3 h6
theorem aF.of_wp {P:dF}{k:FuncId}{fn:Func}{c:Code}{args:List D}{ins outs:List (Nat × bf)}{val:D}{N:Nat}(hf:P.prog.funcs[k]?=some fn)(hb:fn.body=some c)(hn:(fn.name == "runtime.NumGoroutine")=false)
  (hN:fn.ntmps=N) (hle:args.length≤N) (h:WP P (ins.map (·.1)) N c (Ends P fn ins val outs) ⟨aT 0 args,ins⟩):aF P k args ins val outs:=
 gU.of_wp (x:=none) hf hb hn hN hle h
theorem ay.of_wp {P:dF}{k:FuncId}{fn:Func}{c:Code}{args:List D}{val:D}{N:Nat}(hf:P.prog.funcs[k]?=some fn)(hb:fn.body=some c)(hn:(fn.name == "runtime.NumGoroutine")=false)
  (hN:fn.ntmps=N) (hle:args.length≤N) (h:WP P [] N c (Ends P fn [] val []) ⟨aT 0 args,[]⟩):ay P k args val:=aF.of_wp hf hb hn hN hle h
theorem Ends.pure {P:dF}{fn:Func}{val d:D}{e:Exit}{st:St}(he:e= .normal∨e= .ret)(hd:resD P.prog fn st=some d)(hle:Le d val)(hcl:bY (fun _=>False) val):Ends P fn [] val [] e st:=
 ⟨he,d,hd,hle,hcl.mono (fun _ h=>h.elim),by simp,by simp⟩
theorem aj.pure {P:dF}{fo:D}{args:List D}{σ:List (Nat × bf)}{K:D→Rec→Prop}{k:FuncId}{first cap as:List D}{val:D}(h:ay P k as val)(hfo:fo= .fn (.func k) first cap)(has:as=(first++args++cap).map fg)
  (hcl:∀d∈as,bY (fun _=>False) d) (hk:K val ⟨[],[]⟩):aj P fo args σ K:=by
 refine⟨k,first,cap,[],val,⟨[],[]⟩,hfo,by rw[← has];exact h,?_,?_,?_,?_,hk⟩
 ·intro b blk hb;cases hb
 ·intro b hb;cases hb
 ·rw[← has];exact fun d hd=>(hcl d hd).mono (fun _ h=>h.elim)
 ·intro b hb;cases hb
theorem ay.run {P:dF}{k:FuncId}{args:List D}{val:D}(h:ay P k args val)(w:World)(hI:P.I w)(hn:P.n≤w.heap.size)(vs:List Value)(hl:vs.length=args.length)(hr:∀(i:Nat) d v,args[i]?=some d→vs[i]?=some v→Rep (fun _ _=>False) (fun _=>none) w d v):
  Calls P.prog k vs.toArray w fun e w'=>∃v,e= .returned v∧Rep (fun _ _=>False) (fun _=>none) w' val v∧RowKit.Below w.heap.size w w':=by
 have hM:∀B off,¬aA (P.base fun _ _=>False) (fun _=>none) B off:=by
  rintro B off (h | ⟨b,g,h,_⟩)
  ·exact h
  ·cases h
 have hst:Store (P.base fun _ _=>False) (fun _=>none) (lk []) w:=⟨fun b=> .inr ⟨rfl,rfl⟩,(fun b b' g g' B h=>by cases h),(fun B off h=>h.elim),(fun b g B off h=>by cases h),hI,(fun b g B h=>by cases h),hn⟩
 refine (h.2 _ _ w vs hst hl (fun i d v h1 h2=>(hr i d v h1 h2).sub (fun B off hm=>(hM B off hm).elim))).mono ?_
 rintro e w' ⟨v,γ',rfl,q1,q2,q3⟩
 have hno:γ'=fun _=>none:=by
  funext b
  rcases q1.names b with⟨blk,g,q4,_⟩ | ⟨_,q4⟩
  ·cases q4
  ·exact q4
 subst hno
 exact⟨v,rfl,q3.sub (fun B off hm=>hm.elim),⟨q2.os,q2.tape,q2.output,q2.size,fun k hk=>q2.block k hk (fun b g hg=>by cases hg)⟩⟩
end Go.Id
