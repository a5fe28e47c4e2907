import Derived.Test.YtekopfoidhhedaaGreatDoorG11
set_option linter.unusedVariables false
set_option linter.unusedSimpArgs false
set_option linter.unnecessarySimpa false
namespace Go.Id
open Go
def dF.since (P:dF)(W:World):dF where
 prog:=P.prog
 n:=W.heap.size
 I:=fun w=>(P.I w∧P.n≤W.heap.size)∧∀k,k<W.heap.size→w.heap[k]?=W.heap[k]?
 stable:=fun w w' h hk=>⟨⟨P.stable w w' h.1.1 fun k hk'=>hk k (aj0 hk' h.1.2),h.1.2⟩,fun k hk'=>(hk k hk').trans (h.2 k hk')⟩
 lit:=P.lit
 glob:=P.glob
 XY:=fun w h g cs hg=>let ⟨a,b⟩:=P.XY w h.1.1 g cs hg;⟨aj0 a h.1.2,b⟩
@[simp] theorem dF.aS (P:dF)(W:World):(P.since W).prog=P.prog:=rfl
@[simp] theorem dF.ama (P:dF)(W:World):(P.since W).lit=P.lit:=rfl
@[simp] theorem dF.akR (P:dF)(W:World):(P.since W).glob=P.glob:=rfl
theorem aF.since {P:dF}{k:FuncId}{args:List D}{ins outs:List (Nat × bf)}{val:D}(h:aF P k args ins val outs)(W:World):aF (P.since W) k args ins val outs:=by
 refine⟨h.1,fun M γ w vs hst hl hr=>?_⟩
 have hi:=hst.inv
 have hst1:Store (P.base M) γ (lk ins) w:=⟨hst.names,hst.dist,fun B off hm=>⟨ag9 hi.1.2 (hst.outer B off hm).1,(hst.outer B off hm).2⟩,hst.apart,hi.1.1,fun b g B q1 q2=>ag9 hi.1.2 (hst.low b g B q1 q2),ag9 hi.1.2 hst.big⟩
 refine (h.2 M γ w vs hst1 hl hr).mono ?_
 rintro e w' ⟨v,γ',rfl,hst2,hev,hval⟩
 refine⟨v,γ',rfl,⟨hst2.names,hst2.dist,fun B off hm=>⟨(hst.outer B off hm).1,(hst2.outer B off hm).2⟩,hst2.apart,⟨⟨hst2.inv,hi.1.2⟩,fun k hk=>?_⟩,fun b g B q1 q2=>?_,ag9 hst.big hev.size⟩,hev,hval⟩
 ·have hk':k<W.heap.size:=hk
  refine (hev.block k (aj0 hk' hst.big) (fun b g hg hB=>?_)).trans (hi.2 k hk')
  have:W.heap.size≤k:=hst.low b g k hg hB
  omega
 ·by_cases hlt:B<w.heap.size
  ·obtain⟨b',g',r1,r2⟩:=hev.old b g B q1 q2 hlt
   exact hst.low b' g' B r1 r2
  ·exact ag9 hst.big (Nat.le_of_not_lt hlt)
theorem ay.since {P:dF}{k:FuncId}{args:List D}{val:D}(h:ay P k args val)(W:World):ay (P.since W) k args val:=aF.since h W
theorem PZ {P:dF}{W:World}{M:Nat→Nat→Prop}{γ:Nat→Option G}{σ:Nat→Option bf}{w:World}(h2:Store ((P.since W).base M) γ σ w){d:D}{v:Value}(hr:Rep (fun _ _=>False) (fun _=>none) W d v):Rep (aA ((P.since W).base M) γ) γ w d v:=by
 refine hr.JU ⟨fun B off u _ hu=>?_,fun B off hm hlt=>?_,fun b g hg=>by cases hg⟩
 ·have hlt:=cell_lt hu
  rw[World.cell?_of_block (w:=W) (w':=w) (by simpa using h2.inv.2 B hlt)]
  exact hu
 ·have hlt':B<W.heap.size:=hlt
  rcases hm with hm | ⟨b,g,q1,q2⟩
  ·have:W.heap.size≤B:=(h2.outer B off hm).1
   omega
  ·have:W.heap.size≤B:=h2.low b g B q1 (G.jR q2)
   omega
theorem aF.vals {P:dF}{W:World}{k:FuncId}{args args':List D}{ins outs:List (Nat × bf)}{val:D}(h:aF (P.since W) k args ins val outs)(hl:args'.length=args.length)
  (h2:∀(i:Nat) d d',args[i]?=some d→args'[i]?=some d'→d'=d∨∃v,d'= .val v∧Rep (fun _ _=>False) (fun _=>none) W d v):aF (P.since W) k args' ins val outs:=by
 refine⟨h.1,fun M γ w vs hst hvl hr=>h.2 M γ w vs hst (hvl.trans hl) fun i d v h3 h4=>?_⟩
 have hi:i<args'.length:=by rw[hl];exact (acR.1 h3).1
 have h5:=abt hi
 have h6:=hr i _ v h5 h4
 rcases h2 i d _ h3 h5 with h7 | ⟨u,h7,h8⟩
 ·rw[h7] at h6;exact h6
 ·rw[h7] at h6
  cases h6
  exact PZ hst h8
theorem ay.adS {P:dF}{k:FuncId}{args:List D}{val:D}(hval:∀(M M':Nat→Nat→Prop) (γ γ':Nat→Option G) (w:World) (v:Value),Rep M γ w val v→Rep M' γ' w val v)
  (h:∀(W:World) (vs:List Value),vs.length=args.length→(∀(i:Nat) d v,args[i]?=some d→vs[i]?=some v→Rep (fun _ _=>False) (fun _=>none) W d v)→ay (P.since W) k (vs.map .val) val) (hb:oJ P.prog k):ay P k args val:=by
 refine⟨hb,fun M γ w vs hst hl hr=>?_⟩
 have hγ:γ=fun _=>none:=by
  funext b
  rcases hst.names b with⟨blk,g,q,_⟩ | ⟨_,q⟩
  ·cases q
  ·exact q
 subst hγ
 have hr0:∀(i:Nat) d v,args[i]?=some d→vs[i]?=some v→Rep (fun _ _=>False) (fun _=>none) w d v:=fun i d v h1 h2=>(hr i d v h1 h2).sub (fun B off hm=>hm.elim)
 have hst1:Store ((P.since w).base fun _ _=>False) (fun _=>none) (lk []) w:=⟨fun b=> .inr ⟨rfl,rfl⟩,(fun b b' g g' B h=>by cases h),(fun B off h=>h.elim),(fun b g B off h=>by cases h),⟨⟨hst.inv,hst.big⟩,fun _ _=>rfl⟩,(fun b g B h=>by cases h),ag4 _⟩
 refine ((h w vs hl hr0).2 _ _ w vs hst1 (by simp) (fun i d v h1 h2=>?_)).mono ?_
 ·rw[adw,h2] at h1
  cases h1;exact .val v
 rintro e w' ⟨v,γ',rfl,q1,q2,q3⟩
 have hno:γ'=fun _=>none:=by
  funext b
  rcases q1.names b with⟨blk,g,q4,_⟩ | ⟨_,q4⟩
  ·cases q4
  ·exact q4
 subst hno
 have hM:∀B off,¬aA ((P.since w).base fun _ _=>False) (fun _=>none) B off:=by
  rintro B off (h | ⟨b,g,h,_⟩)
  ·exact h
  ·cases h
 refine⟨v,fun _=>none,rfl,⟨fun b=> .inr ⟨rfl,rfl⟩,(fun b b' g g' B h=>by cases h),fun B off hm=>⟨(hst.outer B off hm).1,aj0 (hst.outer B off hm).2 q2.size⟩,(fun b g B off h=>by cases h),q1.inv.1.1,(fun b g B h=>by cases h),ag9 hst.big q2.size⟩,?_,hval _ _ _ _ _ _ q3⟩
 exact⟨q2.os,q2.tape,q2.output,q2.size,fun B off u _ hu=>q2.cell B off u (hM B off) hu,fun B off hm _=>hm,fun b g hg=>(by cases hg),q2.block,fun b g B hg=>by cases hg⟩
section
variable {P:dF} {W:World} {ent:List Nat} {N:Nat} {Q:Exit→St→Prop} {st:St}
theorem Vb {E:BI (P.since W)}{t:Nat}{v0:Value}{d:Go.Id.D}{a:Act}{w:World}(hv:st.get t= .val v0)(hr:Rep (fun _ _=>False) (fun _=>none) W d v0)(hrel:Rel E ent N st.get (lk st.σ) a w):a.tmps.getD t undef=v0∧Rel E ent N (st.put (some t) d).get (lk (st.put (some t) d).σ) a w:=by
 have hval:a.tmps.getD t undef=v0:=by
  obtain⟨γ,_,_,_,_,_,h6⟩:=hrel
  have:=h6 t
  rw[hv] at this
  generalize a.tmps.getD t undef=u at this
  cases this;rfl
 refine⟨hval,?_⟩
 obtain⟨γ,h1,h2,h3,h4,h5,h6⟩:=hrel
 refine⟨γ,h1,h2,h3,h4,h5,fun k=>?_⟩
 rw[get_put]
 by_cases hk:k=t
 ·subst hk
  simp only[oh,upd_same]
  rw[hval]
  exact PZ h2 hr
 ·simp only[oh,bn _ _ hk]
  exact h6 k
theorem P5 {E:BI (P.since W)}{t:Nat}{v0:Value}{a':Act}{w':World}{st':St}(hval:a'.tmps.getD t undef=v0)(hr':Rel E ent N st'.get (lk st'.σ) a' w'):Rel E ent N (st'.put (some t) (.val v0)).get (lk (st'.put (some t) (.val v0)).σ) a' w':=by
 obtain⟨γ,h1,h2,h3,h4,h5,h6⟩:=hr'
 refine⟨γ,h1,h2,h3,h4,h5,fun k=>?_⟩
 rw[get_put]
 by_cases hkt:k=t
 ·subst hkt
  simp only[oh,upd_same]
  rw[hval]
  exact .val v0
 ·simp only[oh,bn _ _ hkt]
  exact h6 k
theorem WP.qI {id:Nat}{ops:Array Oper}(t:Nat)(v0:Value)(d:Go.Id.D)(hd:dD N ops=true)(hv:st.get t= .val v0)(hr:Rep (fun _ _=>False) (fun _=>none) W d v0)(hw:OU ops.toList t=false)
  (h:∀K:St→List bJ→Prop,(∀st' rs,Q .normal (st'.put (some t) (.val v0))→K st' rs)→ah (P.since W) ops ops.toList (st.put (some t) d) [] K):WP (P.since W) ent N (.region id ops false) Q st:=by
 intro Fe nf hF E a w hrel
 obtain⟨hval,adT⟩:=Vb hv hr hrel
 refine rO hF.1 hd ops.toList [] (by simp) (Q:=fun st'=>Q .normal (st'.put (some t) (.val v0))) h adT ?_
 rintro st' a' w' hq hr' ⟨⟨_,hk⟩,_⟩
 show wpOpsIn _ _ _ _ _ [] _ _
 exact⟨_,hq,P5 (by rw[hk t hw,hval]) hr'⟩
theorem WP.srV (t:Nat)(v0:Value)(d:Go.Id.D)(ks:List Nat){id:Nat}{ops:Array Oper}{y:Code}(hd:dD N ops=true)(hv:st.get t= .val v0)(hr:Rep (fun _ _=>False) (fun _=>none) W d v0)(hw:OU ops.toList t=false)
  (h:∀K:St→List bJ→Prop,(∀st' rs,WP (P.since W) ent N y Q ⟨Go.Id.keep ks ((t,.val v0)::dl st'.F t),st'.σ⟩→K st' rs)→ah (P.since W) ops ops.toList (st.put (some t) d) [] K):WP (P.since W) ent N (.seq (.region id ops false) y) Q st:=
 WP.seq (WP.qI t v0 d hd hv hr hw fun K hK=>h K fun st' rs hy=>hK st' rs (WP.weak (Weak.keep ks) hy))
theorem qJ {F:Fence}{n:Nat}{Pg:Program}{md:Region.Mode}{ops:Array Oper}{Q Q':Exit→Act→World→Prop}{Wr:Nat→Bool}(hW:∀(i:Nat) (o:Oper),ops[i]?=some o→∀t,o.dst=some t→Wr t=true){a0:Act}
  (hn:∀a w,mZ Wr a0 a→Q .normal a w→Q' .normal a w) (hq:∀e a w,e≠ .normal→Q e a w→Q' e a w):∀(fuel:Nat) (listed:Array Bool) (a:Act) (w:World),mZ Wr a0 a→wpAnyIn F n Pg md ops Q fuel listed a w→wpAnyIn F n Pg md ops Q' fuel listed a w
 | 0,listed,a,w,hk,h=>⟨h.1,hn _ _ hk h.2⟩
 |fuel+1,listed,a,w,hk,h=>by
  refine⟨fun e=>hn _ _ hk (h.1 e),fun i hi=>?_⟩
  have h2:=h.2 i hi
  unfold wpOpIn at h2 ⊢
  cases ho:ops[i]? with
  |none=>rw[ho] at h2;exact qJ hW hn hq fuel _ a w hk h2
  |some o=>
   rw[ho] at h2
   dsimp only at h2 ⊢
   split at h2
   ·rw[if_pos (by assumption)]
    exact⟨h2.1,G9 (W:=Wr) (hW i o ho) (fun a' w' hk' h'=>qJ hW hn hq fuel _ a' w' (hk.trans hk') h') hq h2.2⟩
   ·rw[if_neg (by assumption)]
    exact⟨h2.1,qJ hW hn hq fuel _ _ w (hk.trans (mZ.put a o.dst undef (hW i o ho))) h2.2⟩
theorem FC {P:dF}{E:BI P}{Fe:Fence}(hF:nP Fe){nf:Nat}{id:Nat}{ops:Array Oper}(hm:P.prog.follows .mixedOrders=true)(hd:dD N ops=true){Q:Exit→Act→World→Prop}{st st':St}{rs:List bJ}(h:Chain P ops ops.toList st rs st')(hb:nR ops rs=true)
  {a:Act} {w:World} (hr:Rel E ent N st.get (lk st.σ) a w) (hq:∀a' w',Rel E ent N st'.get (lk st'.σ) a' w'→mZ (OU ops.toList) a a'→Q .normal a' w'):(Code.region id ops true).wpIn Fe nf P.prog Q a w:=by
 obtain⟨h1,h2,h3⟩:=h.steps
 refine wpIn_region_any hm (qJ (Q:=fun e a' w'=>e= .normal∧Rel E ent N st'.get (lk st'.σ) a' w') (Wr:=OU ops.toList) (a0:=a) (fun i o ho t ht=>List.any_eq_true.2 ⟨o,by simpa using ajY ho,by simp[ht]⟩) (fun a' w' hk q=>hq a' w' q.2 hk) (fun e a' w' he q=>absurd q.1 he) _ _ _ _ (.refl _ _) ?_)
 refine G7 hF (E:=E) (ent:=ent) hd (z:=ops.toList.zip rs) (fun i o ho=>?_) (fun i o r hi=>?_) (ZB hb) (F0:=st.get) (σ0:=lk st.σ) (fun j o r hj=>?_) _ (fun L hL a w hr'=>⟨rfl,?_⟩) ops.size _ (by simp) (by simp) (fun i o ho hL=>?_) a _ ?_
 ·have hlt:i<rs.length:=by have:=(ag6.1 ho).1;simp at h1;omega
  exact⟨rs[i],by rw[anz];exact⟨by simpa using ho,abt hlt⟩⟩
 ·rw[anz] at hi;simpa using hi.1
 ·have:=h3 0 j o r hj
  simpa using this
 ·exfalso
  simp only[qB,ag_] at hL
  rw[Array.getElem?_replicate] at hL
  split at hL <;> simp at hL
 ·have hno:∀i,0≤i→qB (Array.replicate ops.size false) i=false:=by
   intro i _
   simp only[qB,ag_,Array.getElem?_replicate]
   split <;> rfl
  rw[oK _ _ _ hno,foldσ_none _ _ _ hno]
  exact hr.drew
 ·obtain⟨q1,q2⟩:=h2 0 (fun _=>true) (fun _ _=>rfl)
  rw[← q1,← q2]
  have hlen:∀i o r,(ops.toList.zip rs)[i]?=some (o,r)→i<ops.size:=fun i o r hi=>by
   rw[anz] at hi
   have:=(acR.1 hi.1).1
   simpa using this
  have e1:jm L 0 (ops.toList.zip rs) st.get=jm (fun _=>true) 0 (ops.toList.zip rs) st.get:=by
   funext t;exact mX _ 0 _ _ (fun i o r hi _=>by simpa using hL i (hlen i o r hi)) rfl
  have e2:foldσ L 0 (ops.toList.zip rs) (lk st.σ)=foldσ (fun _=>true) 0 (ops.toList.zip rs) (lk st.σ):=by
   funext t;exact foldσ_agree _ 0 _ _ (fun i o r hi _=>by simpa using hL i (hlen i o r hi)) rfl
  rw[← e1,← e2];exact hr'
theorem WP.akS {id:Nat}{ops:Array Oper}(t:Nat)(v0:Value)(d:Go.Id.D)(hm:P.prog.follows .mixedOrders=true)(hd:dD N ops=true)(hv:st.get t= .val v0)(hr:Rep (fun _ _=>False) (fun _=>none) W d v0)(hw:OU ops.toList t=false)
  (h:∀K:St→List bJ→Prop,(∀st' rs,nR ops rs=true→Q .normal (st'.put (some t) (.val v0))→K st' rs)→ah (P.since W) ops ops.toList (st.put (some t) d) [] K):WP (P.since W) ent N (.region id ops true) Q st:=by
 intro Fe nf hF E a w hrel
 obtain⟨rs,st',hc,hk⟩:=ah.chain _ _ _ _ (h (fun st' rs=>nR ops rs=true∧Q .normal (st'.put (some t) (.val v0))) (fun _ _ h h'=>⟨h,h'⟩))
 obtain⟨hval,adT⟩:=Vb hv hr hrel
 exact FC (P:=P.since W) (E:=E) hF.1 hm hd hc (by simpa using hk.1) adT (fun a' w' hr' hkp=>⟨_,hk.2,P5 (by rw[hkp.2 t hw,hval]) hr'⟩)
theorem WP.sdV (t:Nat)(v0:Value)(d:Go.Id.D)(ks:List Nat){id:Nat}{ops:Array Oper}{y:Code}(hm:P.prog.follows .mixedOrders=true)(hd:dD N ops=true)(hv:st.get t= .val v0)(hr:Rep (fun _ _=>False) (fun _=>none) W d v0)(hw:OU ops.toList t=false)
  (h:∀K:St→List bJ→Prop,(∀st' rs,nR ops rs=true→WP (P.since W) ent N y Q ⟨Go.Id.keep ks ((t,.val v0)::dl st'.F t),st'.σ⟩→K st' rs)→ah (P.since W) ops ops.toList (st.put (some t) d) [] K):WP (P.since W) ent N (.seq (.region id ops true) y) Q st:=
 WP.seq (WP.akS t v0 d hm hd hv hr hw fun K hK=>h K fun st' rs hb hy=>hK st' rs hb (WP.weak (Weak.keep ks) hy))
end
theorem WP.amW {P:dF}{ent:List Nat}{N:Nat}{Q:Exit→St→Prop}{st:St}{x y z:Code}(S:St)(h:WP P ent N x (CX (fun st'=>WP P ent N y (CX (fun ahr=>Weak ent ahr S) Q) st') Q) st)(hz:WP P ent N z Q S):WP P ent N (.seq x (.seq y z)) Q st:=
 WP.seq (WP.mono h fun e st' hq=>by
  cases e with
  |normal=>exact WP.meet S hq hz
  | _=>exact hq)
end Go.Id
