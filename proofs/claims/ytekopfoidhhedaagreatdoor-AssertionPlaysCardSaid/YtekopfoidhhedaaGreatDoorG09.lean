import Derived.Test.YtekopfoidhhedaaGreatDoorG08
import Derived.Maps.RangeRun
import Derived.ChangeArms
import Derived.ReadAgain
import Derived.ChangeShapes
import Derived.ChangeOld
import Derived.WideShapes
import Derived.Below
set_option linter.unusedVariables false
set_option linter.unusedSimpArgs false
set_option linter.unnecessarySimpa false
namespace Go.Id
open Go
def mZ (W:Nat→Bool)(a a':Act):Prop:=a'.tmps.size=a.tmps.size∧∀t,W t=false→a'.tmps.getD t undef=a.tmps.getD t undef
theorem mZ.refl (W:Nat→Bool)(a:Act):mZ W a a:=⟨rfl,fun _ _=>rfl⟩
theorem mZ.trans {W:Nat→Bool}{a b c:Act}(h:mZ W a b)(k:mZ W b c):mZ W a c:=⟨k.1.trans h.1,fun t ht=>(k.2 t ht).trans (h.2 t ht)⟩
theorem mZ.put {W:Nat→Bool}(a:Act)(dst:Option Tmp)(v:Value)(h:∀t,dst=some t→W t=true):mZ W a (a.put dst v):=by
 cases dst with
 |none=>exact .refl W a
 |some d=>
  refine⟨by simp[Act.put],fun t ht=>?_⟩
  have:d≠t:=fun e=>by subst e;rw[h d rfl] at ht;cases ht
  simp[Act.put,ag_,this]
theorem G9 {F:Fence}{n:Nat}{P:Program}{o:Oper}{a:Act}{W:Nat→Bool}(hd:∀t,o.dst=some t→W t=true){next next':Act→World→Prop}{Q Q':Exit→Act→World→Prop}{r:Result Next}
  (hn:∀a' w',mZ W a a'→next a' w'→next' a' w') (hq:∀e a' w',e≠ .normal→Q e a' w'→Q' e a' w') (h:o.uponIn F n P a next Q r):o.uponIn F n P a next' Q' r:=by
 have kp:∀v,mZ W a (a.put o.dst v):=fun v=> .put a o.dst v hd
 have he:∀(e:Ending) (w'':World),(match e with| .returned v=>next (a.put o.dst v) w'' | .panicked chain=>Q (.panic chain) a w'' | .outgrown=>LetsOut Q)→
   (match e with| .returned v=>next' (a.put o.dst v) w'' | .panicked chain=>Q' (.panic chain) a w'' | .outgrown=>LetsOut Q'):=by
  intro e w'' h
  cases e with
  |returned v=>exact hn _ _ (kp v) h
  |panicked chain=>exact hq _ _ _ (by simp) h
  |outgrown=>obtain⟨a,w,h⟩:=h;exact⟨a,w,hq _ _ _ (by simp) h⟩
 unfold Oper.uponIn at h ⊢
 split at h
 ·exact hn _ _ (kp _) h
 ·exact hn _ _ (kp _) h
 ·rename_i d w'
  refine hn _ _ ?_ h
  cases hdst:o.dst with
  |none=>exact .refl W a
  |some t=>
   have:=kp undef
   rw[hdst] at this
   exact this
 ·exact⟨h.1,h.2.mono fun e w'' h=>by
   have:=he e w'' (by cases e <;> exact h)
   cases e <;> exact this⟩
 ·exact⟨h.1,h.2.mono fun v w'' h=>hn _ _ (kp v) h⟩
 ·exact⟨h.1,h.2.mono fun e w'' h=>by
   have:=he e w'' (by cases e <;> exact h)
   cases e <;> exact this⟩
 ·exact hq _ _ _ (by simp) h
 ·exact h.elim
theorem o7 {F:Fence}{n:Nat}{P:Program}{ops:Array Oper}{Q:Exit→Act→World→Prop}(l2:List Nat):∀(l1:List Nat) (a:Act) (w:World),
  wpOpsIn F n P ops (fun e a' w'=>match e with| .normal=>wpOpsIn F n P ops Q l2 a' w'|e=>Q e a' w') l1 a w→wpOpsIn F n P ops Q (l1++l2) a w
 | [],a,w,h=>h
 |i::l,a,w,h=>by
  simp only[abS,wpOpsIn] at h ⊢
  cases ho:ops[i]? with
  |none=>rw[ho] at h;exact o7 l2 l a w h
  |some o=>
   rw[ho] at h
   dsimp only at h ⊢
   split at h
   ·rename_i hw
    rw[if_pos hw]
    exact⟨h.1,G9 (W:=fun _=>true) (fun _ _=>rfl) (fun a' w' _ h=>o7 l2 l a' w' h) (fun e a' w' he h=>by cases e <;> first|exact absurd rfl he|exact h) h.2⟩
   ·rename_i hw
    rw[if_neg hw]
    exact⟨h.1,o7 l2 l _ w h.2⟩
def OU (os:List Oper)(t:Nat):Bool:=os.any fun o=>o.dst == some t
section
variable {P:dF} {ent:List Nat} {N:Nat} {E:BI P}
theorem Chain.U9 {Fe:Fence}(hF:nP Fe){nf:Nat}{ops:Array Oper}(hd:dD N ops=true)(Wr:Nat→Bool)(a0:Act)(Q:Exit→Act→World→Prop):∀{os:List Oper} {st st':St} {rs:List bJ},Chain P ops os st rs st'→∀(k:Nat) (os2:List Oper),ops.toList.drop k=os++os2→
  (∀o∈os,∀t,o.dst=some t→Wr t=true)→∀(a:Act) (w:World),mZ Wr a0 a∧a.defers=a0.defers→Rel E ent N st.get (lk st.σ) a w→(∀a' w',Rel E ent N st'.get (lk st'.σ) a' w'→mZ Wr a0 a'∧a'.defers=a0.defers→Q .normal a' w')→wpOpsIn Fe nf P.prog ops Q (List.range' k os.length) a w:=by
 intro os st st' rs h
 induction h with
 |nil st=>intro k os2 hk _ a w hks hr hq;exact hq a w hr hks
 | @ran o os st st' d r rs hw ho hc ih=>
  intro k os2 hk hW a w hks hr hq
  have hko:ops[k]?=some o:=by
   have:(ops.toList.drop k)[0]?=some o:=by rw[hk];rfl
   simpa [ahz] using this
  have hmem:o∈ops:=ajY hko
  simp only[abN,al8,Go.wpOpsIn,hko,qV hr hw,if_true]
  refine ho.wp hF hr (dM hd hmem) _ _ (fun v w' hr'=>ih (k+1) os2 ?_ (fun o ho=>hW o (ahA _ ho)) _ w' ⟨hks.1.trans (mZ.put a o.dst v (hW o (by simp))),by rw[put_defers];exact hks.2⟩ ?_ hq)
  ·have:ops.toList.drop (k+1)=(ops.toList.drop k).drop 1:=by rw[alv]
   rw[this,hk];rfl
  ·rw[oZ,get_put,lay_σ,put_σ];exact hr'
 | @skip o os st st' rs hw hc ih=>
  intro k os2 hk hW a w hks hr hq
  have hko:ops[k]?=some o:=by
   have:(ops.toList.drop k)[0]?=some o:=by rw[hk];rfl
   simpa [ahz] using this
  have hmem:o∈ops:=ajY hko
  simp only[abN,al8,Go.wpOpsIn,hko,qV hr hw,ag8,if_false]
  refine⟨fun f _=>hF.fn f,ih (k+1) os2 ?_ (fun o ho=>hW o (ahA _ ho)) _ _ ⟨hks.1.trans (mZ.put a o.dst undef (hW o (by simp))),by rw[put_defers];exact hks.2⟩ ?_ hq⟩
  ·have:ops.toList.drop (k+1)=(ops.toList.drop k).drop 1:=by rw[alv]
   rw[this,hk];rfl
  ·rw[get_put,put_σ];exact hr.skip (dM hd hmem)
theorem rO {Fe:Fence}(hF:nP Fe){nf:Nat}{a:Act}{w:World}{id:Nat}{ops:Array Oper}(hd:dD N ops=true)(os os2:List Oper)(hos:ops.toList=os++os2){st:St}{Q:St→Prop}{QQ:Exit→Act→World→Prop}
  (h:∀K:St→List bJ→Prop,(∀st' rs,Q st'→K st' rs)→ah P ops os st [] K) (hr:Rel E ent N st.get (lk st.σ) a w)
  (hq:∀st' a' w',Q st'→Rel E ent N st'.get (lk st'.σ) a' w'→mZ (OU os) a a'∧a'.defers=a.defers→wpOpsIn Fe nf P.prog ops QQ (List.range' os.length os2.length) a' w'):(Code.region id ops false).wpIn Fe nf P.prog QQ a w:=by
 obtain⟨rs,st',hc,hk⟩:=ah.chain _ _ _ _ (h (fun st' _=>Q st') (fun _ _ h=>h))
 refine wpIn_region ?_
 have hsz:ops.size=os.length+os2.length:=by rw[← alx,hos,abf]
 have hrg:List.range ops.size=List.range' 0 os.length++List.range' os.length os2.length:=by
  rw[apD,hsz]
  have:=List.range'_append (s:=0) (m:=os.length) (n:=os2.length) (step:=1)
  simpa using this.symm
 rw[hrg]
 refine o7 _ _ _ _ ?_
 exact Chain.U9 hF hd (OU os) a _ hc 0 os2 (by simpa using hos) (fun o ho t ht=>List.any_eq_true.2 ⟨o,ho,by simp[ht]⟩) a w ⟨.refl _ _,rfl⟩ hr (fun a' w' hr' hks=>hq st' a' w' hk hr' hks)
theorem KJ {Fe:Fence}(hF:nP Fe){nf:Nat}{a:Act}{w:World}{ops:Array Oper}(hd:dD N ops=true)(k:Nat)(os:List Oper)(hos:ops.toList.drop k=os){st:St}{Q:St→Prop}{QQ:Exit→Act→World→Prop}
  (h:∀K:St→List bJ→Prop,(∀st' rs,Q st'→K st' rs)→ah P ops os st [] K) (hr:Rel E ent N st.get (lk st.σ) a w)
  (hq:∀st' a' w',Q st'→Rel E ent N st'.get (lk st'.σ) a' w'→mZ (OU os) a a'∧a'.defers=a.defers→QQ .normal a' w'):wpOpsIn Fe nf P.prog ops QQ (List.range' k os.length) a w:=by
 obtain⟨rs,st',hc,hk⟩:=ah.chain _ _ _ _ (h (fun st' _=>Q st') (fun _ _ h=>h))
 exact Chain.U9 hF hd (OU os) a _ hc k [] (by simpa using hos) (fun o ho t ht=>List.any_eq_true.2 ⟨o,ho,by simp[ht]⟩) a w ⟨.refl _ _,rfl⟩ hr (fun a' w' hr' hks=>hq st' a' w' hk hr' hks)
theorem pR {Fe:Fence}{n:Nat}{Pg:Program}{ops:Array Oper}{Q:Exit→Act→World→Prop}{i:Nat}{is:List Nat}{o:Oper}{a:Act}{W:World}(ho:ops[i]?=some o)(hg:o.guard=none)(h:o.wpIn Fe n Pg a W (fun a' w'=>wpOpsIn Fe n Pg ops Q is a' w') Q):
  wpOpsIn Fe n Pg ops Q (i::is) a W:=by
 rw[wpOpsIn,ho]
 dsimp only
 rw[if_pos (by simp[Region.wanted,hg])]
 exact h
end
end Go.Id
namespace Go.Id
open Go Go.ChangeMaps
def jc (es:List (List UInt8 × D × Nat))(seen:List Nat):List (List UInt8 × D × Nat):=es.filter fun e=>!(seen.contains e.2.2)
section
variable {P:dF} {ent:List Nat} {N:Nat} {Q:Exit→St→Prop} {st:St}
theorem Rel.ao9 {E:BI P}{F:Nat→D}{σ:Nat→Option bf}{a:Act}{w:World}(h:Rel E ent N F σ a w){dst:Option Tmp}(hd:∀t,dst=some t→t<N){d:D}{v:Value}(hv:∀M γ w,Rep M γ w d v):Rel E ent N (oh F dst d) σ (a.put dst v) w:=by
 obtain⟨γ,h1,h2,h3,h4,h5,h6⟩:=h
 exact⟨γ,h1,h2,h3,by rw[iE];exact h4,by rw[put_defers];exact h5,kZ (by rw[h4];exact hd) (hv _ _ _) h6⟩
theorem WP.KL {id:Nat}{ops:Array Oper}{x:Operand}{o:Oper}{os:List Oper}{b m since last clock:Nat}{seen:List Nat}{es:List (List UInt8 × D × Nat)}(hd:dD N ops=true)(hos:ops.toList=o::os)(hop:o.op= .next x false)(hg:o.guard=none)
  (hx:bT st.get x= .ref b 0) (hb:lk st.σ b=some (.dZ m since seen last)) (hm:lk st.σ m=some (.map es clock)) (hold:∀e∈es,e.2.2<since) (hsc:since≤last)
  (h0:jc es seen=[]→∀K:St→List bJ→Prop,(∀st' rs,Q .normal st'→K st' rs)→ah P ops os (st.put o.dst (.aQ [.bool false])) [] K)
  (h1:∀e∈jc es seen,∀K:St→List bJ→Prop,(∀st' rs,Q .normal st'→K st' rs)→ah P ops os ((st.put o.dst (.aQ [.bool true,.str e.1,e.2.1])).lay [(b,.dZ m since (seen++[e.2.2]) clock)]) [] K):
  WP P ent N (.region id ops false) Q st:=by
 intro Fe nf hF E a w hr
 have hko:ops[0]?=some o:=by
  have:ops.toList[0]?=some o:=by rw[hos];rfl
  simpa using this
 have hmem:o∈ops:=ajY hko
 have hsz:ops.size=os.length+1:=by rw[← alx,hos];rfl
 refine wpIn_region ?_
 rw[hsz,apD,al8,wpOpsIn,hko]
 dsimp only
 rw[if_pos (by simp[Region.wanted,hg])]
 have hdst:=dM hd hmem
 have go:∀(st1:St) (a':Act) (w':World),(∀K:St→List bJ→Prop,(∀st' rs,Q .normal st'→K st' rs)→ah P ops os st1 [] K)→Rel E ent N st1.get (lk st1.σ) a' w'→
   wpOpsIn Fe nf P.prog ops (fun e a' w'=>∃st',Q e st'∧Rel E ent N st'.get (lk st'.σ) a' w') (List.range' (0+1) os.length) a' w':=by
  intro st1 a' w' h hr'
  obtain⟨rs,st',hc,hk⟩:=ah.chain _ _ _ _ (h (fun st' _=>Q .normal st') (fun _ _ h=>h))
  exact hc.wpOps hF.1 (nf:=nf) hd _ 1 (by rw[hos];rfl) a' w' hr' (fun a'' w'' adJ=>⟨st',hk,adJ⟩)
 have hr0:=hr
 obtain⟨γ,q1,q2,q3,q4,q5,q6⟩:=hr
 have hev:=iY q6 x
 rw[hx] at hev
 generalize hv:a.eval x=v at hev
 obtain⟨g,r2,r3⟩:=q2.hit hb
 obtain⟨g',r4,r5⟩:=q2.hit hm
 cases r3 with
 | @dZ _ _ _ B Bm _ hB hmB=>
  rw[r4] at hmB;cases hmB
  cases r5 with
  | @map _ _ _ en hBm hl hk=>
   cases hev with
   | @ref _ B' _ hγ=>
    obtain rfl:B'=B:=by
     rcases hγ with hγ | ⟨_,_,hγ⟩|hγ <;> rw[r2] at hγ <;> cases hγ
     rfl
    have hborn:∀e∈en.toList,∃k d n,(k,d,n)∈es∧e.key= .string ⟨k.toArray⟩∧e.born=n∧Rep (aA E.M γ) γ w d e.val:=by
     intro e he
     obtain⟨i,hi,rfl⟩:=aja.1 he
     have hi':i<en.size:=by simpa using hi
     have hi2:i<es.length:=by omega
     obtain⟨p1,p2,p3⟩:=hk i en[i] es[i].1 es[i].2.1 es[i].2.2 (adr hi') (abt hi2)
     exact⟨_,_,_,adb hi2,by simpa using p1,by simpa using p2,by simpa using p3⟩
    have hrun:=run_next_at (P:=P.prog) w o.type B' Bm since last seen.toArray en clock hB hBm (fun e he=>by obtain⟨k,d,n,p1,_,p3,_⟩:=hborn e he;rw[p3];exact hold _ p1) hsc
    unfold Oper.wpIn
    refine⟨fun f _=>hF.1.fn f,?_⟩
    rw[Oper.semAt_plain Fe _ _ (by rw[hop];intro c hc';cases hc')]
    rcases hrun with⟨hz,hrun⟩ | ⟨e,he,w1,hw1,hrun⟩
    ·simp[execOp,hop,hv,hrun,Result.andThen]
     refine go _ _ _ (h0 ?_) (by rw[get_put,put_σ];exact hr0.ao9 hdst (fun _ _ _=> .aQ rfl (fun i d v h1 h2=>by
      match i with
      | 0=>simp at h1 h2;subst h1;subst h2;exact .bool _
      |i+1=>simp at h1)))
     unfold jc
     rw[List.filter_eq_nil_iff]
     intro y hy hs
     obtain⟨i,hi,rfl⟩:=aja.1 hy
     have hi':i<en.size:=by omega
     obtain⟨p1,p2,p3⟩:=hk i en[i] es[i].1 es[i].2.1 es[i].2.2 (adr hi') (abt hi)
     have hz':leftOf en seen.toArray=#[]:=aoJ hz
     have:en[i]∈leftOf en seen.toArray:=by
      unfold leftOf
      rw[Array.mem_filter]
      exact⟨Array.getElem_mem hi',by rw[p2];simpa using hs⟩
     rw[hz'] at this
     simp at this
    ·simp[execOp,hop,hv,hrun,Result.andThen]
     have he':e∈en.toList∧seen.contains e.born=false:=by
      unfold leftOf at he
      simp only[Array.toList_filter,ak1] at he
      exact⟨he.1,by simpa using he.2⟩
     obtain⟨k,d,n,p1,p2,p3,p4⟩:=hborn e he'.1
     have amF:(k,d,n)∈jc es seen:=by
      unfold jc
      rw[ak1]
      exact⟨p1,by rw[← p3];simpa using he'.2⟩
     have hr1:Rel E ent N st.get (lk st.σ) a w1:=by rcases hw1 with rfl|rfl;exact hr0;exact hr0.drew
     have hh:w1.heap=w.heap:=by rcases hw1 with rfl|rfl <;> rfl
     refine go _ _ _ (h1 (k,d,n) amF) ?_
     rw[oZ,get_put,lay_σ,put_σ]
     have hq1:Store E.M γ (lk st.σ) w1∧aW (aA E.M γ) γ w (aA E.M γ) γ w1:=by
      have hev:aW (aA E.M γ) γ w (aA E.M γ) γ w1:=by
       rcases hw1 with rfl|rfl
       ·exact .refl _ _ _
       ·exact⟨rfl,rfl,rfl,ag4 _,fun _ _ _ _ h=>h,fun _ _ h _=>h,fun _ g h=>⟨g,h,G.le_refl g⟩,fun _ _ _=>rfl,fun b g _ h h' _=>⟨b,g,h,h'⟩⟩
      refine⟨⟨fun b=>?_,q2.dist,fun B off hm=>by rw[hh];exact q2.outer B off hm,q2.apart,E.M.stable _ _ q2.inv (fun _ _=>by rw[hh]),q2.low,by rw[hh];exact q2.big⟩,hev⟩
      rcases q2.names b with⟨blk,g,s1,s2,s3⟩|s
      ·exact .inl ⟨blk,g,s1,s2,s3.keep hev (fun _ _=>by rw[hh])⟩
      ·exact .inr s
     obtain⟨t2,t3⟩:=hq1
     have hB1:w1.heap[B']?=some (.mapIter (some Bm) since seen.toArray last):=by rw[hh];exact hB
     have hlt:B' < w1.heap.size:=(ag6.1 hB1).1
     generalize hw':setBlock w1 B' (.mapIter (some Bm) since (seen++[e.born]).toArray clock)=w'
     have hB':w'.heap[B']?=some (.mapIter (some Bm) since (seen++[n]).toArray clock):=by simp[← hw',setBlock,hlt,p3]
     have hother:∀k,k≠B'→w'.heap[k]?=w1.heap[k]?:=fun k hk=>by simp[← hw',setBlock,Ne.symm hk]
     have hsize:w'.heap.size=w1.heap.size:=by simp[← hw',setBlock]
     have hM:∀o,aA E.M γ B' o:=fun o=> .inr ⟨b,_,r2,rfl⟩
     have hev:aW (aA E.M γ) γ w1 (aA E.M γ) γ w':=by
      refine⟨by rw[← hw'];rfl,by rw[← hw'];rfl,by rw[← hw'];rfl,by omega,fun B2 o u hn hu=>?_,fun _ _ h _=>h,fun _ g h=>⟨g,h,G.le_refl g⟩,fun B2 _ hn=>hother B2 (fun e=>hn b _ r2 (by rw[e];rfl)),fun i gi _ h h' _=>⟨i,gi,h,h'⟩⟩
      have:B2≠B':=fun e=>by subst e;exact hn (hM o)
      rw[World.cell?_of_block (w:=w1) (w':=w') (by simpa using hother B2 this)];exact hu
     have nO:upd γ b (some (.iter B'))=γ:=by funext i;by_cases hi:i=b <;> simp[upd,hi,r2]
     have hst:=t2.change b (.dZ m since (seen++[n]) clock) (.iter B') w' (by rw[nO];exact hev) (fun i gi B2 hi hgi AA=>hother B2 (fun e=>hi (t2.dist i b gi _ B2 hgi r2 AA (by rw[e];rfl)))) (fun B2 hB2=> .inr ⟨_,r2,hB2⟩)
      (.dZ hB' (by rw[nO];exact r4))
     rw[nO] at hst
     have hσ:laid (lk st.σ) [(b,bf.dZ m since (seen++[n]) clock)]=upd (lk st.σ) b (some (.dZ m since (seen++[n]) clock)):=by
      rw[← xU];rfl
     refine⟨γ,q1,by rw[hσ];exact hst,(q3.trans t3).trans hev,by rw[iE];exact q4,by rw[put_defers];exact (q5.dA t3).dA hev,kZ (by rw[q4];exact hdst) ?_ (fun t=>((q6 t).dA t3).dA hev)⟩
     refine .aQ rfl (fun i d' v' z1 z2=>?_)
     match i with
     | 0=>simp at z1 z2;subst z1;subst z2;exact .bool _
     | 1=>simp at z1 z2;subst z1;subst z2;rw[p2];have:=Rep.str (M:=aA E.M γ) (γ:=γ) (w:=w') ⟨k.toArray⟩;simpa using this
     | 2=>simp at z1 z2;subst z1;subst z2;exact (p4.dA t3).dA hev
     |i+3=>simp at z1
theorem ZI (f:Nat→Nat){d:D}(hd:bY (fun _=>False) d):bK f d=d:=by
 induction hd with
 | @slice sz nil es aI h ht ih=>
  have:aI=none:=by cases aI with
   |none=>rfl
   |some t=>exact (ht t rfl).elim
  subst this
  simp only[bK,kN,akn]
  congr 1
  exact (ajb fun e he=>(ajb fun d hd=>ih e he d hd).trans (amE _)).trans (amE _)
 |arr hb=>exact hb.elim
 |view hb=>exact hb.elim
 |ref hb=>exact hb.elim
 |dV _ ih=>simp only[bK,iH];congr 1;exact (ajb fun d hd=>ih d hd).trans (amE _)
 |fn _ _ ih ih'=>
  simp only[bK,iH]
  congr 1
  ·exact (ajb fun d hd=>ih d hd).trans (amE _)
  ·exact (ajb fun d hd=>ih' d hd).trans (amE _)
 |agg _ ih=>simp only[bK,iH];congr 1;exact (ajb fun d hd=>ih d hd).trans (amE _)
 |aQ _ ih=>simp only[bK,iH];congr 1;exact (ajb fun d hd=>ih d hd).trans (amE _)
 |iface _ ih=>simp only[bK,ih]
 |map hb=>exact hb.elim
 | _=>rfl
theorem adK (f:Nat→Nat){l:List D}(h:∀d∈l,bY (fun _=>False) d):iG f l=l:=by
 rw[iH];exact (ajb fun d hd=>ZI f (h d hd)).trans (amE _)
theorem ZH.box {σ:List (Nat × bf)}(b:Nat)(t:TypeId)(cs:List D)(h:lk σ b=some (.box t cs))(hc:∀x∈cs,bY (fun _=>False) x):ZH σ (.ref b 0) (.dV cs):= .inr ⟨b,t,cs,rfl,h,rfl,hc⟩
end
end Go.Id
namespace Go.Id
open Go
section
variable {H:Type} {enc:TypeId × Value→H} {P:Program} {w:World} {M:Nat→Nat→Prop} {γ:Nat→Option G} {base:Nat} {spare:Nat→Bool} {held:Bool}
def OV (M:Nat→Nat→Prop)(γ:Nat→Option G)(w:World)(ds:List D)(cs:List Value):Prop:=
 cs.length=ds.length∧∀(i:Nat) d v,ds[i]?=some d→cs[i]?=some v→v.oneCell'=true∧Rep M γ w d v
theorem OV.nil:OV M γ w [] []:=⟨rfl,fun i d v h=>by simp at h⟩
theorem OV.one {d:D}{v:Value}(h:v.oneCell'=true)(h':Rep M γ w d v):OV M γ w [d] [v]:=
 ⟨rfl,fun i d' v' h1 h2=>by
  match i with
  | 0=>simp at h1 h2;subst h1;subst h2;exact⟨h,h'⟩
  |i+1=>simp at h1⟩
theorem OV.append {ds es:List D}{cs bs:List Value}(h:OV M γ w ds cs)(k:OV M γ w es bs):OV M γ w (ds++es) (cs++bs):=by
 refine⟨by simp[h.1,k.1],fun i d v h1 h2=>?_⟩
 by_cases hi:i<ds.length
 ·rw[ag2 hi] at h1
  rw[ag2 (by rw[h.1];exact hi)] at h2
  exact h.2 i d v h1 h2
 ·rw[ag7 (by omega)] at h1
  rw[ag7 (by rw[h.1];omega),h.1] at h2
  exact k.2 _ d v h1 h2
def Rd (enc:TypeId × Value→H)(P:Program)(w:World)(M:Nat→Nat→Prop)(γ:Nat→Option G)(base:Nat)(spare:Nat→Bool)(held:Bool)(t:TypeId)(A:List D→Prop):Prop:=
 ∀n cs x,DataW.trod enc P w base spare held n t cs=some x→∃ds,A ds∧OV M γ w ds cs
theorem Rd.mono {t:TypeId}{A B:List D→Prop}(h:Rd enc P w M γ base spare held t A)(hAB:∀ds,A ds→B ds):Rd enc P w M γ base spare held t B:=
 fun n cs x hx=>let ⟨ds,ha,hc⟩:=h n cs x hx;⟨ds,hAB ds ha,hc⟩
theorem akH {t:TypeId}{k:IntKind}(ht:P.underlying t=some (.int k)):Rd enc P w M γ base spare held t (fun ds=>∃n,ds=[.int k n]∧(Lit.int k n).wf=true):=by
 intro n cs x h
 obtain⟨b,rfl,_,hw⟩:=DataW.trod_int ht h
 exact⟨_,⟨b,rfl,hw⟩,.one rfl (.int k b)⟩
theorem akI {t:TypeId}(ht:P.underlying t=some .string):Rd enc P w M γ base spare held t (fun ds=>∃s,ds=[.str s]∧s.length≤maxLen):=by
 intro n cs x h
 obtain⟨b,rfl,_,hw⟩:=DataW.trod_string ht h
 exact⟨_,⟨_,rfl,by simpa using hw⟩,.one rfl (.str b)⟩
theorem cell_spot {a:Addr}{i:Nat}{v:Value}{w:World}(h:w.cell? (a.add i)=some v):(a.add i).spot=none:=by
 cases hsp:(a.add i).spot with
 |none=>rfl
 |some s=>
  simp only[World.cell?] at h
  split at h
  ·simp[hsp] at h
  ·cases h
theorem add_eq {a:Addr}{i:Nat}(h:(a.add i).spot=none):a.add i=⟨a.block,a.off+i,none⟩:=by
 unfold Addr.add at h ⊢
 split
 ·rename_i h0
  subst h0
  rw[if_pos rfl] at h
  cases a
  simp_all
 ·rfl
theorem X5 {a:Addr}{n:Nat}{cs:List Value}(h:w.cells? base a n=some cs):cs.length=n∧∀(j:Nat) v,cs[j]?=some v→w.cell? ⟨a.block,a.off+j,none⟩=some v:=by
 unfold World.cells? at h
 split at h
 ·have hl:cs.length=n:=by simpa using mapM_some_length h
  refine⟨hl,fun j v hv=>?_⟩
  have hj:j<n:=by rw[← hl];exact (acR.1 hv).1
  have e:w.cell? (a.add j)=some v:=by
   rw[mapM_some_get h j j (List.getElem?_range hj),hv]
  rw[add_eq (cell_spot e)] at e
  exact e
 ·cases h
theorem KN {t e:TypeId}{A:List D→Prop}(ht:P.underlying t=some (.slice e))(hp:0<P.cellsOf e)(hM:∀B off,¬M B off)(he:Rd enc P w M γ base spare held e A):
  Rd enc P w M γ base spare held t (fun ds=>∃nl es,ds=[.slice (P.cellsOf e) nl es none]∧(nl=true→es=[])∧es.length≤maxLen∧∀x∈es,A x):=by
 intro n cs x h
 rcases DataW.trod_slice ht h with⟨rfl,_⟩ | ⟨a,len,cap,elems,rest,m,_,rfl,_,hb,hl,hm,hlen,hel,_,_⟩
 ·exact⟨_,⟨true,[],rfl,fun _=>rfl,ada _,by simp⟩,.one rfl (.nilslice (jk.none _ _ _))⟩
 ·have each:∀k,k≤len→∃(es:List (List D)) (vs:List Value),es.length=k∧(∀x∈es,A x∧x.length=P.cellsOf e)∧vs.length=k * P.cellsOf e∧
    (∀(j:Nat) v,vs[j]?=some v→w.cell? ⟨a.block,a.off+j,none⟩=some v∧v.oneCell'=true)∧
    ∀(i j:Nat) x d v,es[i]?=some x→x[j]?=some d→vs[i * P.cellsOf e+j]?=some v→Rep M γ w d v:=by
   intro k
   induction k with
   |zero=>intro _;exact⟨[],[],rfl,by simp,by simp,by simp,by simp⟩
   |succ k ih=>
    intro hk
    obtain⟨es,vs,h1,h2,h3,h4,h5⟩:=ih (by omega)
    have hx:∃y,elems[k]?=some y:=⟨elems[k],abt (by omega)⟩
    obtain⟨y,hy⟩:=hx
    have hk':=hel k (by omega)
    rw[hy,ac9] at hk'
    obtain⟨cs,hcs,htr⟩:=hk'
    obtain⟨ds,hA,hc,hr⟩:=he m cs y htr
    obtain⟨hcl,hcc⟩:=X5 hcs
    have hdl:ds.length=P.cellsOf e:=hc.symm.trans hcl
    have hadd:0<cs.length→a.add (k * P.cellsOf e)=⟨a.block,a.off+k * P.cellsOf e,none⟩:=by
     intro h0
     refine add_eq ?_
     have hg:=hcs
     unfold World.cells? at hg
     split at hg
     ·have:=mapM_some_get hg 0 0 (List.getElem?_range hp)
      rw[abt h0] at this
      have h7:=cell_spot this
      have h8:(a.add (k * P.cellsOf e)).add 0=a.add (k * P.cellsOf e):=by simp[Addr.add]
      rw[h8] at h7
      exact h7
     ·cases hg
    have hA':=hadd (by omega)
    rw[hA'] at hcc
    refine⟨es++[ds],vs++cs,by simp[h1],?_,by rw[abf,h3,hcl,akU,Nat.one_mul],?_,?_⟩
    ·intro x hx
     rcases List.mem_append.1 hx with hx|hx
     ·exact h2 x hx
     ·rw[ad1.1 hx];exact⟨hA,hdl⟩
    ·intro j v hv
     by_cases hj:j<vs.length
     ·rw[ag2 hj] at hv
      exact h4 j v hv
     ·rw[ag7 (by omega)] at hv
      have hj2:j - vs.length<cs.length:=(acR.1 hv).1
      have h9:=hcc _ _ hv
      have e9:a.off+k * P.cellsOf e+(j - vs.length)=a.off+j:=by omega
      rw[e9] at h9
      exact⟨h9,(hr (j - vs.length) ds[j - vs.length] v (abt (by omega)) hv).1⟩
    ·intro i j x d v hi hj hv
     by_cases hik:i<k
     ·rw[ag2 (by omega)] at hi
      have hxl:=(h2 x (ac8 hi)).2
      have hjl:j<x.length:=(acR.1 hj).1
      have:i * P.cellsOf e+j<vs.length:=by
       rw[h3]
       calc i * P.cellsOf e+j<i * P.cellsOf e+P.cellsOf e:=by omega
        _=(i+1) * P.cellsOf e:=by rw[akU,Nat.one_mul]
        _≤k * P.cellsOf e:=aj2 _ hik
      rw[ag2 this] at hv
      exact h5 i j x d v hi hj hv
     ·rw[ag7 (by omega)] at hi
      have hi0:i - es.length=0:=by
       have:=(acR.1 hi).1
       simp at this
       omega
      rw[hi0] at hi
      simp at hi
      subst hi
      have ao_:i=k:=by omega
      subst ao_
      rw[ag7 (by omega)] at hv
      have:i * P.cellsOf e+j - vs.length=j:=by omega
      rw[this] at hv
      exact (hr j d v hj hv).2
  obtain⟨es,vs,h1,h2,h3,h4,h5⟩:=each len (ag4 _)
  have hspot:0<len→a.spot=none:=by
   intro h0
   have hx:∃y,elems[0]?=some y:=⟨elems[0],abt (by omega)⟩
   obtain⟨y,hy⟩:=hx
   have hk':=hel 0 h0
   rw[hy,ac9] at hk'
   obtain⟨cs,hcs,_⟩:=hk'
   unfold World.cells? at hcs
   split at hcs
   ·have:=mapM_some_get hcs 0 0 (List.getElem?_range hp)
    have h0':0<cs.length:=by
     have:cs.length=P.cellsOf e:=by simpa using mapM_some_length hcs
     omega
    rw[abt h0'] at this
    have h7:=cell_spot this
    simpa [Addr.add] using h7
   ·cases hcs
  subst h1
  have key:=@Rep.slice M γ w (P.cellsOf e) es none a cap vs (fun x hx=>(h2 x hx).2) h3 (fun h0=>hspot (akT.2 h0)) (fun j v hv=>⟨(h4 j v hv).1,hM _ _,(h4 j v hv).2⟩) h5 hl (jk.none _ _ _)
  exact⟨_,⟨false,es,rfl,nofun,ag9 hl hm,fun x hx=>(h2 x hx).1⟩,.one rfl key⟩
def akJ:List (List D→Prop)→List D→Prop
 | [],ds=>ds=[]
 |A::As,ds=>∃d e,A d∧akJ As e∧ds=d++e
def FOk (enc:TypeId × Value→H)(P:Program)(w:World)(M:Nat→Nat→Prop)(γ:Nat→Option G)(base:Nat)(spare:Nat→Bool)(held:Bool):List Field→List (List D→Prop)→Nat→Nat→Prop
 | [],[],off,n=>off=n
 |f::fs,A::As,off,n=>f.offset=off∧Rd enc P w M γ base spare held f.type A∧FOk enc P w M γ base spare held fs As (off+P.cellsOf f.type) n
 | _,_,_,_=>False
theorem PW {m n:Nat}{cs:List Value}(hcs:cs.length=n):∀(fs:List Field) (As:List (List D→Prop)) (off:Nat) (xs:List (DataW H × List MemPlace)),FOk enc P w M γ base spare held fs As off n→
  (∀(i:Nat) (f:Field),fs[i]?=some f→DataW.trod enc P w base spare held m f.type ((cs.drop f.offset).take (P.cellsOf f.type))=xs[i]?)→xs.length=fs.length→∃ds,akJ As ds∧OV M γ w ds (cs.drop off)
 | [],[],off,xs,h,_,_=>by
  have h:off=n:=h
  rw[amX (by omega)]
  exact⟨[],rfl,.nil⟩
 |f::fs,A::As,off,[],h,_,hl=>by simp at hl
 |f::fs,A::As,off,x::xs,h,hx,hl=>by
  obtain⟨h1,h2,h3⟩:=h
  have h4:=hx 0 f rfl
  rw[h1] at h4
  obtain⟨d,hA,hc⟩:=h2 m _ x h4
  obtain⟨e,hE,he⟩:=PW hcs fs As (off+P.cellsOf f.type) xs h3 (fun i g hg=>hx (i+1) g hg) (by simpa using hl)
  refine⟨d++e,⟨d,e,hA,hE,rfl⟩,?_⟩
  have:=hc.append he
  rwa [← alv,aki] at this
theorem Fz {t:TypeId}{fs:Array Field}{As:List (List D→Prop)}(ht:P.underlying t=some (.struct fs))(hf:FOk enc P w M γ base spare held fs.toList As 0 (P.cellsOf t)):
  Rd enc P w M γ base spare held t (akJ As):=by
 intro n cs x h
 obtain⟨xs,m,_,_,hl,hxl,hx⟩:=DataW.trod_struct ht h
 obtain⟨ds,h1,h2⟩:=PW hl fs.toList As 0 xs hf (fun i f hf=>hx i f (by simpa using hf)) (by simpa using hxl)
 exact⟨ds,h1,by simpa using h2⟩
theorem zQ {α:Type}{f:α→List D}{g:α→Prop}:∀(es:List (List D)),(∀e∈es,∃a,g a∧e=f a)→∃l:List α,es=l.map f∧∀a∈l,g a
 | [],_=>⟨[],rfl,by simp⟩
 |e::es,h=>by
  obtain⟨a,ha,rfl⟩:=h e (by simp)
  obtain⟨l,rfl,hl⟩:=zQ es fun e he=>h e (by simp[he])
  exact⟨a::l,rfl,fun b hb=>(ael.1 hb).elim (fun e=>e ▸ ha) (hl b)⟩
theorem akK {t:TypeId}{A:List D→Prop}{v:Value}{d:DataW H}{ps:List MemPlace}(hr:Rd enc P w M γ base spare held t A)(h:DataW.Trod enc P w base spare held t v d ps)(hv:∀cs,v≠ .agg cs){D':D→Prop}(hA:∀ds,A ds→∃e,ds=[e]∧D' e):
  ∃e,D' e∧Rep M γ w e v:=by
 obtain⟨n,hn⟩:=h
 obtain⟨ds,h1,h2⟩:=hr _ _ _ hn
 obtain⟨e,rfl,h3⟩:=hA ds h1
 have:v.cells.toList=[v]:=by
  cases v with
  |agg cs=>exact absurd rfl (hv cs)
  | _=>rfl
 rw[this] at h2
 exact⟨e,h3,(h2.2 0 e v rfl rfl).2⟩
end
section
variable {H:Type} {enc:TypeId × Value→H} {P:Program}
theorem SS {W W':World}{T:TypeId→Prop}(K:Kids P T)(hz:∀t e,T t→P.underlying t=some (.slice e)→0<P.cellsOf e)(hb:Go.RowKit.Below W.heap.size W W'):
  ∀{ts:List TypeId} {vs:List Value} {ds:List (DataW H)} {ps:List MemPlace},(∀t∈ts,T t)→DataW.TrodAll enc P W 0 (fun _=>true) true ts vs ds ps→(∀p∈ps,p.block<W.heap.size)→∀sp:Nat→Bool,(∀x∈ps,sp x.block=true)→DataW.TrodAll enc P W' 0 sp true ts vs ds ps:=by
 intro ts vs ds ps hT h hl sp hs
 have h':DataW.TrodAll enc P W' 0 (fun _=>true) true ts vs ds ps:=by
  clear hs hT
  induction ts generalizing vs ds ps with
  |nil=>
   match vs,ds,h with
   | [],[],h=>exact h
  |cons t ts ih=>
   match vs,ds,h with
   |v::vs,d::ds,⟨p,q,⟨n,hn⟩,h2,e⟩=>
    subst e
    exact⟨p,q,⟨n,DataW.trod_carry n _ _ _ hn fun x hx=>hb.same (hl x (List.mem_append_left _ hx))⟩,ih h2 (fun x hx=>hl x (List.mem_append_right _ hx)),rfl⟩
 exact h'.respare K hz hT hs
end
end Go.Id
namespace Go.Id
open Go
inductive Sh (t:Nat):D→Prop
 |junk:Sh t .junk
 |bool (b:Bool):Sh t (.bool b)
 |int (k:IntKind) (n:Int):Sh t (.int k n)
 |str (s:List UInt8):Sh t (.str s)
 |slice {sz:Nat} {nil:Bool} {es:List (List D)} {aI:Option Nat} (h:∀e∈es,∀d∈e,Sh t d) (h0:∀e,es[0]?=some e→∃s,e[0]?=some (.str s)) (ht:aI≠some t):Sh t (.slice sz nil es aI)
 |arr {b sz n:Nat} (h:b≠t):Sh t (.arr b sz n)
 |view {b off sz n:Nat} (h:b≠t):Sh t (.view b off sz n)
 |ref {b off:Nat} (h:b≠t):Sh t (.ref b off)
 |aV:Sh t .aV
 |fn {f:Fn} {a b:List D} (h:∀d∈a,Sh t d) (h':∀d∈b,Sh t d):Sh t (.fn f a b)
 |dK:Sh t .dK
 |agg {cs:List D} (h:∀d∈cs,Sh t d):Sh t (.agg cs)
 |aQ {cs:List D} (h:∀d∈cs,Sh t d):Sh t (.aQ cs)
 |aK:Sh t .aK
 |val (v:Value):Sh t (.val v)
 |bI:Sh t .bI
 |map {b:Nat} (h:b≠t):Sh t (.map b)
section
variable {t:Nat}
theorem Sh.rep {M M':Nat→Nat→Prop}{γ γ':Nat→Option G}{w:World}{B:Nat}(hγ:∀i,i≠t→γ' i=γ i)(hM:∀B' off,M' B' off→M B' off∨B'=B)(hB:∀off s,w.cell? ⟨B,off,none⟩=some (.string s)→M B off){d:D}(hd:Sh t d){v:Value}(h:Rep M γ w d v):Rep M' γ' w d v:=by
 induction h with
 |junk v=>exact .junk v
 |bool b=>exact .bool b
 |int k n=>exact .int k n
 |str s=>exact .str s
 | @nilslice sz aI ht=>
  cases hd with
  |slice h h0 hn=>
   refine .nilslice fun t' e=>?_
   have:t'≠t:=fun q=>hn (by rw[e,q])
   rw[hγ _ this];exact ht t' e
 | @slice sz es aI a cap vs hsz hvs hspot hc hr hcap ht ih=>
  cases hd with
  |slice h h0 hn=>
   have hne:∀(j:Nat) (v:Value),vs[j]?=some v→a.block≠B:=by
    intro j v hj e
    have hj':=(acR.1 hj).1
    cases es with
    | nil => have h00:vs.length=0:=by rw[hvs];simp
             omega
    |cons x es=>
     obtain⟨s,hs⟩:=h0 x rfl
     have hl:=hsz x (by simp)
     have hx0:0<x.length:=(acR.1 hs).1
     have h0':0<vs.length:=by omega
     have hv0:=abt h0'
     have hr0:=hr 0 0 x _ vs[0] rfl hs (by simpa using hv0)
     obtain⟨q1,q2,_⟩:=hc 0 _ hv0
     generalize vs[0]=u at hr0 q1
     cases hr0 with
     |str s'=>rw[e] at q1 q2;exact q2 (hB _ _ q1)
   refine .slice vs hsz hvs hspot (fun j v hj=>?_) (fun i j e d v q1 q2 q3=>ih i j e d v q1 q2 q3 (h e (ac8 q1) d (ac8 q2))) hcap (fun t' e=>?_)
   ·obtain⟨q1,q2,q3⟩:=hc j v hj
    exact⟨q1,fun q=>(hM _ _ q).elim q2 (hne j v hj),q3⟩
   ·have:t'≠t:=fun q=>hn (by rw[e,q])
    rw[hγ _ this];exact ht t' e
 |arr hb hn=>cases hd with|arr h=>exact .arr ((hγ _ h).trans hb) hn
 |view hb ha hn=>cases hd with|view h=>exact .view ((hγ _ h).trans hb) ha hn
 |ref hb=>
  cases hd with
  |ref h=>
   refine .ref ?_
   rw[hγ _ h]
   exact hb
 |dV=>cases hd
 |aV=>exact .aV
 |fn hf hk _ _ ih1 ih2=>
  cases hd with
  |fn h h'=>exact .fn hf hk (fun i d v a b=>ih1 i d v a b (h d (ac8 a))) (fun i d v a b=>ih2 i d v a b (h' d (ac8 a)))
 |dK=>exact .dK
 |agg hl h1 _ ih=>cases hd with|agg h=>exact .agg hl h1 (fun i d v a b=>ih i d v a b (h d (ac8 a)))
 |aQ hl _ ih=>cases hd with|aQ h=>exact .aQ hl (fun i d v a b=>ih i d v a b (h d (ac8 a)))
 |iface _ ih=>cases hd
 |aK=>exact .aK
 |val v=>exact .val v
 |bI=>exact .bI
 |map hb=>cases hd with|map h=>exact .map ((hγ _ h).trans hb)
end
def NS:D→Prop
 | .int _ _ | .bool _ | .slice _ _ _ _=>True
 | _=>False
theorem NS.not {M:Nat→Nat→Prop}{γ:Nat→Option G}{w:World}{d:D}{s:ByteArray}(h:NS d)(hr:Rep M γ w d (.string s)):False:=by
 cases hr <;> exact h
def TpD (t sz:Nat)(es:List (List D))(d d':D):Prop:=(d'=d∧Sh t d)∨(d= .slice sz false es (some t)∧d'= .arr t sz es.length)
def TpL (t sz:Nat)(es:List (List D)):List D→List D→Prop
 | [],[]=>True
 |d::l,d'::l'=>TpD t sz es d d'∧TpL t sz es l l'
 | _,_=>False
def BSh (t:Nat):bf→Prop
 | .box _ cs | .arr _ cs=>∀d∈cs,Sh t d
 | .map es _=>∀e∈es,Sh t e.2.1
 | .dZ m _ _ _=>m≠t
 | _=>True
theorem TpL.at {t sz:Nat}{es:List (List D)}:∀{l l':List D},TpL t sz es l l'→l'.length=l.length∧∀(i:Nat) d',l'[i]?=some d'→∃d,l[i]?=some d∧TpD t sz es d d'
 | [],[],_=>⟨rfl,fun i d h=>by simp at h⟩
 |d::l,d'::l',h=>by
  obtain⟨h1,h2⟩:=TpL.at h.2
  refine⟨by simp[h1],fun i x hx=>?_⟩
  cases i with
  |zero=>simp at hx;subst hx;exact⟨d,rfl,h.1⟩
  |succ i=>simp at hx;simpa using h2 i x hx
 | [],_::_,h=>h.elim
 | _::_,[],h=>h.elim
theorem BSh.rel {t:Nat}{M M':Nat→Nat→Prop}{γ γ':Nat→Option G}{w:World}{B:Nat}(hγ:∀i,i≠t→γ' i=γ i)(hM:∀B' off,M' B' off→M B' off∨B'=B)(hB:∀off s,w.cell? ⟨B,off,none⟩=some (.string s)→M B off){blk:bf}{g:G}(hb:BSh t blk)(h:dh M γ w blk g):dh M' γ' w blk g:=by
 cases h with
 |box vs e fz hB' hl h1 hr=>exact .box vs e fz hB' hl h1 (fun i d v hd hv=>(hb d (ac8 hd)).rep hγ hM hB (hr i d v hd hv))
 |arr vs e fz hB' hl h1 hr hf=>exact .arr vs e fz hB' hl h1 (fun i d v hd hv=>(hb d (ac8 hd)).rep hγ hM hB (hr i d v hd hv)) hf
 |iter hB'=>exact .iter hB'
 |map en hB' hl hk=>exact .map en hB' hl (fun i e k d n q1 q2=>let ⟨r1,r2,r3⟩:=hk i e k d n q1 q2;⟨r1,r2,(hb _ (ac8 q2)).rep hγ hM hB r3⟩)
 |dZ hB' hm=>exact .dZ hB' ((hγ _ hb).trans hm)
 |dead hB'=>exact .dead hB'
 |aI xs ho=>exact .aI xs ho
end Go.Id
namespace Go.Id
open Go
theorem Weak.rP {ent:List Nat}{st st':St}(hF:∀p∈st'.F,Le (st.get p.1) p.2)(hσ:∀b,lk st'.σ b=lk st.σ b):Weak ent st st':=by
 rintro P E N a w ⟨γ,h1,h2,h3,h4,h5,h6⟩
 have e:lk st'.σ=lk st.σ:=funext hσ
 exact⟨γ,h1,by rw[e];exact h2,h3,h4,h5,fun t=>KF hF t _ _ _ _ (h6 t)⟩
theorem Weak.blk {ent:List Nat}{st:St}{σ':List (Nat × bf)}(b:Nat)(x x':bf)(hb:lk st.σ b=some x)(hσb:lk σ' b=some x')(hσ:∀i,i≠b→lk σ' i=lk st.σ i)(h:∀M γ w g,dh M γ w x g→dh M γ w x' g):Weak ent st ⟨st.F,σ'⟩:=by
 rintro P E N a w ⟨γ,h1,h2,h3,h4,h5,h6⟩
 refine⟨γ,h1,⟨fun i=>?_,h2.dist,h2.outer,h2.apart,h2.inv,h2.low,h2.big⟩,h3,h4,h5,h6⟩
 by_cases hi:i=b
 ·subst hi
  obtain⟨g,q1,q2⟩:=h2.hit hb
  exact .inl ⟨x',g,hσb,q1,h _ _ _ _ q2⟩
 ·show (∃blk g,lk σ' i=some blk∧_)∨(lk σ' i=none∧_)
  rw[hσ i hi]
  exact h2.names i
theorem PV.refl (t sz:Nat):∀l:List D,PV t sz l l
 | []=>trivial
 | _::l=>⟨.inl rfl,PV.refl t sz l⟩
theorem OT.refl (t sz:Nat)(x:bf):OT t sz x x:=by
 cases x with
 |box T cs=>exact⟨rfl,.refl t sz cs⟩
 |arr T cs=>exact⟨rfl,.refl t sz cs⟩
 | _=>exact rfl
theorem BK.refl (t sz:Nat):∀l:List (Nat × bf),BK t sz l l
 | []=>trivial
 |p::l=>⟨rfl,.refl t sz p.2,BK.refl t sz l⟩
theorem zO.refl (t sz:Nat):∀l:List (Nat × D),zO t sz l l
 | []=>trivial
 |p::l=>⟨rfl,.inl rfl,zO.refl t sz l⟩
def FzD (b sz:Nat)(es:List (List D))(d d':D):Prop:=(d'=d∧bY (fun i=>i≠b) d)∨(d= .arr b sz es.length∧d'= .slice sz false es none)
def FzL (b sz:Nat)(es:List (List D)):List D→List D→Prop
 | [],[]=>True
 |d::l,d'::l'=>FzD b sz es d d'∧FzL b sz es l l'
 | _,_=>False
def FzB (b sz:Nat)(es:List (List D)):bf→bf→Prop
 | .box T cs,.box T' cs'=>T'=T∧FzL b sz es cs cs'
 |x,x'=>x'=x∧aB (fun i=>i≠b) x
theorem FzL.at {b sz:Nat}{es:List (List D)}:∀{l l':List D},FzL b sz es l l'→l'.length=l.length∧∀(i:Nat) d',l'[i]?=some d'→∃d,l[i]?=some d∧FzD b sz es d d'
 | [],[],_=>⟨rfl,fun i d h=>by simp at h⟩
 |d::l,d'::l',h=>by
  obtain⟨h1,h2⟩:=FzL.at h.2
  refine⟨by simp[h1],fun i x hx=>?_⟩
  cases i with
  |zero=>simp at hx;subst hx;exact⟨d,rfl,h.1⟩
  |succ i=>simp at hx;simpa using h2 i x hx
 | [],_::_,h=>h.elim
 | _::_,[],h=>h.elim
theorem Weak.freeze {st st':St}(b:Nat)(e:TypeId)(sz:Nat)(es:List (List D))(hb:lk st.σ b=some (.arr e es.flatten))(hsz:∀x∈es,x.length=sz)(h0:0<sz)(hσb:lk st'.σ b=none)(hec:∀x∈es,∀d∈x,bY (fun i=>i≠b) d)
  (hF:∀p∈st'.F,FzD b sz es (st.get p.1) p.2) (hσ:∀i,i≠b→(lk st.σ i=none∧lk st'.σ i=none)∨∃x x',lk st.σ i=some x∧lk st'.σ i=some x'∧FzB b sz es x x'):Weak [] st st':=by
 rintro P E N a w ⟨γ,h1,h2,h3,h4,h5,h6⟩
 have hent:∀b,E.γ b=none:=fun b=>by
  cases h:E.γ b with
  |none=>rfl
  |some g=>exact absurd (h1 b g h) (by simp)
 obtain⟨g,q1,q2⟩:=h2.hit hb
 have pO:=kL es hsz
 cases q2 with
 | @arr _ _ B cap z vs _ fz hB hl hh hr hf=>
  obtain⟨_,hf2,hf3⟩:=hf
  let γ':Nat→Option G:=fun i=>if i=b then none else γ i
  have hγ':∀i g,γ' i=some g→i≠b∧γ i=some g:=by
   intro i g hg
   simp only[γ'] at hg
   split at hg
   ·cases hg
   ·exact⟨by assumption,hg⟩
  have hS:∀i,i≠b→γ' i=γ i:=fun i hi=>by simp[γ',hi]
  have hM:∀B off,aA E.M γ' B off→aA E.M γ B off:=by
   rintro B off (hm | ⟨i,g,hg,hw⟩)
   ·exact .inl hm
   ·exact .inr ⟨i,g,(hγ' i g hg).2,hw⟩
  have hMB:∀off,¬aA E.M γ' B off:=by
   rintro off (hm | ⟨i,g,hg,hw⟩)
   ·exact h2.apart b _ B off q1 rfl hm
   ·obtain⟨r1,r2⟩:=hγ' i g hg
    exact r1 (h2.dist i b g _ B r2 q1 (G.jR hw) rfl)
  have keep:∀d v,Rep (aA E.M γ) γ w d v→bY (fun i=>i≠b) d→Rep (aA E.M γ') γ' w d v:=fun d v hr hc=>(hr.restrict hS hc).sub hM
  have turn:∀d d' v,FzD b sz es d d'→Rep (aA E.M γ) γ w d v→Rep (aA E.M γ') γ' w d' v:=by
   rintro d d' v (⟨rfl,hc⟩ | ⟨rfl,rfl⟩) hrv
   ·exact keep _ _ hrv hc
   ·cases hrv with
    | @arr _ B2 _ _ cap2 hg hn=>
     rw[q1] at hg;cases hg
     have hle:es.length * sz≤vs.size:=by omega
     have htl:(vs.toList.take (es.length * sz)).length=es.length * sz:=by rw[adg];exact amv (by simpa using hle)
     refine CQ hB hsz (vs.toList.take (es.length * sz)) htl rfl (fun u hu=>?_) (fun off _=>hMB off) (fun i j x d u r1 r2 r3=>?_) hn (jk.none _ _ _)
     ·obtain⟨i,hi,rfl⟩:=aja.1 hu
      rw[aoQ]
      exact (hh i _ (by omega) (by rw[← akA];exact abt (by simp at hi ⊢;omega))).1
     ·have hd:=flat_get es hsz i j x d r1 r2
      have hu:vs[i * sz+j]?=some u:=by
       rw[ag3] at r3
       split at r3
       ·simpa using r3
       ·cases r3
      exact keep _ _ (hr _ d u hd hu) (hec x (ac8 r1) d (ac8 r2))
  refine⟨γ',fun i g hg=>(by rw[hent] at hg;cases hg),⟨fun i=>?_,fun i i' g g' B' a1 a2 a3 a4=>h2.dist i i' g g' B' (hγ' _ _ a1).2 (hγ' _ _ a2).2 a3 a4,h2.outer,fun i g B' off a1 a2=>h2.apart i g B' off (hγ' _ _ a1).2 a2,h2.inv,fun i g B' a1 a2=>h2.low i g B' (hγ' _ _ a1).2 a2,h2.big⟩,?_,h4,h5.sub (fun i g hg=>(hγ' i g hg).2),fun k=>?_⟩
  ·by_cases hi:i=b
   ·subst hi;exact .inr ⟨hσb,by simp[γ']⟩
   ·rw[hS i hi]
    rcases hσ i hi with⟨a1,a2⟩ | ⟨x,x',a1,a2,a3⟩
    ·exact .inr ⟨a2,h2.miss a1⟩
    ·obtain⟨gi,c1,c2⟩:=h2.hit a1
     refine .inl ⟨x',gi,a2,c1,?_⟩
     have gen:x'=x∧aB (fun i=>i≠b) x→dh (aA E.M γ') γ' w x' gi:=by
      rintro ⟨rfl,h⟩
      exact (c2.restrict hS h).JU ⟨fun _ _ _ _ h=>h,fun B off h _=>hM B off h,fun _ g h=>⟨g,h,G.le_refl g⟩⟩ (fun _ _=>rfl)
     cases x with
     |box T cs=>
      cases x' with
      |box T' cs'=>
       obtain⟨rfl,hu⟩:=a3
       obtain⟨hlen,hat⟩:=hu.at
       cases c2 with
       |box ws _ fz hB' hl' hh' hr'=>
        refine .box ws _ fz hB' (by omega) hh' (fun j x v hx hv=>?_)
        obtain⟨d0,s1,s2⟩:=hat j x hx
        exact turn _ _ _ s2 (hr' j d0 v s1 hv)
      | _=>exact absurd a3.1 (by simp)
     | _=>cases x' <;> exact gen a3
  ·refine⟨h3.os,h3.tape,h3.output,h3.size,h3.cell,fun B' off hm hlt=>h3.wr B' off (hM _ _ hm) hlt,fun b g0 hg=>(by rw[hent] at hg;cases hg),fun B' hlt hno=>h3.block B' hlt hno,fun i g0 B' hg adL hlt=>h3.old i g0 B' (hγ' _ _ hg).2 adL hlt⟩
  ·show Rep _ _ _ ((lk st'.F k).getD .junk) _
   cases hl':lk st'.F k with
   |none=>exact .junk _
   |some d=>exact turn _ _ _ (hF _ (iZ _ _ _ hl')) (h6 k)
def KO (r:bJ):List Nat × List Nat:=(r.r.BH,r.r.ws.map (·.1))
def xX (ops:Array Oper)(oi:Oper)(ki:List Nat × List Nat)(oj:Oper)(kj:List Nat × List Nat):Bool:=
 (match oi.dst with|some t=>!(rJ ops oj).contains t && !(match oj.dst with|some t'=>t' == t|none=>false)|none=>true) &&
 (match oj.dst with|some t=>!(rJ ops oi).contains t|none=>true) &&
 ki.2.all (fun p=>!kj.1.contains p && !(kj.2.any fun q=>q == p)) && kj.2.all (fun p=>!ki.1.contains p)
def PX (ops:Array Oper)(ks:List (List Nat × List Nat)):Bool:=
 let A:=Region.before ops
 (ops.toList.zipIdx.all fun (o,j)=>o.after.all fun e=>!Region.binds .any e || decide (e.on<j)) &&
 (ops.toList.zipIdx.all fun (o,j)=>(List.range j).all fun i=>!(A.getD j 0).testBit i || o.after.any fun e=>Region.binds .any e && (e.on == i || (decide (i<e.on) && (A.getD e.on 0).testBit i))) &&
 ((ops.toList.zip ks).zipIdx.all fun (q,j)=>((ops.toList.zip ks).take j).zipIdx.all fun (p,i)=>(A.getD j 0).testBit i || xX ops p.1 p.2 q.1 q.2)
theorem X6 (ops:Array Oper)(oi oj:Oper)(ri rj:bJ):xW ops oi ri oj rj=xX ops oi (KO ri) oj (KO rj):=by
 simp only[xW,xX,KO,List.all_map,List.any_map,Function.comp_def]
 rfl
theorem U_ {α β γ:Type}(l:List α)(f:β→γ)(rs:List β)(P:Nat→α × γ→Nat→α × γ→Bool):
  ((l.zip (rs.map f)).zipIdx.all fun (q,j)=>((l.zip (rs.map f)).take j).zipIdx.all fun (p,i)=>P j q i p)=((l.zip rs).zipIdx.all fun (q,j)=>((l.zip rs).take j).zipIdx.all fun (p,i)=>P j (q.1,f q.2) i (p.1,f p.2)):=by
 have e:l.zip (rs.map f)=(l.zip rs).map (fun p=>(p.1,f p.2)):=by
  rw[List.zip_map_right];rfl
 rw[e,List.zipIdx_map,List.all_map]
 congr 1
 funext ⟨q,j⟩
 simp only[Function.comp_def,← List.map_take,List.zipIdx_map,List.all_map,Prod.map]
 rfl
theorem abn (ops:Array Oper)(rs:List bJ):nR ops rs=PX ops (rs.map KO):=by
 unfold nR PX
 simp only[]
 rw[U_ ops.toList KO rs (fun j q i p=>((Region.before ops).getD j 0).testBit i || xX ops p.1 p.2 q.1 q.2)]
 simp only[X6]
theorem SV {f g:Nat→Nat}(h:∀n,g (f n)=n)(l:List Nat)(p:Nat):(l.map f).contains (f p)=l.contains p:=by
 rw[agZ]
 simp only[List.contains_eq_mem,decide_eq_true_eq,List.mem_map]
 constructor
 ·rintro ⟨x,hx,e⟩
  have:=congrArg g e
  rw[h,h] at this;rwa [← this]
 ·exact fun hp=>⟨p,hp,rfl⟩
theorem X7 {f g:Nat→Nat}(h:∀n,g (f n)=n)(ops:Array Oper)(oi oj:Oper)(ki kj:List Nat × List Nat):xX ops oi (ki.1.map f,ki.2.map f) oj (kj.1.map f,kj.2.map f)=xX ops oi ki oj kj:=by
 have hf:∀x y:Nat,(f x == f y)=(x == y):=fun x y=>by
  rw[agZ];simp only[beq_iff_eq]
  exact⟨fun e=>by have:=congrArg g e;rwa [h,h] at this,fun e=>by rw[e]⟩
 simp only[xX,List.all_map,List.any_map,Function.comp_def,SV h,hf]
theorem abo {f g:Nat→Nat}(h:∀n,g (f n)=n)(ops:Array Oper)(ks:List (List Nat × List Nat)):PX ops (ks.map fun k=>(k.1.map f,k.2.map f))=PX ops ks:=by
 unfold PX
 simp only[]
 rw[U_ ops.toList (fun k:List Nat × List Nat=>(k.1.map f,k.2.map f)) ks (fun j q i p=>((Region.before ops).getD j 0).testBit i || xX ops p.1 p.2 q.1 q.2)]
 simp only[X7 h]
theorem X8 {ops:Array Oper}{rs:List bJ}(l:List Nat)(hl:l.Nodup)(ks:List (List Nat × List Nat))(hk:PX ops ks=true)(h:∀f:Nat→Nat,(∀(i:Nat) x,l[i]?=some x→f i=x)→rs.map KO=ks.map fun k=>(k.1.map f,k.2.map f)):nR ops rs=true:=by
 obtain⟨f,g,h1,h2⟩:=lg l hl
 rw[abn,h f h2,abo h1];exact hk
end Go.Id
namespace Go.Id
open Go Go.ChangeMaps
section
variable {P:dF} {ent:List Nat} {N:Nat} {Q:Exit→St→Prop} {st:St}
theorem WP.G_ {id:Nat}{ops:Array Oper}{x:Operand}{o:Oper}{os:List Oper}{b m since clock n:Nat}{seen:List Nat}{es:List (List UInt8 × D × Nat)}{k:List UInt8}{d:D}(hd:dD N ops=true)(hos:ops.toList=o::os)(hop:o.op= .entry x)(hg:o.guard=none)
  (hx:bT st.get x= .ref b 0) (hb:lk st.σ b=some (.dZ m since (seen++[n]) clock)) (hm:lk st.σ m=some (.map es clock)) (he:(k,d,n)∈es) (hn:(es.map (·.2.2)).Nodup)
  (h1:∀K:St→List bJ→Prop,(∀st' rs,Q .normal st'→K st' rs)→ah P ops os (st.put o.dst (.aQ [.str k,d])) [] K):
  WP P ent N (.region id ops false) Q st:=by
 intro Fe nf hF E a w hr
 have hko:ops[0]?=some o:=by
  have:ops.toList[0]?=some o:=by rw[hos];rfl
  simpa using this
 have hmem:o∈ops:=ajY hko
 have hsz:ops.size=os.length+1:=by rw[← alx,hos];rfl
 refine wpIn_region ?_
 rw[hsz,apD,al8,wpOpsIn,hko]
 dsimp only
 rw[if_pos (by simp[Region.wanted,hg])]
 have hdst:=dM hd hmem
 have go:∀(st1:St) (a':Act) (w':World),(∀K:St→List bJ→Prop,(∀st' rs,Q .normal st'→K st' rs)→ah P ops os st1 [] K)→Rel E ent N st1.get (lk st1.σ) a' w'→
   wpOpsIn Fe nf P.prog ops (fun e a' w'=>∃st',Q e st'∧Rel E ent N st'.get (lk st'.σ) a' w') (List.range' (0+1) os.length) a' w':=by
  intro st1 a' w' h hr'
  obtain⟨rs,st',hc,hk⟩:=ah.chain _ _ _ _ (h (fun st' _=>Q .normal st') (fun _ _ h=>h))
  exact hc.wpOps hF.1 (nf:=nf) hd _ 1 (by rw[hos];rfl) a' w' hr' (fun a'' w'' adJ=>⟨st',hk,adJ⟩)
 have hr0:=hr
 obtain⟨γ,q1,q2,q3,q4,q5,q6⟩:=hr
 have hev:=iY q6 x
 rw[hx] at hev
 generalize hv:a.eval x=v at hev
 obtain⟨g,r2,r3⟩:=q2.hit hb
 obtain⟨g',r4,r5⟩:=q2.hit hm
 cases r3 with
 | @dZ _ _ _ B Bm _ hB hmB=>
  rw[r4] at hmB;cases hmB
  cases r5 with
  | @map _ _ _ en hBm hl hk=>
   cases hev with
   | @ref _ B' _ hγ=>
    obtain rfl:B'=B:=by
     rcases hγ with hγ | ⟨_,_,hγ⟩|hγ <;> rw[r2] at hγ <;> cases hγ
     rfl
    obtain⟨i,hi,hie⟩:=aja.1 he
    have hi':i<en.size:=by omega
    obtain⟨p1,p2,p3⟩:=hk i en[i] es[i].1 es[i].2.1 es[i].2.2 (adr hi') (abt hi)
    rw[hie] at p1 p2 p3
    have hborn:en.toList.map (·.born)=es.map (·.2.2):=by
     apply List.ext_getElem (by simpa using hl)
     intro j hj1 hj2
     simp only[ac'] at hj1 hj2
     have hj:j<en.size:=by simpa using hj1
     obtain⟨_,s2,_⟩:=hk j en[j] es[j].1 es[j].2.1 es[j].2.2 (adr hj) (abt hj2)
     simpa using s2
    have hB1:w.heap[B']?=some (.mapIter (some Bm) since (seen.toArray.push en[i].born) clock):=by
     rw[hB]
     have:en[i].born=n:=p2
     rw[this];simp
    have hrun:=run_entry_at (P:=P.prog) w B' Bm since seen.toArray en clock en[i] hB1 hBm (by simp) (by rw[hborn];exact hn)
    unfold Oper.wpIn
    refine⟨fun f _=>hF.1.fn f,?_⟩
    rw[Oper.semAt_plain Fe _ _ (by rw[hop];intro c hc';cases hc')]
    simp[execOp,hop,hv,hrun,Result.andThen]
    refine go _ _ _ h1 ?_
    rw[get_put,put_σ]
    refine⟨γ,q1,q2,q3,by rw[iE];exact q4,by rw[put_defers];exact q5,kZ (by rw[q4];exact hdst) ?_ q6⟩
    refine .aQ rfl (fun i' d' v' z1 z2=>?_)
    match i' with
    | 0=>simp at z1 z2;subst z1;subst z2;rw[p1];have:=Rep.str (M:=aA E.M γ) (γ:=γ) (w:=w) ⟨k.toArray⟩;simpa using this
    | 1=>simp at z1 z2;subst z1;subst z2;exact p3
    |i+2=>simp at z1
end
end Go.Id
namespace Go.Id
open Go
def jq (P:dF)(x:Value)(fo:D)(args:List D)(st:St)(K:List (Nat × bf)→Prop):Prop:=
 ∃k first cap ins ws,fo= .fn (.func k) first cap∧gU P (some x) k ((first++args++cap).map fg) ins .junk ws∧
  (∀b blk,lk ins b=some blk→lk st.σ b=some blk∧aB (fun i=>(lk ins i).isSome=true) blk)∧(∀b,(lk ws b).isSome=true→(lk ins b).isSome=true∨lk st.σ b=none)∧
  (∀d∈(first++args++cap).map fg,bY (fun i=>(lk ins i).isSome=true) d)∧K ws
section
variable {P:dF} {ent:List Nat} {N:Nat} {Q:Exit→St→Prop} {st:St}
theorem WP.nS {id:Nat}{ops:Array Oper}(n:Nat){o:Oper}{os2:List Oper}{x:Value}{fo:Operand}{args:Array Operand}{ts:Array TypeId}(hd:dD N ops=true)(hos:ops.toList.drop n=o::os2)(hg:o.guard=none)
  (hop:o.op= .call { callee:= .value fo,args:=args,argTypes:=ts })
  (h:∀K:St→List bJ→Prop,(∀st' rs,jq P x (bT st'.get fo) (args.toList.map (bT st'.get)) st' (fun ws=>Q (.panic [{ v:=x,recovered:=false }]) (st'.lay ws))→K st' rs)→ah P ops (ops.toList.take n) st [] K):
  WP P ent N (.region id ops false) Q st:=by
 intro Fe nf hF E a w hr
 have hlt:n<ops.toList.length:=by
  rcases apG n ops.toList.length with h|h
  ·exact h
  ·rw[amX h] at hos;cases hos
 have htk:(ops.toList.take n).length=n:=by rw[adg];omega
 refine rO hF.1 hd (ops.toList.take n) (o::os2) (by rw[← hos,aki]) h hr ?_
 rintro st' a' w' ⟨k,first,cap,ins,ws,h1,h2,h3,h4,h5,h6⟩ hr' hk
 rw[htk]
 have hko:ops[n]?=some o:=by
  have:(ops.toList.drop n)[0]?=some o:=by rw[hos];rfl
  simpa [ahz] using this
 rw[abN,al8]
 refine pR hko hg ?_
 refine gU.op hF.1 hr' hop h1 h2 h3 h4 h5 (dM hd (ajY hko)) _ _ (fun e=>by cases e) (fun y e w'' adJ=>?_)
 cases e
 exact⟨_,h6,by rw[oZ,lay_σ];exact adJ⟩
theorem WP.akL {id:Nat}{ops:Array Oper}(n:Nat){o:Oper}{os2:List Oper}{t:TypeId}{x:Value}{y:Operand}(hd:dD N ops=true)(hos:ops.toList.drop n=o::os2)(hg:o.guard=none)(hop:o.op= .panic y)
  (h:∀K:St→List bJ→Prop,(∀st' rs,(∀(M:Nat→Nat→Prop) (γ:Nat→Option G) (w:World) (v:Value),Rep M γ w (bT st'.get y) v→v= .iface t x)→Q (.panic [{ v:= .iface t x,recovered:=false }]) st'→K st' rs)→ah P ops (ops.toList.take n) st [] K):
  WP P ent N (.region id ops false) Q st:=by
 intro Fe nf hF E a w hr
 have hlt:n<ops.toList.length:=by
  rcases apG n ops.toList.length with h|h
  ·exact h
  ·rw[amX h] at hos;cases hos
 have htk:(ops.toList.take n).length=n:=by rw[adg];omega
 refine rO hF.1 hd (ops.toList.take n) (o::os2) (by rw[← hos,aki]) (Q:=fun st'=>(∀(M:Nat→Nat→Prop) (γ:Nat→Option G) (w:World) (v:Value),Rep M γ w (bT st'.get y) v→v= .iface t x)∧Q (.panic [{ v:= .iface t x,recovered:=false }]) st')
  (fun K hK=>h K fun st' rs h1 h2=>hK st' rs ⟨h1,h2⟩) hr ?_
 rintro st' a' w' ⟨h1,h2⟩ hr' hk
 rw[htk]
 have hko:ops[n]?=some o:=by
  have:(ops.toList.drop n)[0]?=some o:=by rw[hos];rfl
  simpa [ahz] using this
 rw[abN,al8]
 refine pR hko hg ⟨fun f _=>hF.1.fn f,?_⟩
 rw[Oper.semAt_plain Fe _ _ (by rw[hop];intro c hc;cases hc)]
 have hv:a'.eval y= .iface t x:=by
  obtain⟨γ,r1,r2,r3,r4,r5,r6⟩:=hr'
  exact h1 _ _ _ _ (iY r6 y)
 have hrun:(execOp a'.eval o).run P.prog w'= .halt (.panic (.iface t x)) w':=by
  simp[execOp,hop,hv,Instr.panic]
 rw[hrun]
 exact⟨st',h2,hr'⟩
end
end Go.Id
