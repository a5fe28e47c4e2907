import Derived.Test.YtekopfoidhhedaaGreatDoorG10
import Derived.Test.YtekopfoidhhedaaGreatDoorG08
import Derived.Lib.ConvBytes
import Derived.Laws.MakeOwn
import Derived.Laws.Runes
set_option linter.unusedVariables false
set_option linter.unusedSimpArgs false
set_option linter.unnecessarySimpa false
namespace Go.Id
open Go
section
variable {P:dF} {ent:List Nat} {N:Nat} {Q:Exit→St→Prop} {st:St}
theorem WP.S (ks:List Nat){id:Nat}{ops:Array Oper}{y:Code}(h:∀K:St→List bJ→Prop,(∀st' rs,WP P ent N y Q ⟨Go.Id.keep ks st'.F,st'.σ⟩→K st' rs)→ah P ops ops.toList st [] K)
  (hd:dD N ops=true:=by kernel_rfl):WP P ent N (.seq (.region id ops false) y) Q st:=WP.sr ks hd h
theorem WP.R {id:Nat}{ops:Array Oper}(h:∀K:St→List bJ→Prop,(∀st' rs,Q .normal st'→K st' rs)→ah P ops ops.toList st [] K)
  (hd:dD N ops=true:=by kernel_rfl):WP P ent N (.region id ops false) Q st:=WP.region hd h
theorem WP.D (ks:List Nat){id:Nat}{ops:Array Oper}{y:Code}(h:∀K:St→List bJ→Prop,(∀st' rs,nR ops rs=true→WP P ent N y Q ⟨Go.Id.keep ks st'.F,st'.σ⟩→K st' rs)→ah P ops ops.toList st [] K)
  (hm:P.prog.follows .mixedOrders=true:=by kernel_rfl) (hd:dD N ops=true:=by kernel_rfl):WP P ent N (.seq (.region id ops true) y) Q st:=WP.sd ks hm hd h
theorem WP.E {id:Nat}{ops:Array Oper}(h:∀K:St→List bJ→Prop,(∀st' rs,nR ops rs=true→Q .normal st'→K st' rs)→ah P ops ops.toList st [] K)
  (hm:P.prog.follows .mixedOrders=true:=by kernel_rfl) (hd:dD N ops=true:=by kernel_rfl):WP P ent N (.region id ops true) Q st:=WP.drawn hm hd h
theorem WP.cT {c:Operand}{x y:Code}(h:WP P ent N x Q st)(hc:bT st.get c= .bool true:=by rfl):WP P ent N (.cond c x y) Q st:=WP.cond hc (fun _=>h) nofun
theorem WP.cF {c:Operand}{x y:Code}(h:WP P ent N y Q st)(hc:bT st.get c= .bool false:=by rfl):WP P ent N (.cond c x y) Q st:=WP.cond hc nofun fun _=>h
end
theorem aj.P {P:dF}{fo:D}{args:List D}{σ:List (Nat × bf)}{K:D→Rec→Prop}{k:FuncId}{first cap as:List D}{val:D}(h:ay P k as val)(hfo:fo= .fn (.func k) first cap)(has:as=(first++args++cap).map fg)(hk:K val ⟨[],[]⟩)
  (hcl:∀d∈as,bY (fun _=>False) d:=by simp[-List.map_take]):aj P fo args σ K:=aj.pure h hfo has hcl hk
theorem aj.I {P:dF}{fo:D}{args:List D}{σ:List (Nat × bf)}{K:D→Rec→Prop}{k:FuncId}{first cap as:List D}{ins outs:List (Nat × bf)}{val:D}(h:aF P k as ins val outs)(hfo:fo= .fn (.func k) first cap)(has:as=(first++args++cap).map fg)(hk:K val ⟨ins.map (·.1)++outs.map (·.1),outs⟩)
  (hin:∀p∈ins,lk σ p.1=some p.2∧aB (fun i=>(lk ins i).isSome=true) p.2:=by simp[lk,aB]) (hout:∀p∈outs,(lk ins p.1).isSome=true∨lk σ p.1=none:=by simp[lk])
  (hcl:∀d∈as,bY (fun i=>(lk ins i).isSome=true) d:=by simp[lk,fg]):aj P fo args σ K:=aj.imp h hfo has hin hout hcl hk
theorem Ends.P {P:dF}{fn:Func}{val d:D}{e:Exit}{st:St}(hd:resD P.prog fn st=some d)(hle:Le d val)(he:e= .normal∨e= .ret:=by simp)(hcl:bY (fun _=>False) val:=by simp):Ends P fn [] val [] e st:=Ends.pure he hd hle hcl
theorem ay.W {P:dF}{k:FuncId}{fn:Func}{c:Code}{args:List D}{val:D}{N:Nat}(hf:P.prog.funcs[k]?=some fn)(hN:fn.ntmps=N)(h:WP P [] N c (Ends P fn [] val []) ⟨aT 0 args,[]⟩)
  (hb:fn.body=some c:=by rfl) (hn:(fn.name == "runtime.NumGoroutine")=false:=by kernel_rfl) (hle:args.length≤N:=by simp):ay P k args val:=ay.of_wp hf hb hn hN hle h
theorem PY (n:Nat):Int.toNat (no_index (OfNat.ofNat n))=OfNat.ofNat n:=rfl
end Go.Id
namespace Go.Id
open Go
def FB (σ:Nat→Option bf)(b:Nat)(e:TypeId)(sz:Nat)(cs:List D)(n:Nat)(x:D):Prop:=
 (((σ b=none∧∃z,x= .slice z true [] none)∨(σ b=some (.aI e sz 0)∧∃z,x= .slice z true [] (some b)))∧cs=[]∧n=0)∨(σ b=some (.arr e cs)∧cs.length=n * sz∧x= .arr b sz n)
section
variable {P:dF} {E:BI P} {ent:List Nat} {N:Nat} {F:Nat→D} {σ:Nat→Option bf} {a:Act} {w:World}
theorem Rel.X_ (h:Rel E ent N F σ a w){t e:TypeId}{sz by' b n sz':Nat}{cs:List D}{nl:Bool}{es':List (List D)}{aI:Option Nat}{x y:Operand}(ty:TypeId)
  (he:cu P.prog t=some (e,sz,by')) (hok:iK P.prog e=true) (hox:FB σ b e sz cs n (bT F x)) (hoy:bT F y= .slice sz' nl es' aI) (hne:es'≠[]) (hsz':sz'=sz)
  (he9:e<1000000) (h63:n+es'.length≤9223372036854775807) (hby:(n+es'.length) * by'≤140737488355328) (hent:b ∉ ent)
  (hcs:∀d∈cs,bY (fun i=>i≠b) d) (hes:∀x∈es',∀d∈x,bY (fun i=>i≠b) d) (hσ:∀i blk,i≠b→σ i=some blk→aB (fun i=>i≠b) blk)
  {F':Nat→D} (hF:∀k,F' k= .junk∨(F' k=F k∧bY (fun i=>i≠b) (F k))):
  ∃v w',(Builtin.append_ #[t,t] ty #[a.eval x,a.eval y]).run P.prog w= .ok v w'∧
   ∀dst,(∀d,dst=some d→d<N)→Rel E ent N (oh F' dst (.arr b sz (n+es'.length))) (upd σ b (some (.arr e (cs++es'.flatten)))) (a.put dst v) w':=by
 subst hsz'
 obtain⟨γ,h1,h2,h3,h4,h5,h6⟩:=h
 obtain⟨i,ht,hi,rfl,rfl⟩:=fU he
 obtain⟨i',z,hi',hz,hzs⟩:=pG hok
 rw[hi] at hi';cases hi'
 have hx:=iY h6 x
 have hy:=iY h6 y
 rw[hoy] at hy
 have amS:E.γ b=none:=by
  cases hq:E.γ b with
  |none=>rfl
  |some g=>exact absurd (h1 b g hq) hent
 rcases aZ hy with⟨_,h0,_⟩ | ⟨ad,c,vs',hyv,_,hspot,hvs',hcc,hsz2,hc',hr',_⟩
 ·exact absurd h0 hne
 have hm:0<es'.length:=akT.2 hne
 have h1n:∀u∈vs',u.oneCell'=true:=fun u hu=>by
  obtain⟨j,hj⟩:=aov hu
  exact (hc' j u hj).2.2
 have hown:∃xs:List Value,w.ownsRow 0 e i.size (a.eval x) n xs∧xs.length=cs.length∧cs.length=n * i.size∧(∀(j:Nat) d u,cs[j]?=some d→xs[j]?=some u→Rep (aA E.M γ) γ w d u)∧(∀u∈xs,u.oneCell'=true)∧
   (∀B,(a.eval x).ownBlock=some B→∃cap,γ b=some (.arr B cap i.size)):=by
  rcases hox with⟨hb,rfl,rfl⟩ | ⟨hb,hlen,hx0⟩
  ·have:a.eval x= .slice none 0 0:=by
    rcases hb with⟨_,z0,hx0⟩ | ⟨_,z0,hx0⟩ <;> rw[hx0] at hx <;> generalize a.eval x=xv at hx ⊢ <;> cases hx <;> rfl
   rw[this]
   exact⟨[],World.ownsRow_nil w 0 e i.size,rfl,by simp,by simp,by simp,fun B hB=>by cases hB⟩
  ·rw[hx0] at hx
   obtain⟨g,q1,q2⟩:=h2.hit hb
   cases q2 with
   | @arr e0 _ B cap zz vs _ fz hB hl hh hr hf=>
    obtain⟨hff,hf2,hf3⟩:=hf
    obtain⟨rfl,rfl⟩:=zJ hff he9
    generalize hav:a.eval x=xv at hx
    cases hx with
    | @arr _ B' _ _ cap' hγ hn=>
     rw[q1] at hγ;cases hγ
     have hle:n * i.size≤vs.size:=by rw[hf2];exact aj2 _ hn
     have htl:(vs.toList.take (n * i.size)).length=n * i.size:=by rw[adg];exact amv (by simpa using hle)
     refine⟨vs.toList.take (n * i.size),⟨htl,.inr ⟨B,cap,vs,rfl,ada _,hB,hn,hf3,hf2,rfl⟩⟩,by rw[htl,hlen],hlen,fun j d u hd hu=>?_,fun u hu=>?_,fun B' hB'=>?_⟩
     ·have hj:=(acR.1 hd).1
      rw[ag3,if_pos (by omega)] at hu
      exact hr j d u hd (by simpa using hu)
     ·obtain⟨j,hj⟩:=aov hu
      have hjl:=(acR.1 hj).1
      rw[ag3,if_pos (by omega)] at hj
      exact (hh j u (by omega) (by simpa using hj)).1
     ·simp only[Value.ownBlock,abr] at hB'
      subst hB'
      exact⟨_,q1⟩
 obtain⟨xs,hown,hxl,hlen,hxr,hx1,hxb⟩:=hown
 obtain⟨B,cap,cur,w',hrun,e1,e2,e3,e4,hB,hcsz,hcap,hcm,htake,xP⟩:=Ku (P:=P.prog) (w:=w) ht hi hz hzs ty (a.eval x) n xs hown ad es'.length c vs' hvs'
  (fun j u hu=>by rw[pF (hspot hne)];exact (hc' j u hu).1) h1n hm h63 hby
 rw[← hyv] at hrun
 have hwh:(B=w.heap.size∧∀k,k<w.heap.size→w'.heap[k]?=w.heap[k]?)∨(∃cap0,γ b=some (.arr B cap0 i.size)∧∀k,k≠B→w'.heap[k]?=w.heap[k]?):=by
  rcases xP with q | ⟨q1,q2⟩
  ·exact .inl q
  ·obtain⟨c0,q3⟩:=hxb B q1
   exact .inr ⟨c0,q3,q2⟩
 let g':G:= .arr B cap i.size
 have hother:∀j,j≠b→upd γ b (some g') j=γ j:=fun j hj=>bn _ _ hj
 have hMw:∀B' off,aA E.M (upd γ b (some g')) B' off→B' < w.heap.size→aA E.M γ B' off:=by
  intro B' off hM hlt
  rcases aA.XJ hM with q|q
  ·exact q
  ·simp only[g',G.wr] at q
   subst q
   rcases hwh with⟨rfl,_⟩ | ⟨c0,q1,_⟩
   ·omega
   ·exact .inr ⟨b,_,q1,rfl⟩
 have hsame:∀B',B' < w.heap.size→(∀c0,γ b≠some (.arr B' c0 i.size))→w'.heap[B']?=w.heap[B']?:=by
  intro B' hlt hno
  rcases hwh with⟨_,q⟩ | ⟨c0,q1,q⟩
  ·exact q B' hlt
  ·exact q B' (fun e=>hno c0 (e ▸ q1))
 have hcell:∀B' off u,¬aA E.M γ B' off→w.cell? ⟨B',off,none⟩=some u→w'.cell? ⟨B',off,none⟩=some u:=by
  intro B' off u hM hu
  rw[World.cell?_of_block (w:=w) (w':=w') (by simpa using hsame B' (cell_lt hu) (fun c0 q=>hM (.inr ⟨b,_,q,rfl⟩)))]
  exact hu
 let γ₀:Nat→Option G:=fun j=>if j=b then none else γ j
 have hS:∀j,j≠b→γ₀ j=γ j:=fun j hj=>by simp[γ₀,hj]
 have amT:Evo (aA E.M γ) γ₀ w (aA E.M (upd γ b (some g'))) (upd γ b (some g')) w':=
  ⟨hcell,hMw,fun j g hg=>by
   by_cases hj:j=b
   ·simp[γ₀,hj] at hg
   ·rw[hS j hj] at hg
    exact⟨g,(hother j hj).trans hg,G.le_refl g⟩⟩
 have move:∀{d:D} {u:Value},Rep (aA E.M γ) γ w d u→bY (fun j=>j≠b) d→Rep (aA E.M (upd γ b (some g'))) (upd γ b (some g')) w' d u:=fun hd hc=>(hd.restrict hS hc).JU amT
 have hblk:∀j gj B',j≠b→γ j=some gj→gj.block=some B'→w'.heap[B']?=w.heap[B']?:=by
  intro j gj B' hj hg hB'
  exact hsame B' (h2.lt hg hB') (fun c0 q=>hj (h2.dist j b _ _ B' hg q hB' rfl))
 have ajA:∀j gj,j≠b→γ j=some gj→gj.block=some B→False:=by
  intro j gj hj hg hBj
  rcases hwh with⟨rfl,_⟩ | ⟨c0,q1,_⟩
  ·have:=h2.lt hg hBj;omega
  ·exact hj (h2.dist j b _ _ B hg q1 hBj rfl)
 have ajB:P.n≤B∧(∀off,¬E.M.M B off):=by
  rcases hwh with⟨rfl,_⟩ | ⟨c0,q1,_⟩
  ·exact⟨h2.big,fun off hm=>by have:=(h2.outer _ _ hm).2;omega⟩
  ·exact⟨h2.low b _ B q1 rfl,fun off hm=>h2.apart b _ B off q1 rfl hm⟩
 have hback:∀j gj B',upd γ b (some g') j=some gj→gj.block=some B'→B' < w.heap.size→∃gj',γ j=some gj'∧gj'.block=some B':=by
  intro j gj B' hg hB' hlt
  by_cases hj:j=b
  ·subst hj
   rw[upd_same] at hg;cases hg
   simp only[g',G.block,abr] at hB'
   subst hB'
   rcases hwh with⟨rfl,_⟩ | ⟨c0,q1,_⟩
   ·omega
   ·exact⟨_,q1,rfl⟩
  ·rw[hother j hj] at hg;exact⟨gj,hg,hB'⟩
 have pO:=kL es' hsz2
 have hst:Store E.M (upd γ b (some g')) (upd σ b (some (.arr e (cs++es'.flatten)))) w':=by
  refine⟨fun j=>?_,fun j j' gj gj' B' a1 a2 a3 a4=>?_,fun B' off hm=>⟨(h2.outer B' off hm).1,aj0 (h2.outer B' off hm).2 e4⟩,fun j gj B' off a1 a2 hm=>?_,?_,fun j gj B' a1 a2=>?_,ag9 h2.big e4⟩
  ·by_cases hj:j=b
   ·subst hj
    refine .inl ⟨_,g',upd_same _ _ _,upd_same _ _ _,?_⟩
    have hat:∀j u,j<(n+es'.length) * i.size→cur[j]?=some u→(xs++vs')[j]?=some u:=by
     intro j u hj hu
     rw[← htake,ag3,if_pos hj];simpa using hu
    have hl2:(cs++es'.flatten).length=(n+es'.length) * i.size:=by rw[abf,hlen,pO,akU]
    refine .arr cur e (0,0) hB (by rw[hl2,hcsz];exact aj2 _ hcap) (fun j u hj hu=>⟨?_,by simp[World.frozen?,hB]⟩) (fun j d u hd hu=>?_) ⟨.inl ⟨rfl,rfl⟩,hcsz,hcm⟩
    ·rw[hl2] at hj
     exact (List.mem_append.1 (ac8 (hat j u hj hu))).elim (hx1 u) (h1n u)
    ·have hj:=(acR.1 hd).1
     rw[hl2] at hj
     have hu':=hat j u hj hu
     by_cases hjc:j<cs.length
     ·rw[ag2 hjc] at hd
      rw[ag2 (by omega)] at hu'
      exact move (hxr j d u hd hu') (hcs d (ac8 hd))
     ·rw[ag7 (by omega)] at hd
      rw[ag7 (by omega),hxl] at hu'
      obtain⟨x0,r1,r2⟩:=wC es' hsz2 (j - cs.length) d hd
      exact move (hr' _ _ x0 d u r1 r2 (by rw[Nat.div_add_mod'];exact hu')) (hes x0 (ac8 r1) d (ac8 r2))
   ·rcases h2.names j with⟨blk,gj,q1,q2,q3⟩ | ⟨q1,q2⟩
    ·exact .inl ⟨blk,gj,by rw[bn _ _ hj];exact q1,(hother j hj).trans q2,(q3.restrict hS (hσ j blk hj q1)).JU amT (fun B' hB'=>hblk j gj B' hj q2 hB')⟩
    ·exact .inr ⟨by rw[bn _ _ hj];exact q1,(hother j hj).trans q2⟩
  ·by_cases hj:j=b <;> by_cases hj':j'=b
   ·rw[hj,hj']
   ·subst hj
    rw[upd_same] at a1;cases a1
    rw[hother j' hj'] at a2
    simp only[g',G.block,abr] at a3
    subst a3
    exact (ajA j' gj' hj' a2 a4).elim
   ·subst hj'
    rw[upd_same] at a2;cases a2
    rw[hother j hj] at a1
    simp only[g',G.block,abr] at a4
    subst a4
    exact (ajA j gj hj a1 a3).elim
   ·rw[hother j hj] at a1
    rw[hother j' hj'] at a2
    exact h2.dist j j' gj gj' B' a1 a2 a3 a4
  ·by_cases hj:j=b
   ·subst hj
    rw[upd_same] at a1;cases a1
    simp only[g',G.block,abr] at a2
    subst a2
    exact ajB.2 off hm
   ·rw[hother j hj] at a1;exact h2.apart j gj B' off a1 a2 hm
  ·refine E.M.stable w w' h2.inv (fun k hk=>hsame k (aj0 hk h2.big) (fun c0 q=>?_))
   have:=h2.low b _ k q rfl
   exact absurd hk (Nat.not_lt.2 this)
  ·by_cases hj:j=b
   ·subst hj
    rw[upd_same] at a1;cases a1
    simp only[g',G.block,abr] at a2
    subst a2
    exact ajB.1
   ·rw[hother j hj] at a1;exact h2.low j gj B' a1 a2
 refine⟨_,w',hrun,fun dst hdst=>⟨upd γ b (some g'),h1,hst,?_,by rw[iE];exact h4,?_,?_⟩⟩
 ·refine⟨e1.trans h3.os,e2.trans h3.tape,e3.trans h3.output,ag9 h3.size e4,fun B' off u hm hu=>?_,fun B' off hm hlt=>?_,fun j gj hg=>?_,fun B' hlt hno=>?_,fun j gj B' hg hB' hlt=>?_⟩
  ·refine hcell B' off u (fun hm'=>hm (h3.wr B' off hm' (cell_lt hu))) (h3.cell B' off u hm hu)
  ·exact h3.wr B' off (hMw B' off hm (aj0 hlt h3.size)) hlt
  ·have hj:j≠b:=fun e=>by rw[e,amS] at hg;cases hg
   obtain⟨g1,q1,q2⟩:=h3.names j gj hg
   exact⟨g1,(hother j hj).trans q1,q2⟩
  ·refine (hsame B' (aj0 hlt h3.size) (fun c0 q=>?_)).trans (h3.block B' hlt hno)
   obtain⟨b',g1,q1,q2⟩:=h3.old b _ B' q rfl hlt
   exact hno b' g1 q1 q2
  ·obtain⟨g1,q1,q2⟩:=hback j gj B' hg hB' (aj0 hlt h3.size)
   exact h3.old j g1 B' q1 q2 hlt
 ·rw[put_defers]
  obtain⟨Ds,d1,d2,d3⟩:=h5
  refine⟨Ds,d1,d2,fun D hD=>?_⟩
  obtain⟨q1,q2,q3⟩:=d3 D hD
  have hlt:D<w.heap.size:=(ag6.1 q2).1
  refine⟨q1,(hsame D hlt (fun c0 q=>q3 b _ q rfl)).trans q2,fun j gj hg hBj=>?_⟩
  obtain⟨g1,r1,r2⟩:=hback j gj D hg hBj hlt
  exact q3 j g1 r1 r2
 ·refine kZ (by rw[h4];exact hdst) (.arr (upd_same _ _ _) hcap) (fun k=>?_)
  rcases hF k with q | ⟨q1,q2⟩
  ·rw[q];exact .junk _
  ·rw[q1];exact move (h6 k) q2
end
def apf (P:dF)(ent:List Nat)(t:TypeId)(x y:Operand)(st:St)(K:St→D→Prop):Prop:=
 ∃e sz by' b n cs sz' nl es' aI F',cu P.prog t=some (e,sz,by')∧iK P.prog e=true∧FB (lk st.σ) b e sz cs n (bT st.get x)∧bT st.get y= .slice sz' nl es' aI∧es'≠[]∧sz'=sz∧e<1000000∧
  n+es'.length≤9223372036854775807∧(n+es'.length) * by'≤140737488355328∧b ∉ ent∧(∀d∈cs,bY (fun i=>i≠b) d)∧(∀x∈es',∀d∈x,bY (fun i=>i≠b) d)∧
  (∀i blk,i≠b→lk st.σ i=some blk→aB (fun i=>i≠b) blk)∧(∀p∈F',st.get p.1=p.2∧bY (fun i=>i≠b) p.2)∧
  K ⟨F',(b,.arr e (cs++es'.flatten))::dl st.σ b⟩ (.arr b sz (n+es'.length))
section
variable {P:dF} {ent:List Nat} {N:Nat} {Q:Exit→St→Prop} {st:St}
theorem WP.X_ {id:Nat}{ops:Array Oper}(n:Nat){o:Oper}{os2:List Oper}{x y:Operand}{t:TypeId}(hd:dD N ops=true)(hos:ops.toList.drop n=o::os2)(hg:o.guard=none)
  (hop:o.op= .call { callee:= .builtin .append,args:=#[x,y],argTypes:=#[t,t] })
  (h:∀K:St→List bJ→Prop,(∀st' rs,apf P ent t x y st' (fun s d=>∀K2:St→List bJ→Prop,(∀s' r,Q .normal s'→K2 s' r)→ah P ops os2 (s.put o.dst d) [] K2)→K st' rs)→ah P ops (ops.toList.take n) st [] K):
  WP P ent N (.region id ops false) Q st:=by
 intro Fe nf hF E a w hr
 have hlt:n<ops.toList.length:=by
  rcases apG n ops.toList.length with h|h
  ·exact h
  ·rw[amX h] at hos;cases hos
 have htk:(ops.toList.take n).length=n:=by rw[adg];omega
 refine rO hF.1 hd (ops.toList.take n) (o::os2) (by rw[← hos,aki]) h hr ?_
 rintro st' a' w' ⟨e,sz,by',b,m,cs,sz',nl,es',aI,F',q1,q2,q3,q4,q5,q6,q0,q7,q8,q9,q10,q11,q12,q13,hk⟩ hr' hkeep
 rw[htk]
 have hko:ops[n]?=some o:=by
  have:(ops.toList.drop n)[0]?=some o:=by rw[hos];rfl
  simpa [ahz] using this
 rw[abN,al8]
 obtain⟨v,w2,hrun,hrel⟩:=Rel.X_ hr' o.type q1 q2 q3 q4 q5 q6 q0 q7 q8 q9 q10 q11 q12 (F':=(⟨F',[]⟩:St).get) (fun k=>by
  show (lk F' k).getD .junk=_∨_
  cases hl:lk F' k with
  |none=>exact .inl rfl
  |some d=>
   obtain⟨r1,r2⟩:=q13 _ (iZ _ _ _ hl)
   dsimp only at r1 r2
   refine .inr ⟨?_,by rw[r1];exact r2⟩
   show (lk F' k).getD .junk=_
   rw[hl,r1];rfl)
 refine pR hko hg ⟨fun f _=>hF.1.fn f,?_⟩
 rw[Oper.semAt_plain Fe _ _ (by rw[hop];intro c hc;cases hc)]
 have hex:(execOp a'.eval o).run P.prog w'= .ok (.value v) w2:=by
  simpa only[execOp,hop,resolve,invoke,builtin,Sem.run_bind,Sem.run_pure,Result.andThen_ok,amP,ag1,aj9] using (by rw[hrun];rfl:((Builtin.append_ #[t,t] o.type #[a'.eval x,a'.eval y]).run P.prog w').andThen _=_)
 rw[hex]
 show wpOpsIn _ _ _ _ _ _ _ _
 have hr2:=hrel o.dst (dM hd (ajY hko))
 refine KJ hF.1 hd (n+1) os2 (by rw[List.drop_add_one_eq_tail_drop,hos];rfl) (Q:=fun st'=>Q .normal st') hk (st:=(⟨F',(b,.arr e (cs++es'.flatten))::dl st'.σ b⟩:St).put o.dst (.arr b sz (m+es'.length))) ?_ (fun st' a' w' hq hr' _=>⟨st',hq,hr'⟩)
 rw[get_put,put_σ]
 have hσ:lk (((b,bf.arr e (cs++es'.flatten))::dl st'.σ b))=upd (lk st'.σ) b (some (.arr e (cs++es'.flatten))):=by
  funext k
  rw[BJ];rfl
 rw[hσ]
 exact hr2
end
end Go.Id
namespace Go.Id
open Go
theorem oM {α:Type}:∀(l k:List (Nat × α)) (b:Nat),lk (l++k) b=match lk l b with|some x=>some x|none=>lk k b
 | [],k,b=>rfl
 |(i,v)::l,k,b=>by
  simp only[abS,lk]
  by_cases h:b=i
  ·simp[h]
  ·simp only[if_neg h];exact oM l k b
theorem aF.frame {P:dF}{k:FuncId}{args:List D}{ins outs:List (Nat × bf)}{val:D}(rest:List (Nat × bf))(h:aF P k args ins val outs)
  (hin:∀b blk,lk ins b=some blk→aB (fun i=>(lk ins i).isSome=true) blk) (hio:∀b,(lk ins b).isSome=true→(lk outs b).isSome=true)
  (hout:∀b,(lk outs b).isSome=true→(lk ins b).isSome=true∨lk rest b=none) (hcl:∀d∈args,bY (fun i=>(lk ins i).isSome=true) d):aF P k args (ins++rest) val (outs++rest):=by
 refine⟨h.1,fun M γ w vs hst hl hr=>?_⟩
 have e:after (lk (ins++rest)) ins outs=lk (outs++rest):=by
  funext b
  simp only[after,oM]
  cases hq:lk outs b with
  |some x=>rfl
  |none=>
   cases hi:lk ins b with
   |none=>rfl
   |some y=>have:=hio b (by simp[hi]);rw[hq] at this;cases this
 have:=h.use hst (fun b blk hb=>⟨by rw[oM,hb],hin b blk hb⟩) (fun b hb=>by
  cases hi:lk ins b with
  |some y=>exact .inl rfl
  |none=>
   rcases hout b hb with q|q
   ·rw[hi] at q;cases q
   ·exact .inr (by rw[oM,hi];exact q)) vs hl hr hcl
 rw[e] at this
 exact this
end Go.Id
namespace Go.Id
open Go
section
variable {P:dF} {E:BI P} {ent:List Nat} {N:Nat} {F:Nat→D} {σ:Nat→Option bf} {a:Act} {w:World}
theorem Rel.newRow (h:Rel E ent N F σ a w){b:Nat}(hb:σ b=none){e0 e:TypeId}{fz:Nat × Nat}{sz cap n:Nat}{cur:Array Value}{w':World}(ho:w'.os=w.os)(ht:w'.tape=w.tape)(hout:w'.output=w.output)(hsz:w.heap.size≤w'.heap.size)
  (hold:∀k,k<w.heap.size→w'.heap[k]?=w.heap[k]?) (hB:w'.heap[w.heap.size]?=some (.cells cur e0 fz)) (hf:(fz=(0,0)∧e0=e)∨(cur.size≤fz.1∧e=e0+FZ)) (hcs:cur.size=cap * sz) (hcm:cap≤maxLen) (hn:n≤cap) {cs:List D}
  (hcl:cs.length≤cur.size) (h1:∀(i:Nat) v,cur[i]?=some v→v.oneCell'=true) (hr:∀(i:Nat) d v,cs[i]?=some d→cur[i]?=some v→∀(M:Nat→Nat→Prop) (γ:Nat→Option G) (w:World),Rep M γ w d v) (dst:Option Tmp) (hdst:∀t,dst=some t→t<N):
  Rel E ent N (oh F dst (.arr b sz n)) (upd σ b (some (.arr e cs))) (a.put dst (.slice (some ⟨w.heap.size,0,none⟩) n cap)) w':=by
 obtain⟨γ,h1',h2,h3,h4,h5,h6⟩:=h
 have hv:=aW.fresh h2 hb (.arr w.heap.size cap sz) w' ho ht hout hsz hold (fun B hB=>by simp[G.block] at hB;omega)
 have hst:=h2.change b (.arr e cs) (.arr w.heap.size cap sz) w' hv (fun i gi B hi hg hB=>hold B (h2.lt hg hB)) (fun B hB=>by simp[G.block] at hB;omega)
  (.arr cur e fz hB hcl (fun i v hi hv=>⟨h1 i v hv,frz hf hB (by omega)⟩) (fun i d v hd hv=>hr i d v hd hv _ _ _) ⟨hf,hcs,hcm⟩)
 exact⟨_,h1',hst,h3.trans hv,by rw[iE];exact h4,by rw[put_defers];exact h5.dA hv,kZ (by rw[h4];exact hdst) (.arr (upd_same _ _ _) hn) (fun t=>(h6 t).dA hv)⟩
end
section
variable {P:dF} {ent:List Nat} {N:Nat} {Q:Exit→St→Prop} {st:St}
theorem SY {id:Nat}{ops:Array Oper}(n:Nat){o:Oper}{os2:List Oper}(R:St→(St→D→Prop)→Prop)(hd:dD N ops=true)(hos:ops.toList.drop n=o::os2)(hg:o.guard=none)
  (hpl:∀(Fe:Fence) (a:Act),o.semAt Fe.round a.eval=execOp a.eval o)
  (hR:∀(st':St) (K:St→D→Prop) (E:BI P) (a:Act) (w:World),Rel E ent N st'.get (lk st'.σ) a w→R st' K→∃v w' s d,(execOp a.eval o).run P.prog w= .ok (.value v) w'∧Rel E ent N (s.put o.dst d).get (lk (s.put o.dst d).σ) (a.put o.dst v) w'∧K s d)
  (h:∀K:St→List bJ→Prop,(∀st' rs,R st' (fun s d=>∀K2:St→List bJ→Prop,(∀s' r,Q .normal s'→K2 s' r)→ah P ops os2 (s.put o.dst d) [] K2)→K st' rs)→ah P ops (ops.toList.take n) st [] K):
  WP P ent N (.region id ops false) Q st:=by
 intro Fe nf hF E a w hr
 have hlt:n<ops.toList.length:=by
  rcases apG n ops.toList.length with h|h
  ·exact h
  ·rw[amX h] at hos;cases hos
 have htk:(ops.toList.take n).length=n:=by rw[adg];omega
 refine rO hF.1 hd (ops.toList.take n) (o::os2) (by rw[← hos,aki]) h hr ?_
 rintro st' a' w' apg hr' hkeep
 rw[htk]
 have hko:ops[n]?=some o:=by
  have:(ops.toList.drop n)[0]?=some o:=by rw[hos];rfl
  simpa [ahz] using this
 rw[abN,al8]
 obtain⟨v,w2,s,d,hrun,hrel,hk⟩:=hR st' _ E a' w' hr' apg
 refine pR hko hg ⟨fun f _=>hF.1.fn f,?_⟩
 rw[hpl,hrun]
 show wpOpsIn _ _ _ _ _ _ _ _
 exact KJ hF.1 hd (n+1) os2 (by rw[List.drop_add_one_eq_tail_drop,hos];rfl) (Q:=fun st'=>Q .normal st') hk hrel (fun st' a' w' hq hr' _=>⟨st',hq,hr'⟩)
theorem CZ (F:List (Nat × D))(σ:List (Nat × bf))(dst:Option Tmp)(d:D):((⟨F,σ⟩:St).put dst d).get=oh (⟨F,σ⟩:St).get dst d:=get_put _ _ _
theorem He {b:Nat}{x:bf}{σ:List (Nat × bf)}:lk ((b,x)::σ)=upd (lk σ) b (some x):=by
 funext k;simp only[lk,upd]
def ajC (P:dF)(t:TypeId)(l c:Operand)(st:St)(K:St→D→Prop):Prop:=
 ∃e sz by' n b z kl kc,cu P.prog t=some (e,sz,by')∧iK P.prog e=true∧iC P.prog e=some z∧z.length=sz∧bT st.get l= .int kl (n:Nat)∧bT st.get c= .int kc (n:Nat)∧n * by'≤281474976710656∧n≤9223372036854775807∧lk st.σ b=none∧
  K ⟨st.F,(b,.arr e (List.replicate n z).flatten)::st.σ⟩ (.arr b sz n)
theorem WP.ZK {id:Nat}{ops:Array Oper}(n:Nat){o:Oper}{os2:List Oper}{t:TypeId}{l c:Operand}(hd:dD N ops=true)(hos:ops.toList.drop n=o::os2)(hg:o.guard=none)(hop:o.op= .makeSlice t l c)
  (h:∀K:St→List bJ→Prop,(∀st' rs,ajC P t l c st' (fun s d=>∀K2:St→List bJ→Prop,(∀s' r,Q .normal s'→K2 s' r)→ah P ops os2 (s.put o.dst d) [] K2)→K st' rs)→ah P ops (ops.toList.take n) st [] K):
  WP P ent N (.region id ops false) Q st:=by
 refine SY n (ajC P t l c) hd hos hg (fun Fe a=>Oper.semAt_plain Fe _ _ (by rw[hop];intro c hc;cases hc)) ?_ h
 rintro st' K E a w hr ⟨e,sz,by',m,b,z,kl,kc,he,hok,hz,hzl,hl,hc,hby,h63,hb,hK⟩
 have hdst:=dM hd (o:=o) (by
  have:o∈ops.toList.drop n:=by rw[hos];simp
  simpa using aoF this)
 obtain⟨i,ht,hi,rfl,rfl⟩:=fU he
 obtain⟨i',zv,hi',hzv,hzs⟩:=pG hok
 rw[hi] at hi';cases hi'
 obtain⟨i',zv',hi',amU,hzc⟩:=wB hz
 rw[hi] at hi';cases hi'
 rw[hzv] at amU;cases amU
 have hr0:=hr
 obtain⟨γ,_,_,_,_,_,h6⟩:=hr0
 have hlv:=int_inj (by have:=iY h6 l;rwa [hl] at this)
 have hcv:=int_inj (by have:=iY h6 c;rwa [hc] at this)
 have hrun:=run_make (P:=P.prog) w t e i zv ht hi hzv kl kc m m (by omega) (Int.le_refl _) (by
  have:((m * i.bytes:Nat):Int)≤281474976710656:=by omega
  rw[Int.natCast_mul] at this;rw[Int.mul_comm];exact this) (by omega)
 simp only[Int.toNat_natCast] at hrun
 have hcells:∀(j:Nat) v,(madeCells zv.cells (m * i.size))[j]?=some v→j<m * i.size∧zv.cells[j % i.size]?=some v:=by
  intro j v hv
  have hj:=(ag6.1 hv).1
  rw[size_madeCells] at hj
  have hpos:0<i.size:=by
   rcases Nat.eq_zero_or_pos i.size with q|q
   ·rw[q] at hj;simp at hj
   ·exact q
  have hlt:j % zv.cells.size<zv.cells.size:=Nat.mod_lt _ (by omega)
  refine⟨hj,?_⟩
  simp only[madeCells,Array.getElem?_map,Array.getElem?_range,if_pos hj,aiD,abr] at hv
  rw[getElem!_pos zv.cells (j % zv.cells.size) hlt] at hv
  rw[← hv,← hzs,adr hlt]
 obtain⟨c1,c2,c3⟩:=(ku (M:=fun _ _=>False) (γ:=fun _=>none) (w:=w) zv).cells hzc
 have hex:(execOp a.eval o).run P.prog w= .ok (.value (.slice (some ⟨w.heap.size,0,none⟩) m m)) (w.alloc (.cells (madeCells zv.cells (m * i.size)) e)):=by
  simp only[execOp,hop,hlv,hcv,Sem.run_bind,hrun,Result.andThen_ok];rfl
 refine⟨_,_,_,_,hex,?_,hK⟩
 ·rw[CZ,put_σ,He]
  refine hr.newRow (w':=w.alloc (.cells (madeCells zv.cells (m * i.size)) e)) hb rfl rfl rfl (by simp) (bP w _) (heap_alloc_new w _) (.inl ⟨rfl,rfl⟩) (size_madeCells _ _) h63 (ag4 _) ?_ ?_ ?_ o.dst hdst
  ·rw[size_madeCells,kL _ (sz:=i.size) (fun x hx=>by rw[(List.mem_replicate.1 hx).2];exact hzl),List.length_replicate];exact ag4 _
  ·intro j v hv
   exact c2 _ v (hcells j v hv).2
  ·intro j d v hd' hv M γ' w2
   obtain⟨x,r1,r2⟩:=wC (sz:=i.size) (List.replicate m z) (fun x hx=>by rw[(List.mem_replicate.1 hx).2];exact hzl) j d hd'
   have hx:=(List.mem_replicate.1 (ac8 r1)).2
   subst hx
   obtain⟨b1,b2,b3⟩:=(ku (M:=M) (γ:=γ') (w:=w2) zv).cells hzc
   exact b3 _ d v r2 (hcells j v hv).2
def adQ (P:dF)(src dst:TypeId)(x:Operand)(st:St)(K:St→D→Prop):Prop:=
 ∃e by' s b,isStr P.prog src=true∧cu P.prog dst=some (e,1,by')∧kS P.prog e=some .u8∧bT st.get x= .str s∧s.length≤9223372036854775807∧lk st.σ b=none∧
  K ⟨st.F,(b,.arr (e+FZ) (s.map fun c=> .int .u8 c.toNat))::st.σ⟩ (.arr b 1 s.length)
theorem WP.adR {id:Nat}{ops:Array Oper}(n:Nat){o:Oper}{os2:List Oper}{src dst:TypeId}{x:Operand}(hd:dD N ops=true)(hos:ops.toList.drop n=o::os2)(hg:o.guard=none)(hop:o.op= .convert src dst x)
  (h:∀K:St→List bJ→Prop,(∀st' rs,adQ P src dst x st' (fun s d=>∀K2:St→List bJ→Prop,(∀s' r,Q .normal s'→K2 s' r)→ah P ops os2 (s.put o.dst d) [] K2)→K st' rs)→ah P ops (ops.toList.take n) st [] K):
  WP P ent N (.region id ops false) Q st:=by
 refine SY n (adQ P src dst x) hd hos hg (fun Fe a=>Oper.semAt_plain Fe _ _ (by rw[hop];intro c hc;cases hc)) ?_ h
 rintro st' K E a w hr ⟨e,by',s,b,hsrc,he,hk,hx,h63,hb,hK⟩
 have hdst:=dM hd (o:=o) (by
  have:o∈ops.toList.drop n:=by rw[hos];simp
  simpa using aoF this)
 obtain⟨i,ht,hi,_,_⟩:=fU he
 have hr0:=hr
 obtain⟨γ,_,_,_,_,_,h6⟩:=hr0
 obtain⟨bs,hbv,hbs⟩:=str_inj (by have:=iY h6 x;rwa [hx] at this)
 have hlen:bs.size=s.length:=by rw[← hbs,alx];rfl
 have hrun:=Lib.run_convert_string_bytes (P:=P.prog) w src dst e bs (iV hsrc) ht (oH hk)
 have hge:=grownCap_ge w bs.size 0 e
 have hle:=grownCap_le_maxLen w bs.size 0 e (by rw[hlen];exact h63)
 have hsize:(Lib.bytesCells w e bs).size=grownCap w bs.size 0 e:=by
  simp[Lib.bytesCells]
  have:bs.data.size=bs.size:=rfl
  omega
 have hat:∀(j:Nat) v,(Lib.bytesCells w e bs)[j]?=some v→(∃c,s[j]?=some c∧v= .int .u8 c.toNat)∨(s.length≤j∧v= .int .u8 0):=by
  intro j v hv
  simp only[Lib.bytesCells,Array.getElem?_append,Array.size_map] at hv
  split at hv
  ·rw[Array.getElem?_map,abR] at hv
   obtain⟨c,h1,h2⟩:=hv
   exact .inl ⟨c,by rw[← hbs,akA];exact h1,h2.symm⟩
  ·rename_i hj
   have h2:=ajY hv
   rw[Array.mem_replicate] at h2
   refine .inr ⟨?_,h2.2⟩
   have:bs.data.size=bs.size:=rfl
   omega
 have hex:(execOp a.eval o).run P.prog w= .ok (.value (.slice (some ⟨w.heap.size,0,none⟩) bs.size (grownCap w bs.size 0 e))) (Lib.bytesWorld w e bs):=by
  simp only[execOp,hop,hbv,Sem.run_bind,hrun,Result.andThen_ok];rfl
 refine⟨_,_,_,_,hex,?_,hK⟩
 ·rw[CZ,put_σ,He,hlen]
  refine hr.newRow (w':=Lib.bytesWorld w e bs) hb rfl rfl rfl (by rw[Lib.bytesWorld_size];omega) (fun k hk=>Lib.bytesWorld_at_old w e bs k hk) (Lib.bytesWorld_at_new w e bs) (.inr ⟨ag4 _,rfl⟩) (by rw[hsize,hlen,aos]) (by rw[← hlen];exact hle) (by rw[← hlen];exact hge) ?_ ?_ ?_ o.dst hdst
  ·rw[ac',hsize,← hlen];exact hge
  ·intro j v hv
   rcases hat j v hv with⟨c,_,rfl⟩ | ⟨_,rfl⟩ <;> rfl
  ·intro j d v hd' hv M γ' w2
   rw[adw,abR] at hd'
   obtain⟨c,h1,rfl⟩:=hd'
   rcases hat j v hv with⟨c',h2,rfl⟩ | ⟨h2,_⟩
   ·rw[h1] at h2;cases h2;exact .int _ _
   ·rw[al_ h2] at h1;cases h1
def amV (P:dF)(src dst:TypeId)(x:Operand)(st:St)(K:St→D→Prop):Prop:=
 ∃e e1 by' s b rest,isStr P.prog dst=true∧cu P.prog src=some (e,1,by')∧kS P.prog e=some .u8∧bT st.get x= .arr b 1 s.length∧lk st.σ b=some (.arr e1 ((s.map fun (c:UInt8)=>D.int .u8 c.toNat)++rest))∧K st (.str s)
theorem WP.akQ {id:Nat}{ops:Array Oper}(n:Nat){o:Oper}{os2:List Oper}{src dst:TypeId}{x:Operand}(hd:dD N ops=true)(hos:ops.toList.drop n=o::os2)(hg:o.guard=none)(hop:o.op= .convert src dst x)
  (h:∀K:St→List bJ→Prop,(∀st' rs,amV P src dst x st' (fun s d=>∀K2:St→List bJ→Prop,(∀s' r,Q .normal s'→K2 s' r)→ah P ops os2 (s.put o.dst d) [] K2)→K st' rs)→ah P ops (ops.toList.take n) st [] K):
  WP P ent N (.region id ops false) Q st:=by
 refine SY n (amV P src dst x) hd hos hg (fun Fe a=>Oper.semAt_plain Fe _ _ (by rw[hop];intro c hc;cases hc)) ?_ h
 rintro st' K E a w hr ⟨e,e1,by',s,b,rest,hs,he,hk,hx,hb,hK⟩
 have hdst:=dM hd (o:=o) (by
  have:o∈ops.toList.drop n:=by rw[hos];simp
  simpa using aoF this)
 have hr0:=hr
 obtain⟨γ,h1,h2,h3,h4,h5,h6⟩:=hr
 obtain⟨g,q1,q2⟩:=h2.hit hb
 have hxv:=iY h6 x
 rw[hx] at hxv
 cases q2 with
 | @arr _ _ B cap zz vs _ fz hB hl hh hrr hf=>
 obtain⟨cap',hcap',hav⟩:∃cap',s.length≤cap'∧a.eval x= .slice (some ⟨B,0,none⟩) s.length cap':=by
  generalize a.eval x=v at hxv
  cases hxv with
  |arr hγ hn=>rw[q1] at hγ;cases hγ;exact⟨_,hn,rfl⟩
 simp only[abf,ac'] at hl
 have hsl:Rep (fun _ _=>False) γ w (.slice 1 false (fK s) none) (.slice (some ⟨B,0,none⟩) (fK s).length cap'):=by
  refine .slice (vs.toList.take s.length) (by simp[fK]) (by simp[fK];omega) (fun _=>rfl) (fun j v hv=>⟨?_,fun h=>h,?_⟩) (fun i j e d v he hdd hv=>?_) (by simpa [fK] using hcap') (fun t e=>by cases e)
  ·have hj:j<s.length:=by have:=(acR.1 hv).1;simp at this;omega
   rw[ag3,if_pos hj] at hv
   have hv':vs[j]?=some v:=by simpa using hv
   simp[World.cell?,hB,hv']
  ·have hj:j<s.length:=by have:=(acR.1 hv).1;simp at this;omega
   rw[ag3,if_pos hj] at hv
   exact (hh j v (by simp;omega) (by simpa using hv)).1
  ·simp only[fK,adw] at he
   obtain⟨c,hcc,rfl⟩:=abR.1 he
   have hi:=(acR.1 hcc).1
   match j with
   | 0=>
    simp at hdd;subst hdd
    simp only[aos,amQ] at hv
    rw[ag3,if_pos hi] at hv
    have hv':vs[i]?=some v:=by simpa using hv
    have:=hrr i (.int .u8 c.toNat) v (by rw[ag2 (by simpa using hi),adw,hcc];rfl) hv'
    rw[int_inj this]
    exact .int _ _
   |j+1=>simp at hdd
 have hcv:Kr P.prog src dst (.slice 1 false (fK s) none)=some (.str s):=by
  unfold Kr
  simp[hs,he,hk,tC]
 obtain⟨r,hrn,akN⟩:=Fb hcv hsl
 have hlu:(fK s).length=s.length:=by simp[fK]
 rw[hlu] at hrn
 refine⟨r,w,_,_,?_,?_,hK⟩
 ·simp only[execOp,hop,hav,Sem.run_bind,hrn,Result.andThen_ok];rfl
 ·rw[get_put,put_σ]
  refine⟨γ,h1,h2,h3,by rw[iE];exact h4,by rw[put_defers];exact h5,kZ (by rw[h4];exact hdst) ?_ h6⟩
  obtain⟨b',e1,e2⟩:=str_inj akN
  rw[e1,← e2]
  exact .str _
end
end Go.Id
namespace Go.Id
open Go
section
variable {P:dF} {ent:List Nat} {N:Nat} {Q:Exit→St→Prop} {st:St}
def ajD (P:dF)(src dst:TypeId)(x:Operand)(st:St)(K:St→D→Prop):Prop:=
 ∃k k' n,kS P.prog src=some k∧isStr P.prog dst=true∧bT st.get x= .int k' n∧K st (.str (Utf8.encode n).data.toList)
theorem WP.ahx {id:Nat}{ops:Array Oper}(n:Nat){o:Oper}{os2:List Oper}{src dst:TypeId}{x:Operand}(hd:dD N ops=true)(hos:ops.toList.drop n=o::os2)(hg:o.guard=none)(hop:o.op= .convert src dst x)
  (h:∀K:St→List bJ→Prop,(∀st' rs,ajD P src dst x st' (fun s d=>∀K2:St→List bJ→Prop,(∀s' r,Q .normal s'→K2 s' r)→ah P ops os2 (s.put o.dst d) [] K2)→K st' rs)→ah P ops (ops.toList.take n) st [] K):
  WP P ent N (.region id ops false) Q st:=by
 refine SY n (ajD P src dst x) hd hos hg (fun Fe a=>Oper.semAt_plain Fe _ _ (by rw[hop];intro c hc;cases hc)) ?_ h
 rintro st' K E a w hr ⟨k,k',m,hk,hs,hx,hK⟩
 have hdst:=dM hd (o:=o) (by
  have:o∈ops.toList.drop n:=by rw[hos];simp
  simpa using aoF this)
 obtain⟨γ,h1,h2,h3,h4,h5,h6⟩:=hr
 have hxv:=int_inj (by have:=iY h6 x;rwa [hx] at this)
 have hrn:=run_convert_int_string (P:=P.prog) w src dst k' m (by rw[oH hk];rfl) (iV hs)
 have hex:(execOp a.eval o).run P.prog w= .ok (.value (.string (Utf8.encode m))) w:=by
  simp only[execOp,hop,hxv,Sem.run_bind,hrn,Result.andThen_ok];rfl
 refine⟨_,w,_,_,hex,?_,hK⟩
 rw[get_put,put_σ]
 exact⟨γ,h1,h2,h3,by rw[iE];exact h4,by rw[put_defers];exact h5,kZ (by rw[h4];exact hdst) (.str _) h6⟩
end
end Go.Id
namespace Go.Id
open Go
inductive JE (σ:Nat→Option bf):D→D→Prop
 |str (s:List UInt8):JE σ (.str s) (.str s)
 |int (k:IntKind) (n:Int):JE σ (.int k n) (.int k n)
 |bool (b:Bool):JE σ (.bool b) (.bool b)
 |nil (sz sz':Nat):JE σ (.slice sz true [] none) (.slice sz' true [] none)
 | arr {b sz:Nat} {e:TypeId} {es es':List (List D)} {rest:List D} (hb:σ b=some (.arr e (es.flatten++rest))) (hsz:∀x∈es,x.length=sz) (hl:es'.length=es.length) (hsz':∀x∈es',x.length=sz) (h0:0<sz)
   (h:∀(i j:Nat) x y d d',es[i]?=some x→es'[i]?=some y→x[j]?=some d→y[j]?=some d'→JE σ d d'):JE σ (.arr b sz es.length) (.slice sz false es' none)
theorem JE.rep {M₀:Base}{γ:Nat→Option G}{σ:Nat→Option bf}{w:World}(h:Store M₀ γ σ w){d d':D}(hd:JE σ d d'):∀v,Rep (aA M₀ γ) γ w d v→Rep (aA M₀ fun _=>none) (fun _=>none) w d' v:=by
 induction hd with
 |str s=>intro v hv;cases hv;exact .str _
 |int k n=>intro v hv;rw[int_inj hv];exact .int _ _
 |bool b=>intro v hv;rw[pI hv];exact .bool _
 |nil sz sz'=>intro v hv;cases hv;exact .nilslice (jk.none _ _ _)
 | @arr b sz e es es' rest hb hsz hl hsz' h0 _ ih=>
  intro v hv
  obtain⟨g,q1,q2⟩:=h.hit hb
  cases q2 with
  | @arr _ _ B cap z vs _ fz hB hlen hh hr hf=>
   cases hv with
   | @arr _ B2 _ _ cap2 hg hn=>
    rw[q1] at hg;cases hg
    have pO:=kL es hsz
    rw[abf,pO] at hlen
    have hle:es.length * sz≤vs.size:=by omega
    have htl:(vs.toList.take (es.length * sz)).length=es.length * sz:=by rw[adg];exact amv (by simpa using hle)
    have hMB:∀off,¬aA M₀ (fun _=>none) B off:=by
     rintro off (hm | ⟨i,g,hg,_⟩)
     ·exact h.apart b _ B off q1 rfl hm
     ·cases hg
    rw[← hl]
    refine CQ hB hsz' (vs.toList.take (es.length * sz)) (by rw[htl,hl]) (by rw[hl]) (fun u hu=>?_) (fun off _=>hMB off) (fun i j x d u r1 r2 r3=>?_) (by rw[hl];exact hn) (jk.none _ _ _)
    ·obtain⟨i,hi,rfl⟩:=aja.1 hu
     rw[aoQ]
     exact (hh i _ (by rw[abf,pO];omega) (by rw[← akA];exact abt (by simp at hi ⊢;omega))).1
    ·have hi:i<es.length:=by rw[← hl];exact (acR.1 r1).1
     have hx:=abt hi
     have hxl:es[i].length=sz:=hsz _ (adb hi)
     have hj:j<sz:=by have:=(acR.1 r2).1;rw[hsz' x (ac8 r1)] at this;exact this
     have hdj:=abt (show j<es[i].length by omega)
     have hfg:=flat_get es hsz i j _ _ hx hdj
     have hlt:=(acR.1 hfg).1
     have hu:vs[i * sz+j]?=some u:=by
      rw[ag3,if_pos (by omega)] at r3;simpa using r3
     exact ih i j _ x _ d hx r1 hdj r2 u (hr _ _ u (by rw[ag2 hlt];exact hfg) hu)
theorem Weak.thaw {st st':St}(hσ':st'.σ=[])(hF:∀p∈st'.F,JE (lk st.σ) (st.get p.1) p.2):Weak [] st st':=by
 rintro P E N a w ⟨γ,h1,h2,h3,h4,h5,h6⟩
 have hent:∀b,E.γ b=none:=fun b=>by
  cases h:E.γ b with
  |none=>rfl
  |some g=>exact absurd (h1 b g h) (by simp)
 have hM:∀B off,aA E.M (fun _=>none) B off→aA E.M γ B off:=by
  rintro B off (hm | ⟨i,g,hg,_⟩)
  ·exact .inl hm
  ·cases hg
 refine⟨fun _=>none,fun b g hg=>(by rw[hent] at hg;cases hg),?_,?_,h4,h5.sub (fun i g hg=>(by cases hg)),fun k=>?_⟩
 ·rw[hσ']
  exact⟨fun i=> .inr ⟨rfl,rfl⟩,fun i i' g g' B a1=>(by cases a1),h2.outer,fun i g B off a1=>(by cases a1),h2.inv,fun i g B a1=>(by cases a1),h2.big⟩
 ·exact⟨h3.os,h3.tape,h3.output,h3.size,h3.cell,fun B off q1 q2=>h3.wr B off (hM B off q1) q2,fun b g hg=>(by rw[hent] at hg;cases hg),h3.block,fun b g B q1=>(by cases q1)⟩
 ·show Rep _ _ _ ((lk st'.F k).getD .junk) _
  cases hl:lk st'.F k with
  |none=>exact .junk _
  |some d=>
   have hd:=hF _ (iZ _ _ _ hl)
   dsimp only at hd
   exact hd.rep h2 _ (h6 k)
def pU (ls:List (List UInt8)):List (List D):=ls.map fun x=>[D.str x]
theorem rQ (ls:List (List UInt8)):(pU ls).length=ls.length:=by simp[pU]
def TqD (σ σ':Nat→Option bf)(e:TypeId)(d d':D):Prop:=
 (∃s,d= .str s∧d'= .str s)∨∃t ls,d= .slice 1 false (pU ls) (some t)∧d'= .arr t 1 ls.length∧σ t=some (.aI e 1 ls.length)∧σ' t=some (.arr e (ls.map .str))
theorem Weak.ahy {st st':St}(r:Nat)(T e:TypeId)(z:Nat)(cs cs':List D)(hr:lk st.σ r=some (.arr T cs))(hr':lk st'.σ r=some (.arr T cs'))(hcl:cs'.length=cs.length)(hc:∀(i:Nat) d d',cs[i]?=some d→cs'[i]?=some d'→TqD (lk st.σ) (lk st'.σ) e d d')
  (hF:∀p∈st'.F,∃n,p.2= .arr r z n∧st.get p.1=p.2) (hσ:∀i,i≠r→(lk st.σ i=none∧lk st'.σ i=none)∨∃(ls:List (List UInt8)) (j:Nat),lk st.σ i=some (.aI e 1 ls.length)∧lk st'.σ i=some (.arr e (ls.map .str))∧cs[j]?=some (.slice 1 false (pU ls) (some i))):Weak [] st st':=by
 rintro P E N a w ⟨γ,h1,h2,h3,h4,h5,h6⟩
 have hent:∀b,E.γ b=none:=fun b=>by
  cases h:E.γ b with
  |none=>rfl
  |some g=>exact absurd (h1 b g h) (by simp)
 obtain⟨gr,q1,q2⟩:=h2.hit hr
 cases q2 with
 | @arr e0 _ B cap zz vs _ fz hB hl hh hrr hf=>
  have head:∀(i:Nat) (ls:List (List UInt8)),lk st.σ i=some (.aI e 1 ls.length)→(∃j:Nat,cs[j]?=some (.slice 1 false (pU ls) (some i)))→∃(v:Value) (Bi wK:Nat) (cur:Array Value),γ i=some (.aI 1 e v ls.length)∧v= .slice (some ⟨Bi,0,none⟩) ls.length wK∧w.heap[Bi]?=some (.cells cur e (0,0))∧ls.length≤wK∧wK≤maxLen∧cur.size=wK * 1∧
    (∀(j:Nat) s,ls[j]?=some s→∃b:ByteArray,cur[j]?=some (.string b)∧b.data.toList=s)∧(∀(j:Nat) u,cs[j]?=some (.slice 1 false (pU ls) (some i))→vs[j]?=some u→u=v):=by
   rintro i ls ht ⟨j,hj⟩
   obtain⟨g,t1,t2⟩:=h2.hit ht
   cases t2 with
   | @aI _ _ _ v xs ho=>
    have hjl:j<vs.size:=by have:=(acR.1 hj).1;omega
    have key:∀(j:Nat) u,cs[j]?=some (.slice 1 false (pU ls) (some i))→vs[j]?=some u→u=v∧∃(ad:Addr) (c:Nat) (us:List Value),u= .slice (some ad) ls.length c∧us.length=ls.length∧(∀(k:Nat) x,us[k]?=some x→w.cell? ⟨ad.block,ad.off+k,none⟩=some x)∧∀(k:Nat) s x,ls[k]?=some s→us[k]?=some x→Rep (aA E.M γ) γ w (.str s) x:=by
     intro j u hj hu
     have hs:=hrr j _ u hj hu
     rcases aZ hs with⟨_,_,hn⟩ | ⟨ad,c,us,rfl,_,_,hul,_,_,hcell,hrep,htip⟩
     ·cases hn
     ·obtain⟨_,_,v',n',p1,p2,p3⟩:=htip i rfl
      rw[t1] at p1
      simp only[abr,G.aI.injEq] at p1
      obtain⟨rfl,rfl,rfl,rfl⟩:=p1
      have hve:=p3 (rQ ls)
      rw[rQ] at hve hul
      refine⟨by rw[rQ];exact hve,ad,c,us,by rw[rQ],by omega,fun k x hx=>(hcell k x hx).1,fun k s x hk hx=>?_⟩
      exact hrep k 0 [.str s] (.str s) x (by simp[pU,adw,hk]) rfl (by simpa using hx)
    obtain⟨hv,ad,c,us,hu1,hul,hcell,hrep⟩:=key j _ hj (adr hjl)
    rw[hv] at hu1
    rcases ho.2 with⟨h0,_⟩ | ⟨Bi,wK,cur,hvB,_,hBi,hnc,hcm,hcs,htake⟩
    ·rw[h0] at hu1;cases hu1
    ·rw[hvB] at hu1
     simp only[Value.slice.injEq,abr,true_and] at hu1
     obtain⟨rfl,rfl⟩:=hu1
     refine⟨v,Bi,wK,cur,t1,hvB,hBi,hnc,hcm,hcs,fun k s hk=>?_,fun j u hj hu=>(key j u hj hu).1⟩
     have hkl:k<us.length:=by rw[hul];exact (acR.1 hk).1
     have hx:=abt hkl
     have hc1:=hcell k _ hx
     simp only[ade] at hc1
     rw[cell_of_row w Bi k cur e _ hBi] at hc1
     obtain⟨b,hb1,hb2⟩:=str_inj (hrep k s _ hk hx)
     exact⟨b,by rw[hc1,hb1],hb2⟩
  let turn:G→G:=fun g=>match g with
   | .aI sz _ (.slice (some ad) _ c) _=> .arr ad.block c sz
   |g=>g
  let γ':Nat→Option G:=fun i=>if i=r then γ i else (γ i).map turn
  have hγr:γ' r=γ r:=by simp[γ']
  have hγi:∀i,i≠r→γ' i=(γ i).map turn:=fun i hi=>by simp[γ',hi]
  have names:∀i g,γ i=some g→i≠r→∃(ls:List (List UInt8)) (v:Value) (Bi wK:Nat) (cur:Array Value),lk st.σ i=some (.aI e 1 ls.length)∧lk st'.σ i=some (.arr e (ls.map .str))∧g= .aI 1 e v ls.length∧v= .slice (some ⟨Bi,0,none⟩) ls.length wK∧w.heap[Bi]?=some (.cells cur e (0,0))∧ls.length≤wK∧wK≤maxLen∧cur.size=wK * 1∧
    (∀(j:Nat) s,ls[j]?=some s→∃b:ByteArray,cur[j]?=some (.string b)∧b.data.toList=s)∧γ' i=some (.arr Bi wK 1):=by
   intro i g hg hi
   rcases hσ i hi with⟨a1,_⟩ | ⟨ls,j,a1,a2,a3⟩
   ·rw[h2.miss a1] at hg;cases hg
   ·obtain⟨v,Bi,wK,cur,b1,b2,b3,b4,b5,b6,b7,_⟩:=head i ls a1 ⟨j,a3⟩
    rw[hg] at b1;cases b1
    refine⟨ls,v,Bi,wK,cur,a1,a2,rfl,b2,b3,b4,b5,b6,b7,?_⟩
    rw[hγi i hi,hg,b2];rfl
  have zS:∀i g',γ' i=some g'→∃g,γ i=some g∧g.block=g'.block:=by
   intro i g' hg
   by_cases hi:i=r
   ·subst hi;rw[hγr] at hg;exact⟨g',hg,rfl⟩
   ·cases hgi:γ i with
    |none=>rw[hγi i hi,hgi] at hg;cases hg
    |some g=>
     obtain⟨ls,v,Bi,wK,cur,_,_,rfl,rfl,_,_,_,_,_,b8⟩:=names i g hgi hi
     rw[b8] at hg;cases hg
     exact⟨_,rfl,rfl⟩
  have hM:∀B' off,aA E.M γ B' off→aA E.M γ' B' off:=by
   rintro B' off (hm | ⟨i,g,hg,hw⟩)
   ·exact .inl hm
   ·by_cases hi:i=r
    ·subst hi;exact .inr ⟨i,g,hγr.trans hg,hw⟩
    ·obtain⟨ls,v,Bi,wK,cur,_,_,rfl,rfl,_,_,_,_,_,b8⟩:=names i g hg hi
     refine .inr ⟨i,_,b8,?_⟩
     have:=hw.1
     simp only[Value.ownBlock,abr] at this
     exact this.symm
  have hnew:∀i g' B',γ' i=some g'→g'.block=some B'→¬B' < E.w.heap.size:=by
   intro i g' B' hg hb hlt
   obtain⟨g,r1,r2⟩:=zS i g' hg
   obtain⟨b',g0,r3,_⟩:=h3.old i g B' r1 (r2.trans hb) hlt
   rw[hent] at r3;cases r3
  have apj:∀{s:List UInt8} {u:Value} {M M':Nat→Nat→Prop} {γa γb:Nat→Option G} {wa wb:World},Rep M γa wa (.str s) u→Rep M' γb wb (.str s) u:=fun h=>by cases h;exact .str _
  refine⟨γ',fun b g hg=>?_,⟨fun i=>?_,fun i i' gi gi' B' a1 a2 a3 a4=>?_,h2.outer,fun i gi B' off a1 a2=>?_,h2.inv,fun i gi B' a1 a2=>?_,h2.big⟩,?_,h4,h5.back (fun b g B' a1 a2=>by obtain⟨g0,r1,r2⟩:=zS b g a1;exact⟨b,g0,r1,r2.trans a2⟩),fun k=>?_⟩
  ·rw[hent] at hg;cases hg
  ·by_cases hi:i=r
   ·subst hi
    refine .inl ⟨_,_,hr',hγr.trans q1,.arr vs _ fz hB (by omega) (fun j u hj hu=>hh j u (by omega) hu) (fun j d' u hd' hu=>?_) hf⟩
    have hj:j<cs.length:=by rw[← hcl];exact (acR.1 hd').1
    have hd:=abt hj
    rcases hc j _ d' hd hd' with⟨s,e1,rfl⟩ | ⟨t,ls,e1,rfl,e2,e3⟩
    ·have:=hrr j _ u hd hu
     rw[e1] at this
     exact apj this
    ·rw[e1] at hd
     obtain⟨v,Bi,wK,cur,b1,b2,b3,b4,b5,b6,b7,b8⟩:=head t ls e2 ⟨j,hd⟩
     have hut:=b8 j u hd hu
     have htr:t≠i:=fun q=>by rw[q,q1] at b1;cases b1
     have hgt:γ' t=some (.arr Bi wK 1):=by rw[hγi t htr,b1,b2];rfl
     rw[hut,b2]
     exact .arr hgt b4
   ·rcases hσ i hi with⟨a1,a2⟩ | ⟨ls,j,a1,a2,a3⟩
    ·exact .inr ⟨a2,by rw[hγi i hi,h2.miss a1];rfl⟩
    ·obtain⟨g,hg,_⟩:=h2.hit a1
     obtain⟨ls',v,Bi,wK,cur,c1,c2,rfl,rfl,c5,c6,c7,c8,c9,c10⟩:=names i g hg hi
     rw[a2] at c2
     simp only[abr,bf.arr.injEq,true_and] at c2
     refine .inl ⟨_,_,a2,c10,.arr cur _ (0,0) c5 (by simp;rw[c8];have:=congrArg List.length c2;simp at this;omega) (fun k u hk hu=>⟨?_,by simp[World.frozen?,c5]⟩) (fun k d u hd hu=>?_) ⟨.inl ⟨rfl,rfl⟩,c8,c7⟩⟩
     ·rw[c2,ac'] at hk
      obtain⟨b,e1,_⟩:=c9 k _ (abt hk)
      rw[hu] at e1;cases e1;rfl
     ·rw[c2,adw,abR] at hd
      obtain⟨s,hs,rfl⟩:=hd
      obtain⟨b,e1,e2⟩:=c9 k s hs
      rw[hu] at e1;cases e1
      exact sW e2
  ·obtain⟨g1,r1,r2⟩:=zS i gi a1
   obtain⟨g2,r3,r4⟩:=zS i' gi' a2
   exact h2.dist i i' g1 g2 B' r1 r3 (r2.trans a3) (r4.trans a4)
  ·obtain⟨g1,r1,r2⟩:=zS i gi a1
   exact h2.apart i g1 B' off r1 (r2.trans a2)
  ·obtain⟨g1,r1,r2⟩:=zS i gi a1
   exact h2.low i g1 B' r1 (r2.trans a2)
  ·refine⟨h3.os,h3.tape,h3.output,h3.size,h3.cell,fun B' off hm hlt=>?_,fun b g hg=>(by rw[hent] at hg;cases hg),h3.block,fun b g B' hg hb hlt=>absurd hlt (hnew b g B' hg hb)⟩
   rcases hm with hm | ⟨i,g,hg,hw⟩
   ·exact h3.wr B' off (.inl hm) hlt
   ·exact absurd hlt (hnew i g B' hg (G.jR hw))
  ·show Rep _ _ _ ((lk st'.F k).getD .junk) _
   cases hl2:lk st'.F k with
   |none=>exact .junk _
   |some d=>
    obtain⟨n,r1,r2⟩:=hF _ (iZ _ _ _ hl2)
    dsimp only at r1 r2
    have h0:=h6 k
    rw[r2,r1] at h0
    rw[alb,r1]
    generalize a.tmps.getD k undef=u at h0
    cases h0 with
    |arr hγ hn=>exact .arr (hγr.trans hγ) hn
end Go.Id
