import Derived.Test.YtekopfoidhhedaaGreatDoorG04
import Derived.BigQuiet
import Derived.CallsIn
import Derived.OrdersIn
import Derived.OwnWalkIn
import Derived.RangeFuncCalls
import Derived.RangeFuncRecord
set_option linter.unusedVariables false
set_option linter.unusedSimpArgs false
set_option linter.unnecessarySimpa false
namespace Go.Id
open Go
structure BI (P:dF) where
 m:Nat→Nat→Prop
 γ:Nat→Option G
 w:World
 lo:Nat
 hlo:lo≤max w.heap.size P.n
 tail:List Deferred
inductive nP:Fence→Prop
 |wide:nP Fence.wide
 |round (l:Nat):nP (Fence.wide.inRound l)
theorem nP.fn {Fe:Fence}(h:nP Fe)(f:FuncId):Fe.fn f:=by cases h <;> trivial
theorem nP.depth {Fe:Fence}(h:nP Fe):Fe.depth.isSome=true→False:=by cases h <;> (intro e;cases e)
theorem nP.calls {Fe:Fence}(h:nP Fe){n:Nat}{P:Program}{f:FuncId}{args:Array Value}{w:World}{R:Ending→World→Prop}(hc:Calls P f args w R):CallsIn Fe n P f args w R:=by
 cases h with
 |wide=>exact callsIn_wide.2 hc
 |round l=>exact (callsIn_wide.2 hc).inRound l
def Marks (strict:Prop)(T:List Deferred)(γ:Nat→Option G)(ds:List Deferred)(w:World)(n:Nat):Prop:=
 ∃Ds:List Nat,(ds=Ds.map (fun D=>{ target:= .collected D,args:=#[] })++T∧(strict→Ds=[]))∧Ds.Nodup∧∀D∈Ds,n≤D∧w.heap[D]?=some (.deferred (some []))∧∀b g,γ b=some g→g.block≠some D
theorem Marks.nil {strict:Prop}(T:List Deferred)(γ:Nat→Option G)(w:World)(n:Nat):Marks strict T γ T w n:=⟨[],⟨rfl,fun _=>rfl⟩,.nil,by simp⟩
theorem Marks.mono {s s':Prop}{T ds:List Deferred}{γ:Nat→Option G}{w:World}{n:Nat}(h:Marks s T γ ds w n)(hs:s'→s):Marks s' T γ ds w n:=by
 obtain⟨Ds,⟨h1,h2⟩,h3,h4⟩:=h
 exact⟨Ds,⟨h1,fun q=>h2 (hs q)⟩,h3,h4⟩
abbrev MS:Nat:=1000001
theorem Marks.dA {M M':Nat→Nat→Prop}{γ γ':Nat→Option G}{w w':World}{strict:Prop}{T ds:List Deferred}{n:Nat}(hv:aW M γ w M' γ' w')(h:Marks strict T γ ds w n):Marks strict T γ' ds w' n:=by
 obtain⟨Ds,h1,hn,h2⟩:=h
 refine⟨Ds,h1,hn,fun D hD=>?_⟩
 obtain⟨q1,q2,q3⟩:=h2 D hD
 have hlt:D<w.heap.size:=(ag6.1 q2).1
 exact⟨q1,(hv.block D hlt q3).trans q2,fun b g hg hB=>by
  obtain⟨b',g',r1,r2⟩:=hv.old b g D hg hB hlt
  exact q3 b' g' r1 r2⟩
theorem Marks.back {γ γ':Nat→Option G}{w:World}{strict:Prop}{T ds:List Deferred}{n:Nat}(hb:∀b g B,γ' b=some g→g.block=some B→∃b' g',γ b'=some g'∧g'.block=some B)(h:Marks strict T γ ds w n):Marks strict T γ' ds w n:=by
 obtain⟨Ds,h1,hn,h2⟩:=h
 refine⟨Ds,h1,hn,fun D hD=>?_⟩
 obtain⟨q1,q2,q3⟩:=h2 D hD
 exact⟨q1,q2,fun b g hg hB=>by
  obtain⟨b',g',r1,r2⟩:=hb b g D hg hB
  exact q3 b' g' r1 r2⟩
theorem Marks.sub {γ γ':Nat→Option G}{w:World}{strict:Prop}{T ds:List Deferred}{n:Nat}(hb:∀b g,γ' b=some g→γ b=some g)(h:Marks strict T γ ds w n):Marks strict T γ' ds w n:=h.back fun b g B h1 h2=>⟨b,g,hb b g h1,h2⟩
theorem PN {M₀:Base}{M:Nat→Nat→Prop}{γ γ0:Nat→Option G}{σ:Nat→Option bf}{w w0:World}(h2:Store M₀ γ σ w)(h3:aW M γ0 w0 (aA M₀ γ) γ w){D:Nat}{o o':Obj}
  (hB:w0.heap.size≤D) (hn:M₀.n≤D) (ho:w.heap[D]?=some o) (hc:o.isCells=false) (hu:∀b g,γ b=some g→g.block≠some D):
  Store M₀ γ σ (w.putObj D o')∧aW M γ0 w0 (aA M₀ γ) γ (w.putObj D o')∧∀d v,Rep (aA M₀ γ) γ w d v→Rep (aA M₀ γ) γ (w.putObj D o') d v:=by
 have hoth:∀k,k≠D→(w.putObj D o').heap[k]?=w.heap[k]?:=fun k hk=>World.putObj_heap_other hk
 have hcell:∀B off v,w.cell? ⟨B,off,none⟩=some v→B≠D:=by
  intro B off v hv e
  subst e
  simp only[World.cell?,ho] at hv
  cases o <;> simp_all[Obj.isCells]
 have hev:Evo (aA M₀ γ) γ w (aA M₀ γ) γ (w.putObj D o'):=⟨fun B off v _ hv=>by
   rw[World.cell?_of_block (w:=w) (w':=w.putObj D o') (by simpa using hoth B (hcell B off v hv))];exact hv,fun _ _ h _=>h,fun _ g h=>⟨g,h,G.le_refl g⟩⟩
 refine⟨⟨fun b=>?_,h2.dist,fun B off hm=>by rw[World.putObj_size];exact h2.outer B off hm,h2.apart,M₀.stable _ _ h2.inv (fun k hk=>hoth k (by omega)),h2.low,by rw[World.putObj_size];exact h2.big⟩,?_,fun d v h=>h.JU hev⟩
 ·rcases h2.names b with⟨blk,g,q1,q2,q3⟩|q
  ·exact .inl ⟨blk,g,q1,q2,q3.JU hev (fun B hBg=>hoth B (fun e=>hu b g q2 (by rw[hBg,e])))⟩
  ·exact .inr q
 ·refine⟨h3.os,h3.tape,h3.output,by rw[World.putObj_size];exact h3.size,fun B off v hm hv=>?_,fun B off hm hlt=>h3.wr B off hm hlt,h3.names,fun B hlt hno=>(hoth B (by omega)).trans (h3.block B hlt hno),h3.old⟩
  have h4:=h3.cell B off v hm hv
  rw[World.cell?_of_block (w:=w) (w':=w.putObj D o') (by simpa using hoth B (hcell B off v h4))];exact h4
def BI.M {P:dF}(E:BI P):Base:=P.base E.m
def Rel {P:dF}(E:BI P)(ent:List Nat)(N:Nat)(F:Nat→D)(σ:Nat→Option bf)(a:Act)(w:World):Prop:=
 ∃ γ,(∀b g,E.γ b=some g→b∈ent)∧Store E.M γ σ w∧aW (aA E.M E.γ) E.γ E.w (aA E.M γ) γ w∧a.tmps.size=N∧Marks (MS∈ent) E.tail γ a.defers w E.lo∧
  ∀t,Rep (aA E.M γ) γ w (F t) (a.tmps.getD t undef)
def oh (F:Nat→D)(dst:Option Tmp)(d:D):Nat→D:=
 match dst with
 |some t=>upd F t d
 |none=>F
def fg0:D→D
 | .slice sz nil es _=> .slice sz nil es none
 |d=>d
def fg:D→D
 | .slice sz nil es _=> .slice sz nil es none
 | .agg cs=> .agg (cs.map fg0)
 | .aQ cs=> .aQ (cs.map fg0)
 |d=>d
section
variable {M:Nat→Nat→Prop} {γ:Nat→Option G} {w:World}
theorem ahi {d:D}{v:Value}(h:Rep M γ w d v):Rep M γ w (fg0 d) v:=by
 cases h with
 |nilslice ht=>exact .nilslice (jk.none _ _ _)
 |slice vs a1 a2 a3 a4 a5 a6 a7=>exact .slice vs a1 a2 a3 a4 a5 a6 (jk.none _ _ _)
 |junk v=>exact .junk v
 |bool b=>exact .bool b
 |int k n=>exact .int k n
 |str s=>exact .str s
 |arr a1 a2=>exact .arr a1 a2
 |view a1 a2 a3=>exact .view a1 a2 a3
 |ref a1=>exact .ref a1
 |dV vs a1 a2 a3 a4=>exact .dV vs a1 a2 a3 a4
 |aV=>exact .aV
 |fn a1 a2 a3 a4=>exact .fn a1 a2 a3 a4
 |dK=>exact .dK
 |agg a1 a2 a3=>exact .agg a1 a2 a3
 |aQ a1 a2=>exact .aQ a1 a2
 |iface a1=>exact .iface a1
 |aK=>exact .aK
 |val v=>exact .val v
 |bI=>exact .bI
 |map a1=>exact .map a1
theorem G5 {cs:List D}{vs:Array Value}(hr:∀(i:Nat) d v,cs[i]?=some d→vs[i]?=some v→Rep M γ w d v):∀(i:Nat) d v,(cs.map fg0)[i]?=some d→vs[i]?=some v→Rep M γ w d v:=by
 intro i d v hd hv
 rw[adw] at hd
 cases hc:cs[i]? with
 |none=>rw[hc] at hd;cases hd
 |some c=>rw[hc] at hd;simp only[aiD,abr] at hd;subst hd;exact ahi (hr i c v hc hv)
theorem adB {d:D}{v:Value}(h:Rep M γ w d v):Rep M γ w (fg d) v:=by
 cases h with
 |agg hl h1 hr=>exact .agg (by simpa using hl) h1 (G5 hr)
 |aQ hl hr=>exact .aQ (by simpa using hl) (G5 hr)
 |nilslice ht=>exact .nilslice (jk.none _ _ _)
 |slice vs a1 a2 a3 a4 a5 a6 a7=>exact .slice vs a1 a2 a3 a4 a5 a6 (jk.none _ _ _)
 |junk v=>exact .junk v
 |bool b=>exact .bool b
 |int k n=>exact .int k n
 |str s=>exact .str s
 |arr a1 a2=>exact .arr a1 a2
 |view a1 a2 a3=>exact .view a1 a2 a3
 |ref a1=>exact .ref a1
 |dV vs a1 a2 a3 a4=>exact .dV vs a1 a2 a3 a4
 |aV=>exact .aV
 |fn a1 a2 a3 a4=>exact .fn a1 a2 a3 a4
 |dK=>exact .dK
 |iface a1=>exact .iface a1
 |aK=>exact .aK
 |val v=>exact .val v
 |bI=>exact .bI
 |map a1=>exact .map a1
end
structure Rec where
 BH:List Nat
 ws:List (Nat × bf)
def sN (P:dF)(ρ:Operand→D):Operand→D
 | .global g=>match P.glob g with
  |some cs=> .dV cs
  |none=>ρ (.global g)
 |x=>ρ x
theorem U1 {P:dF}{m:Nat→Nat→Prop}{γ:Nat→Option G}{σ:Nat→Option bf}{w:World}{ρ:Operand→D}{ρv:Operand→Value}(h:Store (P.base m) γ σ w)(hg:∀g,ρv (.global g)= .pointer (some ⟨g,0,none⟩))(hρ:∀x,Rep (aA (P.base m) γ) γ w (ρ x) (ρv x)):
  ∀x,Rep (aA (P.base m) γ) γ w (sN P ρ x) (ρv x):=by
 intro x
 unfold sN
 split
 ·rename_i g
  split
  ·rename_i cs hcs
   obtain⟨hlt,vs,h1,h2,h3⟩:=P.XY w h.inv g cs hcs
   rw[hg]
   refine .dV vs h1 rfl (fun j v hv=>?_) (fun j d v hd hv=>h3 j d v hd hv _ _)
   obtain⟨a,b⟩:=h2 j v hv
   refine⟨by simpa using a,?_,b⟩
   rintro (hm | ⟨c,gc,hc,hw⟩)
   ·have:=(h.outer _ _ hm).1
    exact absurd hlt (Nat.not_lt.2 this)
   ·have:=h.low c gc g hc (G.jR hw)
    exact absurd hlt (Nat.not_lt.2 this)
  ·exact hρ _
 ·exact hρ _
def opM (P:dF)(ρ:Operand→D)(σ:Nat→Option bf)(id:Nat)(o:Op):Option Eff:=
 match o with
 | .buildSlice t n ps=>if P.lit t n ps=true then opA P.prog ρ id t n ps else dY P.prog ρ σ id (.buildSlice t n ps)
 | .load t (.global g)=>dY P.prog (sN P ρ) σ id (.load t (.global g))
 | .indexAddr t (.global g) i=>dY P.prog (sN P ρ) σ id (.indexAddr t (.global g) i)
 |o=>dY P.prog ρ σ id o
def KD (P:dF)(o:Op):Bool:=
 match o with
 | .buildSlice t n ps=>P.lit t n ps
 |o=>Sv o
theorem zN (P:dF)(ρ:Operand→D)(σ:Nat→Option bf)(id:Nat)(o:Op)(h:∀t n ps,o= .buildSlice t n ps→P.lit t n ps=false)(hl:∀t g,o≠ .load t (.global g))(hi:∀t g i,o≠ .indexAddr t (.global g) i):opM P ρ σ id o=dY P.prog ρ σ id o∧KD P o=Sv o:=by
 cases o with
 |buildSlice t n ps=>have:=h t n ps rfl;simp only[opM,KD,this];exact⟨rfl,rfl⟩
 |load t a=>cases a with
  |global g=>exact absurd rfl (hl t g)
  | _=>exact⟨rfl,rfl⟩
 |indexAddr t x i=>cases x with
  |global g=>exact absurd rfl (hi t g i)
  | _=>exact⟨rfl,rfl⟩
 | _=>exact⟨rfl,rfl⟩
theorem abg {P:dF}{m:Nat→Nat→Prop}{γ:Nat→Option G}{σ:Nat→Option bf}{w:World}{ρ:Operand→D}{ρv:Operand→Value}(h:Store (P.base m) γ σ w){id:Nat}(o:Oper)(hid:KD P o.op=true→σ id=none)(hg:∀g,ρv (.global g)= .pointer (some ⟨g,0,none⟩))(hρ:∀x,Rep (aA (P.base m) γ) γ w (ρ x) (ρv x)){f:Eff}(hf:opM P ρ σ id o.op=some f)(hs:f.side):
  Out (P.base m) γ σ w ((execOp ρv o).run P.prog w) f.val f.ws:=by
 by_cases hb:∃t n ps,o.op= .buildSlice t n ps∧P.lit t n ps=true
 ·obtain⟨t,n,ps,ho,hm⟩:=hb
  obtain⟨dst,op,ty,pos,after,guard⟩:=o
  simp only at ho;subst ho
  simp only[opM,hm,if_true,opA,ac9] at hf
  obtain⟨⟨e,sz,by'⟩,he,hf⟩:=hf
  dsimp only at hf
  split at hf
  rotate_left
  ·cases hf
  rename_i hc
  simp only[abR] at hf
  obtain⟨es,hes,rfl⟩:=hf
  exact SH h hρ (hid (by simp[KD,hm])) he hc.1 hc.2.1 hc.2.2.1 hc.2.2.2 hes
 ·have hlit:∀t n ps,o.op= .buildSlice t n ps→P.lit t n ps=false:=fun t n ps ho=>by
   cases hm:P.lit t n ps with
   |false=>rfl
   |true=>exact absurd ⟨t,n,ps,ho,hm⟩ hb
  by_cases hl:∃t g,o.op= .load t (.global g)
  ·obtain⟨t,g,ho⟩:=hl
   have e:opM P ρ σ id o.op=dY P.prog (sN P ρ) σ id o.op:=by rw[ho];rfl
   rw[e] at hf
   exact Fh h o (fun hu=>hid (by rw[ho] at hu ⊢;exact hu)) (U1 h hg hρ) hf hs
  ·by_cases hi:∃t g i,o.op= .indexAddr t (.global g) i
   ·obtain⟨t,g,i,ho⟩:=hi
    have e:opM P ρ σ id o.op=dY P.prog (sN P ρ) σ id o.op:=by rw[ho];rfl
    rw[e] at hf
    exact Fh h o (fun hu=>hid (by rw[ho] at hu ⊢;exact hu)) (U1 h hg hρ) hf hs
   ·obtain⟨e1,e2⟩:=zN P ρ σ id o.op hlit (fun t g ho=>hl ⟨t,g,ho⟩) (fun t g i ho=>hi ⟨t,g,i,ho⟩)
    rw[e1] at hf;rw[e2] at hid
    exact Fh h o hid hρ hf hs
def CW (P:dF)(o:Oper)(ρ:Operand→D)(σ:Nat→Option bf)(d:D)(r:Rec):Prop:=
 (∃id f,(KD P o.op=true→σ id=none)∧opM P ρ σ id o.op=some f∧f.side∧d=f.val∧r=⟨if KD P o.op=true then id::f.BH else f.BH,f.ws⟩)∨
 (∃fo args ts k first cap ins,o.op= .call { callee:= .value fo,args:=args,argTypes:=ts }∧ρ fo= .fn (.func k) first cap∧aF P k ((first++args.toList.map ρ++cap).map fg) ins d r.ws∧
  (∀b blk,lk ins b=some blk→σ b=some blk∧aB (fun i=>(lk ins i).isSome=true) blk)∧(∀b,(lk r.ws b).isSome=true→(lk ins b).isSome=true∨(σ b=none∧b∈r.BH))∧
  (∀d∈(first++args.toList.map ρ++cap).map fg,bY (fun i=>(lk ins i).isSome=true) d)∧(∀b,(lk ins b).isSome=true→b∈r.BH))
def laid (σ:Nat→Option bf)(ws:List (Nat × bf)):Nat→Option bf:=fun b=>
 match lk ws b with
 |some blk=>some blk
 |none=>σ b
section
variable {P:dF} {E:BI P} {ent:List Nat} {N:Nat} {F:Nat→D} {σ:Nat→Option bf} {a:Act} {w:World}
theorem iY {M:Nat→Nat→Prop}{γ:Nat→Option G}(h:∀t,Rep M γ w (F t) (a.tmps.getD t undef))(x:Operand):Rep M γ w (bT F x) (a.eval x):=by
 cases x with
 |tmp t=>exact h t
 |const v=>exact ku M v
 |global g=>exact .junk _
 |func f=>exact .fn rfl rfl (by simp) (by simp)
theorem wE {dst:Option Tmp}{v:Value}(hd:∀t,dst=some t→t<a.tmps.size)(t:Nat):(a.put dst v).tmps.getD t undef=if dst=some t then v else a.tmps.getD t undef:=by
 cases dst with
 |none=>simp[Act.put]
 |some d=>
  have hlt:=hd d rfl
  simp only[Act.put,ag_,ao2,abr]
  by_cases e:d=t
  ·subst e;simp[hlt]
  ·simp[e]
theorem iE {dst:Option Tmp}{v:Value}:(a.put dst v).tmps.size=a.tmps.size:=by cases dst <;> simp[Act.put]
theorem put_defers {dst:Option Tmp}{v:Value}:(a.put dst v).defers=a.defers:=by cases dst <;> simp[Act.put]
theorem kZ {M:Nat→Nat→Prop}{γ:Nat→Option G}{dst:Option Tmp}{v:Value}{d:D}(hd:∀t,dst=some t→t<a.tmps.size)(hv:Rep M γ w d v)(h:∀t,Rep M γ w (F t) (a.tmps.getD t undef)):
  ∀t,Rep M γ w (oh F dst d t) ((a.put dst v).tmps.getD t undef):=by
 intro t
 rw[wE hd]
 cases dst with
 |none=>simpa [oh] using h t
 |some d'=>
  simp only[oh,abr]
  by_cases e:d'=t
  ·subst e;simpa [upd_same] using hv
  ·rw[if_neg e,bn _ _ (Ne.symm e)];exact h t
theorem Rel.skip (h:Rel E ent N F σ a w){dst:Option Tmp}(hd:∀t,dst=some t→t<N)   : Rel E ent N (oh F dst (.aQ [])) σ (a.put dst undef) w:=by
 obtain⟨γ,h1,h2,h3,h4,h5,h6⟩:=h
 exact⟨γ,h1,h2,h3,by rw[iE];exact h4,by rw[put_defers];exact h5,kZ (by rw[h4];exact hd) (.aQ rfl (by simp)) h6⟩
theorem xU (σ:Nat→Option bf):∀ws:List (Nat × bf),E_ σ ws=laid σ ws
 | []=>rfl
 |(b,blk)::ws=>by
  funext i
  simp only[E_,xU σ ws,laid,lk,upd]
  split <;> rfl
end
section
variable {P:dF} {E:BI P} {ent:List Nat} {N:Nat} {F:Nat→D} {σ:Nat→Option bf} {a:Act} {w:World}
theorem gU.op {Fe:Fence}(hF:nP Fe){nf:Nat}(h:Rel E ent N F σ a w){o:Oper}{x:Option Value}{d:D}{ws:List (Nat × bf)}{fo:Operand}{args:Array Operand}{ts:Array TypeId}{k:FuncId}{first cap:List D}{ins:List (Nat × bf)}
  (hop:o.op= .call { callee:= .value fo,args:=args,argTypes:=ts }) (hfo:bT F fo= .fn (.func k) first cap) (hc:gU P x k ((first++args.toList.map (bT F)++cap).map fg) ins d ws)
  (hin:∀b blk,lk ins b=some blk→σ b=some blk∧aB (fun i=>(lk ins i).isSome=true) blk) (hout:∀b,(lk ws b).isSome=true→(lk ins b).isSome=true∨σ b=none)
  (adC:∀d∈(first++args.toList.map (bT F)++cap).map fg,bY (fun i=>(lk ins i).isSome=true) d) (hd:∀t,o.dst=some t→t<N) (next:Act→World→Prop) (Q:Exit→Act→World→Prop)
  (hn:x=none→∀v w',Rel E ent N (oh F o.dst d) (laid σ ws) (a.put o.dst v) w'→next (a.put o.dst v) w')
  (hx:∀y,x=some y→∀w',Rel E ent N F (laid σ ws) a w'→Q (.panic [{ v:=y,recovered:=false }]) a w'):o.wpIn Fe nf P.prog a w next Q:=by
 have aku:o.semAt Fe.round a.eval=execOp a.eval o:=Oper.semAt_plain Fe a.eval o fun c hc=>by rw[hc] at hop;cases hop
 refine⟨fun f _=>hF.fn f,?_⟩
 rw[aku]
 obtain⟨γ,h1,h2,h3,h4,h5,h6⟩:=h
 obtain⟨⟨fn,hfn,hname,hbody⟩,hcall⟩:=hc
 have akv:=iY h6 fo
 rw[hfo] at akv
 generalize hv:a.eval fo=fv at akv
 cases akv with
 | @fn _ _ _ first' cap' hl1 hl2 hr1 hr2=>
  have hrun:(execOp a.eval o).run P.prog w= .ok (.enter k (first'++args.map a.eval++cap')) w:=by
   simp only[execOp,hop,resolve,hv,Deferred.ofValue,Sem.run_bind,Sem.run_pure,Result.andThen_ok,invoke,callFunc,run_program,hfn,hname]
   simp[hbody]
  rw[hrun]
  refine⟨fun e=>(hF.depth e).elim,hF.calls ?_⟩
  have hvs:∀(i:Nat) d v,((first++args.toList.map (bT F)++cap).map fg)[i]?=some d→(first'++args.map a.eval++cap').toList[i]?=some v→Rep (aA E.M γ) γ w d v:=by
   intro i d v hdd hvv
   rw[adw] at hdd
   obtain⟨d',hd',rfl⟩:=abR.1 hdd
   refine adB ?_
   simp only[aoB,Array.toList_map] at hvv
   by_cases q1:i<(first++args.toList.map (bT F)).length
   ·rw[ag2 q1] at hd'
    rw[ag2 (by simp at q1 ⊢;omega)] at hvv
    by_cases q2:i<first.length
    ·rw[ag2 q2] at hd'
     rw[ag2 (by simp;omega)] at hvv
     exact hr1 i d' v hd' (by simpa using hvv)
    ·rw[ag7 (by omega)] at hd'
     rw[ag7 (by simp;omega)] at hvv
     simp only[alx,hl1] at hvv
     rw[adw] at hd' hvv
     cases hx:args.toList[i - first.length]? with
     |none=>rw[hx] at hd';cases hd'
     |some x=>
      rw[hx] at hd' hvv
      simp only[aiD,abr] at hd' hvv
      subst hd';subst hvv
      exact iY h6 x
   ·rw[ag7 (by omega)] at hd'
    rw[ag7 (by simp at q1 ⊢;omega)] at hvv
    have e:(first'.toList++args.toList.map a.eval).length=(first++args.toList.map (bT F)).length:=by simp[hl1]
    rw[e] at hvv
    exact hr2 _ d' v hd' (by simpa using hvv)
  have:=gU.use (P:=P) ⟨⟨fn,hfn,hname,hbody⟩,hcall⟩ h2 hin hout (first'++args.map a.eval++cap').toList (by simp[hl1,hl2]) hvs adC
  simp only[Array.toArray_toList] at this
  refine this.mono ?_
  rintro e w' ⟨v,γ',rfl,hst,hev,hrep⟩
  cases x with
  |none=>exact hn rfl _ _ ⟨γ',h1,hst,h3.trans hev,by rw[iE];exact h4,by rw[put_defers];exact h5.dA hev,kZ (by rw[h4];exact hd) hrep (fun t=>(h6 t).dA hev)⟩
  |some y=>exact hx y rfl _ ⟨γ',h1,hst,h3.trans hev,h4,h5.dA hev,fun t=>(h6 t).dA hev⟩
theorem CW.wp {Fe:Fence}(hF:nP Fe){nf:Nat}(h:Rel E ent N F σ a w){o:Oper}{d:D}{r:Rec}(ho:CW P o (bT F) σ d r)(hd:∀t,o.dst=some t→t<N)(next:Act→World→Prop)(Q:Exit→Act→World→Prop)
  (hn:∀v w',Rel E ent N (oh F o.dst d) (laid σ r.ws) (a.put o.dst v) w'→next (a.put o.dst v) w'):o.wpIn Fe nf P.prog a w next Q:=by
 rcases ho with⟨id,f,hid,hf,hs,rfl,rfl⟩ | ⟨fo,args,ts,k,first,cap,ins,hop,hfo,hc,hin,hout,adC,hrd⟩
 ·have aku:o.semAt Fe.round a.eval=execOp a.eval o:=Oper.semAt_plain Fe a.eval o fun c hc=>by rw[hc] at hf;simp[opM,dY] at hf
  refine⟨fun f _=>hF.fn f,?_⟩
  rw[aku]
  obtain⟨γ,h1,h2,h3,h4,h5,h6⟩:=h
  obtain⟨v,w',γ',hr,hst,hev,hrep⟩:=abg h2 o hid (ρv:=a.eval) (fun _=>rfl) (iY h6) hf hs
  have hrel:Rel E ent N (oh F o.dst f.val) (laid σ f.ws) (a.put o.dst v) w':=
   ⟨γ',h1,by rw[← xU];exact hst,h3.trans hev,by rw[iE];exact h4,by rw[put_defers];exact h5.dA hev,kZ (by rw[h4];exact hd) hrep (fun t=>(h6 t).dA hev)⟩
  rcases hr with hr | ⟨hr,rfl⟩
  ·rw[hr];exact hn _ _ hrel
  ·rw[hr];exact hn _ _ hrel
 ·exact gU.op (x:=none) hF h hop hfo hc hin (fun b hb=>(hout b hb).imp (fun h=>h) (fun h=>h.1)) adC hd next Q (fun _=>hn) (fun _ h=>by cases h)
end
section
variable {P:Program} {ρ ρ':Operand→D} {σ σ':Nat→Option bf}
theorem wF {sz:Nat}:∀(ps:List (Nat × Operand)) (i:Nat),(∀p∈ps,ρ' p.2=ρ p.2)→jQ ρ' sz i ps=jQ ρ sz i ps
 | [],_,_=>rfl
 |(j,x)::ps,i,h=>by
  simp only[jQ,h (j,x) (by simp),wF ps (i+1) (fun p hp=>h p (by simp[hp]))]
theorem G6 {t:TypeId}:∀(ps:List (Nat × Operand)) (cs:List D),(∀p∈ps,ρ' p.2=ρ p.2)→rG P t ρ' ps cs=rG P t ρ ps cs
 | [],_,_=>rfl
 |(j,x)::ps,cs,h=>by
  simp only[rG,h (j,x) (by simp),fun cs=>G6 (t:=t) ps cs (fun p hp=>h p (by simp[hp]))]
theorem XZ {id:Nat}{ts:Array TypeId}{x y:D}{f:Eff}(h:Sm P σ id ts x y=some f)(hσ:∀b∈f.BH,σ' b=σ b):Sm P σ' id ts x y=some f:=by
 unfold Sm at h ⊢
 split at h
 ·unfold EX at h ⊢
  split at h
  rotate_left
  ·cases h
  split at h
  ·cases h
  rename_i hcc
  simp only[if_neg hcc]
  split at h
  ·rename_i h0;rw[if_pos h0];exact h
  rename_i h0
  rw[if_neg h0]
  split at h
  ·rename_i t
   split at h
   ·rename_i hb
    split at h
    ·rename_i hc3
     simp only[abr] at h
     subst h
     simp only[hσ _ (ad1.2 rfl),hb]
     rw[if_pos hc3]
    ·cases h
   ·cases h
  ·exact h
 ·unfold EW at h ⊢
  split at h
  rotate_left
  ·cases h
  split at h
  ·cases h
  rename_i hcc
  simp only[if_neg hcc]
  split at h
  ·rename_i t
   split at h
   ·rename_i hb
    split at h
    ·rename_i hc3
     simp only[abr] at h
     subst h
     simp only[hσ _ (ad1.2 rfl),hb]
     rw[if_pos hc3]
    ·cases h
   ·cases h
  ·exact h
theorem Fj {id:Nat}{o:Op}{f:Eff}(h:dY P ρ σ id o=some f)(hρ:∀x∈o.operands,ρ' x=ρ x)(hσ:∀b∈f.BH,σ' b=σ b):dY P ρ' σ' id o=some f:=by
 cases o with
 |load t a=>
  simp only[dY,ac9] at h ⊢
  obtain⟨g,hg,sz,hsz,h⟩:=h
  refine⟨g,hg,sz,hsz,?_⟩
  rw[hρ a (by simp[Op.operands])]
  split at h
  ·rename_i b off e
   split at h
   ·rename_i cs hb
    obtain⟨d,hd,rfl⟩:=abR.1 h
    simp only[hσ b (by simp),hb];exact h
   ·rename_i z cs hb
    obtain⟨d,hd,rfl⟩:=abR.1 h
    simp only[hσ b (by simp),hb];exact h
   ·cases h
  ·exact h
  ·cases h
 |store t a x=>
  simp only[dY,ac9] at h ⊢
  obtain⟨sz,hsz,vs,hvs,h⟩:=h
  refine⟨sz,hsz,vs,by rw[hρ x (by simp[Op.operands])];exact hvs,?_⟩
  rw[hρ a (by simp[Op.operands])]
  split at h
  ·rename_i b off e
   split at h
   ·rename_i cs hb
    split at h
    ·simp only[abr] at h;subst h
     simp only[hσ b (by simp),hb];rw[if_pos (by assumption)]
    ·cases h
   ·rename_i z cs hb
    split at h
    ·simp only[abr] at h;subst h
     simp only[hσ b (by simp),hb];rw[if_pos (by assumption)]
    ·cases h
   ·cases h
  ·cases h
 |build t parts=>
  have:∀z,rG P t ρ' parts.toList z=rG P t ρ parts.toList z:=fun z=>G6 parts.toList z (fun p hp=>hρ p.2 (by simp only[Op.operands,List.mem_toArray,List.mem_map];exact⟨p,hp,rfl⟩))
  simp only[dY,this] at h ⊢
  exact h
 |buildSlice t len parts=>
  have:∀sz,jQ ρ' sz 0 parts.toList=jQ ρ sz 0 parts.toList:=fun sz=>wF parts.toList 0 (fun p hp=>hρ p.2 (by simp only[Op.operands,List.mem_toArray,List.mem_map];exact⟨p,hp,rfl⟩))
  simp only[dY,this] at h ⊢
  exact h
 |makeFunc fn a b=>
  have h1:a.toList.map ρ'=a.toList.map ρ:=ajb fun x hx=>hρ x (by simp only[Op.operands,Array.mem_append];exact .inl (by simpa using hx))
  have h2:b.toList.map ρ'=b.toList.map ρ:=ajb fun x hx=>hρ x (by simp only[Op.operands,Array.mem_append];exact .inr (by simpa using hx))
  simp only[dY,h1,h2] at h ⊢
  exact h
 |slice t x lo hi mx=>
  cases mx with
  |some _=>simp[dY] at h
  |none=>
   have h0:ρ' x=ρ x:=hρ x (by simp[Op.operands])
   have h1:lo.map ρ'=lo.map ρ:=by
    cases lo with
    |none=>rfl
    |some l=>simp only[aiD,hρ l (by simp[Op.operands])]
   have h2:hi.map ρ'=hi.map ρ:=by
    cases hi with
    |none=>rfl
    |some l=>simp only[aiD,hρ l (by simp[Op.operands])]
   simp only[dY,h0,h1,h2] at h ⊢
   exact h
 |call c=>
  obtain⟨callee,args,ts⟩:=c
  cases callee with
  |builtin b=>
   have hmem:∀(i:Nat) x,args[i]?=some x→ρ' x=ρ x:=fun i x hx=>hρ x (by
    simp only[Op.operands,Call.operands]
    simpa using ajY hx)
   cases b with
   |len=>
    simp only[dY] at h ⊢
    split at h
    rotate_left
    ·cases h
    rename_i hc
    rw[if_pos hc]
    simp only[ac9] at h ⊢
    obtain⟨x,hx,t,ht,h⟩:=h
    refine⟨x,hx,t,ht,?_⟩
    rw[hmem 0 x hx]
    split at h
    ·rename_i b e
     split at h
     rotate_left
     ·cases h
     rename_i es clock hb
     split at h
     rotate_left
     ·cases h
     rename_i hm
     simp only[abr] at h
     subst h
     simp only[hσ b (ad1.2 rfl),hb,hm,if_true]
    ·exact h
   |delete=>
    simp only[dY] at h ⊢
    split at h
    rotate_left
    ·cases h
    rename_i hc
    rw[if_pos hc]
    simp only[ac9] at h ⊢
    obtain⟨t,ht,e,he,x,hx,y,hy,h⟩:=h
    refine⟨t,ht,e,he,x,hx,y,hy,?_⟩
    rw[hmem 0 x hx,hmem 1 y hy]
    split at h
    rotate_left
    ·cases h
    rename_i b s ex ey
    split at h
    rotate_left
    ·cases h
    rename_i es clock hb
    simp only[abr] at h
    subst h
    simp only[hσ b (ad1.2 rfl),hb]
   |clear=>
    simp only[dY] at h ⊢
    split at h
    rotate_left
    ·cases h
    rename_i hc
    rw[if_pos hc]
    simp only[ac9] at h ⊢
    obtain⟨x,hx,t,ht,q,hq,z,hz,h⟩:=h
    refine⟨x,hx,t,ht,q,hq,z,hz,?_⟩
    rw[hmem 0 x hx]
    split at h
    rotate_left
    ·cases h
    rename_i hl
    rw[if_pos hl]
    unfold EY at h ⊢
    split at h
    ·split at h
     rotate_left
     ·cases h
     rename_i hz2
     rw[if_pos hz2]
     split at h
     ·rename_i e cs hb
      simp only[abr] at h
      subst h
      simp only[hσ _ (ad1.2 rfl),hb]
     ·cases h
    ·split at h
     rotate_left
     ·cases h
     rename_i hz2
     rw[if_pos hz2]
     split at h
     ·rename_i e cs hb
      simp only[abr] at h
      subst h
      simp only[hσ _ (ad1.2 rfl),hb]
     ·cases h
    ·cases h
   |append=>
    simp only[dY] at h ⊢
    split at h
    rotate_left
    ·cases h
    rename_i hc
    rw[if_pos hc]
    simp only[ac9] at h ⊢
    obtain⟨x,hx,y,hy,h⟩:=h
    refine⟨x,hx,y,hy,?_⟩
    rw[hmem 0 x hx,hmem 1 y hy]
    exact XZ h hσ
   |min=>
    simp only[dY] at h ⊢
    split at h
    rotate_left
    ·cases h
    rename_i hc
    rw[if_pos hc]
    simp only[ac9] at h ⊢
    obtain⟨x,hx,y,hy,h⟩:=h
    exact⟨x,hx,y,hy,by rw[hmem 0 x hx,hmem 1 y hy];exact h⟩
   |max=>
    simp only[dY] at h ⊢
    split at h
    rotate_left
    ·cases h
    rename_i hc
    rw[if_pos hc]
    simp only[ac9] at h ⊢
    obtain⟨x,hx,y,hy,h⟩:=h
    exact⟨x,hx,y,hy,by rw[hmem 0 x hx,hmem 1 y hy];exact h⟩
   | _=>simp[dY] at h
  | _=>simp[dY] at h
 |move x=>have:=hρ x (by simp[Op.operands]);simp only[dY,this] at h ⊢;exact h
 |assign x=>have:=hρ x (by simp[Op.operands]);simp only[dY,this] at h ⊢;exact h
 |pick c a b=>
  have h1:=hρ c (by simp[Op.operands]);have h2:=hρ a (by simp[Op.operands]);have h3:=hρ b (by simp[Op.operands])
  simp only[dY,h1,h2,h3] at h ⊢;exact h
 |alloc e=>exact h
 |box e x=>have:=hρ x (by simp[Op.operands]);simp only[dY,this] at h ⊢;exact h
 |nilCheck x=>have:=hρ x (by simp[Op.operands]);simp only[dY,this] at h ⊢;exact h
 |binOp op xt x y yt=>have h1:=hρ x (by simp[Op.operands]);have h2:=hρ y (by simp[Op.operands]);simp only[dY,h1,h2] at h ⊢;exact h
 |unOp op xt x=>have:=hρ x (by simp[Op.operands]);simp only[dY,this] at h ⊢;exact h
 |convert s d x=>have:=hρ x (by simp[Op.operands]);simp only[dY,this] at h ⊢;exact h
 |makeInterface t x=>have:=hρ x (by simp[Op.operands]);simp only[dY,this] at h ⊢;exact h
 |fieldAddr s x fi=>have:=hρ x (by simp[Op.operands]);simp only[dY,this] at h ⊢;exact h
 |field s x fi=>have:=hρ x (by simp[Op.operands]);simp only[dY,this] at h ⊢;exact h
 |indexAddr t x i=>have h1:=hρ x (by simp[Op.operands]);have h2:=hρ i (by simp[Op.operands]);simp only[dY,h1,h2] at h ⊢;exact h
 |index t x i=>have h1:=hρ x (by simp[Op.operands]);have h2:=hρ i (by simp[Op.operands]);simp only[dY,h1,h2] at h ⊢;exact h
 |extract x i=>have:=hρ x (by simp[Op.operands]);simp only[dY,this] at h ⊢;exact h
 |typeAssert x s d ok=>cases ok with
  |false=>simp[dY] at h
  |true=>have:=hρ x (by simp[Op.operands]);simp only[dY,this] at h ⊢;exact h
 |range t x=>
  simp only[dY] at h ⊢
  rw[hρ x (by simp[Op.operands])]
  split at h
  ·exact h
  ·rename_i b e
   split at h
   rotate_left
   ·cases h
   rename_i es clock hb
   split at h
   rotate_left
   ·cases h
   rename_i hm
   simp only[abr] at h
   subst h
   simp only[hσ b (ad1.2 rfl),hb,hm,if_true]
  ·cases h
 |makeMap t r=>
  cases r with
  |some _=>simp[dY] at h
  |none=>exact h
 |lookup t x i ok=>
  simp only[dY,ac9] at h ⊢
  obtain⟨e,he,z,hz,h⟩:=h
  refine⟨e,he,z,hz,?_⟩
  rw[hρ x (by simp[Op.operands]),hρ i (by simp[Op.operands])]
  split at h
  ·exact h
  ·rename_i b s ex ei
   split at h
   rotate_left
   ·cases h
   rename_i es clock hb
   simp only[abr] at h
   subst h
   simp only[hσ b (ad1.2 rfl),hb]
  ·cases h
 |mapUpdate t m i x=>
  simp only[dY,ac9] at h ⊢
  obtain⟨e,he,h⟩:=h
  refine⟨e,he,?_⟩
  rw[hρ m (by simp[Op.operands]),hρ i (by simp[Op.operands]),hρ x (by simp[Op.operands])]
  split at h
  ·rename_i b s ex ei
   split at h
   rotate_left
   ·cases h
   rename_i es clock hb
   simp only[abr] at h
   subst h
   simp only[hσ b (ad1.2 rfl),hb]
  ·cases h
 |next x st=>
  cases st with
  |false=>simp[dY] at h
  |true=>
   simp only[dY] at h ⊢
   rw[hρ x (by simp[Op.operands])]
   split at h
   rotate_left
   ·cases h
   rename_i b e
   split at h
   rotate_left
   ·cases h
   rename_i s pos hb
   simp only[abr] at h
   subst h
   simp only[hσ b (ad1.2 rfl),hb]
 | _=>simp[dY] at h
theorem abh {P:dF}{id:Nat}{o:Op}{f:Eff}(h:opM P ρ σ id o=some f)(hρ:∀x∈o.operands,ρ' x=ρ x)(hσ:∀b∈f.BH,σ' b=σ b):opM P ρ' σ' id o=some f:=by
 by_cases hb:∃t n ps,o= .buildSlice t n ps∧P.lit t n ps=true
 ·obtain⟨t,n,parts,rfl,hm⟩:=hb
  have:∀sz,jQ ρ' sz 0 parts.toList=jQ ρ sz 0 parts.toList:=fun sz=>wF parts.toList 0 (fun p hp=>hρ p.2 (by simp only[Op.operands,List.mem_toArray,List.mem_map];exact⟨p,hp,rfl⟩))
  simp only[opM,hm,if_true,opA,this] at h ⊢
  exact h
 ·have hh:∀t n ps,o= .buildSlice t n ps→P.lit t n ps=false:=fun t n ps ho=>by
   cases hm:P.lit t n ps with
   |false=>rfl
   |true=>exact absurd ⟨t,n,ps,ho,hm⟩ hb
  have hG:∀x∈o.operands,sN P ρ' x=sN P ρ x:=by
   intro x hx
   have:=hρ x hx
   unfold sN
   split
   ·rename_i g
    cases P.glob g with
    |some cs=>rfl
    |none=>exact this
   ·exact this
  by_cases hl:∃t g,o= .load t (.global g)
  ·obtain⟨t,g,rfl⟩:=hl
   exact Fj (ρ:=sN P ρ) (ρ':=sN P ρ') (show dY P.prog (sN P ρ) σ id (.load t (.global g))=some f from h) hG hσ
  ·by_cases hi:∃t g i,o= .indexAddr t (.global g) i
   ·obtain⟨t,g,i,rfl⟩:=hi
    exact Fj (ρ:=sN P ρ) (ρ':=sN P ρ') (show dY P.prog (sN P ρ) σ id (.indexAddr t (.global g) i)=some f from h) hG hσ
   ·have f1:∀t g,o≠ .load t (.global g):=fun t g ho=>hl ⟨t,g,ho⟩
    have f2:∀t g i,o≠ .indexAddr t (.global g) i:=fun t g i ho=>hi ⟨t,g,i,ho⟩
    rw[(zN P ρ σ id o hh f1 f2).1] at h
    rw[(zN P ρ' σ' id o hh f1 f2).1]
    exact Fj h hρ hσ
theorem CW.congr {P:dF}{o:Oper}{d:D}{r:Rec}(h:CW P o ρ σ d r)(hρ:∀x∈o.op.operands,ρ' x=ρ x)(hσ:∀b∈r.BH,σ' b=σ b):CW P o ρ' σ' d r:=by
 rcases h with⟨id,f,hid,hf,hs,rfl,rfl⟩ | ⟨fo,args,ts,k,first,cap,ins,hop,hfo,hc,hin,hout,adC,hrd⟩
 ·refine .inl ⟨id,f,fun hu=>?_,abh hf hρ (fun b hb=>hσ b ?_),hs,rfl,rfl⟩
  ·rw[hσ id (by simp only[if_pos hu];simp)];exact hid hu
  ·dsimp only;split
   ·exact ahA _ hb
   ·exact hb
 ·have e1:ρ' fo=ρ fo:=hρ fo (by simp[hop,Op.operands,Call.operands])
  have e2:args.toList.map ρ'=args.toList.map ρ:=ajb fun x hx=>hρ x (by simp only[hop,Op.operands,Call.operands,Array.mem_append];exact .inr (by simpa using hx))
  refine .inr ⟨fo,args,ts,k,first,cap,ins,hop,e1.trans hfo,by rw[e2];exact hc,fun b blk hb=>?_,fun b hb=>?_,by rw[e2];exact adC,hrd⟩
  ·obtain⟨q1,q2⟩:=hin b blk hb
   exact⟨by rw[hσ b (hrd b (by simp[hb]))];exact q1,q2⟩
  ·rcases hout b hb with q | ⟨q1,q2⟩
   ·exact .inl q
   ·exact .inr ⟨by rw[hσ b q2];exact q1,q2⟩
end
end Go.Id
namespace Go.Id
open Go
theorem PS {α:Type}(l:List (Nat × α))(i k:Nat):lk (dl l i) k=if k=i then none else lk l k:=by
 induction l with
 |nil=>simp[dl,lk]
 |cons p l ih=>
  obtain⟨j,v⟩:=p
  simp only[dl]
  split
  ·rename_i h
   subst h
   rw[ih]
   by_cases e:k=i
   ·simp[e]
   ·simp[lk,e]
  ·rename_i h
   simp only[lk,ih]
   by_cases e:k=j
   ·subst e
    have h':¬k=i:=fun e=>h e.symm
    simp[h']
   ·simp[e]
theorem BJ {α:Type}(l:List (Nat × α))(i:Nat)(v:α)(k:Nat):lk ((i,v)::dl l i) k=if k=i then some v else lk l k:=by
 simp only[lk,PS]
 split <;> simp_all
theorem U2 {α:Type}(l:List (Nat × α)):∀k,fresh l≤k→lk l k=none:=by
 induction l with
 |nil=>intro k _;rfl
 |cons p l ih=>
  obtain⟨j,v⟩:=p
  intro k hk
  simp only[fresh] at hk
  simp only[lk]
  rw[if_neg (by omega)]
  exact ih k (by omega)
theorem get_put (st:St)(dst:Option Tmp)(d:D):(st.put dst d).get=oh st.get dst d:=by
 funext k
 cases dst with
 |none=>rfl
 |some t=>
  simp only[St.put,St.get,oh,upd,BJ]
  split <;> rfl
def St.lay (st:St):List (Nat × bf)→St
 | []=>st
 |(b,blk)::ws=>{ st with σ:=(b,blk)::dl (St.lay st ws).σ b }
theorem oZ (st:St)(ws:List (Nat × bf)):(st.lay ws).get=st.get:=by cases ws <;> rfl
theorem lay_σ (st:St):∀ws:List (Nat × bf),lk (st.lay ws).σ=laid (lk st.σ) ws
 | []=>rfl
 |(b,blk)::ws=>by
  funext k
  simp only[St.lay,BJ,lay_σ st ws,laid,lk]
  split <;> rfl
theorem put_σ (st:St)(dst:Option Tmp)(d:D):(st.put dst d).σ=st.σ:=by cases dst <;> rfl
def kT (ops:Array Oper)(F:Nat→D)(o:Oper):Option Bool:=
 match o.guard with
 |none=>some true
 |some (j,want)=>match (ops[j]?).bind (·.dst) with
  |some t=>match F t with
   | .bool b=>some (b == want)
   | .aQ _=>some false
   | _=>none
  |none=>some false
structure bJ where
 ran:Bool
 d:D
 r:Rec
inductive Chain (P:dF) (ops:Array Oper):List Oper→St→List bJ→St→Prop
 |nil (st:St):Chain P ops [] st [] st
 | ran {o:Oper} {os:List Oper} {st st':St} {d:D} {r:Rec} {rs:List bJ} (hw:kT ops st.get o=some true) (ho:CW P o (bT st.get) (lk st.σ) d r)
   (h:Chain P ops os ((st.put o.dst d).lay r.ws) rs st'):Chain P ops (o::os) st (⟨true,d,r⟩::rs) st'
 | skip {o:Oper} {os:List Oper} {st st':St} {rs:List bJ} (hw:kT ops st.get o=some false) (h:Chain P ops os (st.put o.dst (.aQ [])) rs st'):
   Chain P ops (o::os) st (⟨false,.aQ [],⟨[],[]⟩⟩::rs) st'
section
variable {P:dF} {E:BI P} {ent:List Nat} {N:Nat} {F:Nat→D} {σ:Nat→Option bf} {a:Act} {w:World}
theorem qV (h:Rel E ent N F σ a w){ops:Array Oper}{o:Oper}{b:Bool}(hw:kT ops F o=some b):Region.wanted o (yielded ops a.tmps)=b:=by
 obtain⟨γ,h1,h2,h3,h4,h5,h6⟩:=h
 unfold kT at hw
 unfold Region.wanted
 split at hw
 ·rename_i hg;simp only[abr] at hw;subst hw;simp[hg]
 ·rename_i j want hg
  simp only[hg]
  split at hw
  ·rename_i t ht
   split at hw
   ·rename_i v hv
    simp only[abr] at hw
    subst hw
    have hr:=h6 t
    rw[hv] at hr
    have e:=pI hr
    rw[ag_] at e
    have:a.tmps[t]?=some (.bool v):=by
     cases hq:a.tmps[t]? with
     |none=>rw[hq] at e;simp[undef] at e
     |some u=>rw[hq] at e;simp at e;rw[e]
    simp only[yielded,ht,adf,this]
    cases v <;> cases want <;> rfl
   ·rename_i vs hv
    simp only[abr] at hw
    subst hw
    have hr:=h6 t
    rw[hv] at hr
    have:∀b,a.tmps[t]?≠some (.bool b):=by
     intro b hq
     rw[ag_,hq] at hr
     cases hr
    simp only[yielded,ht,adf]
    cases hq:a.tmps[t]? with
    |none=>rfl
    |some u=>cases u <;> first|rfl|exact absurd hq (this _)
   ·cases hw
  ·rename_i ht
   simp only[abr] at hw
   subst hw
   simp[yielded,ht]
def dD (N:Nat)(ops:Array Oper):Bool:=ops.all fun o=>match o.dst with|some t=>decide (t<N)|none=>true
theorem dM {ops:Array Oper}(h:dD N ops=true){o:Oper}(ho:o∈ops):∀t,o.dst=some t→t<N:=by
 intro t ht
 have:=(Array.all_eq_true'.1 h) o ho
 simpa [ht] using this
theorem Chain.wpOps {Fe:Fence}(hF:nP Fe){nf:Nat}{ops:Array Oper}(hd:dD N ops=true)(Q:Exit→Act→World→Prop):∀{os:List Oper} {st st':St} {rs:List bJ},Chain P ops os st rs st'→∀(k:Nat),ops.toList.drop k=os→
  ∀(a:Act) (w:World),Rel E ent N st.get (lk st.σ) a w→(∀a' w',Rel E ent N st'.get (lk st'.σ) a' w'→Q .normal a' w')→wpOpsIn Fe nf P.prog ops Q (List.range' k os.length) a w:=by
 intro os st st' rs h
 induction h with
 |nil st=>intro k hk a w hr hq;exact hq a w hr
 | @ran o os st st' d r rs hw ho hc ih=>
  intro k hk a w hr hq
  have hko:ops[k]?=some o:=by
   have:(ops.toList.drop k)[0]?=some o:=by rw[hk];rfl
   simpa [ahz] using this
  have hmem:o∈ops:=ajY hko
  simp only[abN,al8,Go.wpOpsIn,hko,qV hr hw,if_true]
  refine ho.wp hF hr (dM hd hmem) _ _ (fun v w' hr'=>ih (k+1) ?_ _ w' ?_ hq)
  ·have:ops.toList.drop (k+1)=(ops.toList.drop k).drop 1:=by rw[alv]
   rw[this,hk];rfl
  ·rw[oZ,get_put,lay_σ,put_σ];exact hr'
 | @skip o os st st' rs hw hc ih=>
  intro k hk a w hr hq
  have hko:ops[k]?=some o:=by
   have:(ops.toList.drop k)[0]?=some o:=by rw[hk];rfl
   simpa [ahz] using this
  have hmem:o∈ops:=ajY hko
  simp only[abN,al8,Go.wpOpsIn,hko,qV hr hw,ag8,if_false]
  refine⟨fun f _=>hF.fn f,ih (k+1) ?_ _ _ ?_ hq⟩
  ·have:ops.toList.drop (k+1)=(ops.toList.drop k).drop 1:=by rw[alv]
   rw[this,hk];rfl
  ·rw[get_put,put_σ];exact hr.skip (dM hd hmem)
theorem JB {Fe:Fence}(hF:nP Fe){nf:Nat}{id:Nat}{ops:Array Oper}(hd:dD N ops=true){Q:Exit→Act→World→Prop}{st st':St}{rs:List bJ}(h:Chain P ops ops.toList st rs st')(hr:Rel E ent N st.get (lk st.σ) a w)
  (hq:∀a' w',Rel E ent N st'.get (lk st'.σ) a' w'→Q .normal a' w'):(Code.region id ops false).wpIn Fe nf P.prog Q a w:=by
 refine wpIn_region ?_
 have:=h.wpOps hF (nf:=nf) hd Q 0 rfl a w hr hq
 simpa [apD] using this
end
def jm (L:Nat→Bool):Nat→List (Oper × bJ)→(Nat→D)→Nat→D
 | _,[],F=>F
 |i,(o,r)::l,F=>jm L (i+1) l (if L i=true then oh F o.dst r.d else F)
def foldσ (L:Nat→Bool):Nat→List (Oper × bJ)→(Nat→Option bf)→Nat→Option bf
 | _,[],σ=>σ
 |i,(o,r)::l,σ=>foldσ L (i+1) l (if L i=true then laid σ r.r.ws else σ)
theorem mX {L L':Nat→Bool}{t:Nat}:∀(l:List (Oper × bJ)) (k:Nat) (F F':Nat→D),(∀i o r,l[i]?=some (o,r)→o.dst=some t→L (k+i)=L' (k+i))→F t=F' t→jm L k l F t=jm L' k l F' t
 | [],_,_,_,_,h=>h
 |(o,r)::l,k,F,F',hl,h=>by
  simp only[jm]
  refine mX l (k+1) _ _ (fun i o' r' hi ho=>?_) ?_
  ·have:=hl (i+1) o' r' (by simpa using hi) ho
   rw[show k+1+i=k+(i+1) from by omega];exact this
  ·by_cases e:o.dst=some t
   ·have:=hl 0 o r rfl e
    simp only[amQ] at this
    rw[this]
    split
    ·simp[oh,e,upd]
    ·exact h
   ·have key:∀F:Nat→D,oh F o.dst r.d t=F t:=by
     intro F
     cases hd:o.dst with
     |none=>rfl
     |some t'=>simp only[oh,upd];rw[if_neg (fun q=>e (by rw[hd,q]))]
    split <;> split <;> simp[key,h]
theorem foldσ_agree {L L':Nat→Bool}{b:Nat}:∀(l:List (Oper × bJ)) (k:Nat) (σ σ':Nat→Option bf),(∀i o r,l[i]?=some (o,r)→(lk r.r.ws b).isSome=true→L (k+i)=L' (k+i))→σ b=σ' b→foldσ L k l σ b=foldσ L' k l σ' b
 | [],_,_,_,_,h=>h
 |(o,r)::l,k,σ,σ',hl,h=>by
  simp only[foldσ]
  refine foldσ_agree l (k+1) _ _ (fun i o' r' hi ho=>?_) ?_
  ·have:=hl (i+1) o' r' (by simpa using hi) ho
   rw[show k+1+i=k+(i+1) from by omega];exact this
  ·cases e:lk r.r.ws b with
   |some blk=>
    have:=hl 0 o r rfl (by simp[e])
    simp only[amQ] at this
    rw[this]
    split
    ·simp[laid,e]
    ·exact h
   |none=>
    have key:∀ σ:Nat→Option bf,laid σ r.r.ws b=σ b:=by intro σ;simp[laid,e]
    split <;> split <;> simp[key,h]
theorem oK {L:Nat→Bool}:∀(l:List (Oper × bJ)) (k:Nat) (F:Nat→D),(∀i,k≤i→L i=false)→jm L k l F=F
 | [],_,_,_=>rfl
 |(o,r)::l,k,F,h=>by simp only[jm,h k (ag4 _)];exact oK l (k+1) F (fun i hi=>h i (by omega))
theorem foldσ_none {L:Nat→Bool}:∀(l:List (Oper × bJ)) (k:Nat) (σ:Nat→Option bf),(∀i,k≤i→L i=false)→foldσ L k l σ=σ
 | [],_,_,_=>rfl
 |(o,r)::l,k,F,h=>by simp only[foldσ,h k (ag4 _)];exact foldσ_none l (k+1) F (fun i hi=>h i (by omega))
def adD (P:dF)(ops:Array Oper)(F:Nat→D)(σ:Nat→Option bf)(o:Oper)(r:bJ):Prop:=
 (kT ops F o=some true∧CW P o (bT F) σ r.d r.r)∨(kT ops F o=some false∧r.d= .aQ []∧r.r=⟨[],[]⟩)
theorem U3 (σ:Nat→Option bf):laid σ []=σ:=rfl
theorem Chain.steps {P:dF}{ops:Array Oper}{os:List Oper}{st st':St}{rs:List bJ}(h:Chain P ops os st rs st'):
  rs.length=os.length∧(∀k L,(∀i,k≤i→L i=true)→jm L k (os.zip rs) st.get=st'.get∧foldσ L k (os.zip rs) (lk st.σ)=lk st'.σ)∧
  ∀(k j:Nat) o r,(os.zip rs)[j]?=some (o,r)→adD P ops (jm (fun i=>decide (i<k+j)) k (os.zip rs) st.get) (foldσ (fun i=>decide (i<k+j)) k (os.zip rs) (lk st.σ)) o r:=by
 induction h with
 |nil st=>exact⟨rfl,fun k L _=>⟨rfl,rfl⟩,by simp⟩
 | @ran o os st st' d r rs hw ho hc ih=>
  obtain⟨h1,h2,h3⟩:=ih
  refine⟨by simp[h1],fun k L hL=>?_,fun k j o' r' hj=>?_⟩
  ·have:=h2 (k+1) L (fun i hi=>hL i (by omega))
   rw[oZ,get_put,lay_σ,put_σ] at this
   simpa [jm,foldσ,hL k (ag4 _)] using this
  ·cases j with
   |zero=>
    simp only[List.zip_cons_cons,alB,abr,apM] at hj
    obtain⟨rfl,rfl⟩:=hj
    rw[oK _ _ _ (fun i hi=>by simp;omega),foldσ_none _ _ _ (fun i hi=>by simp;omega)]
    exact .inl ⟨hw,ho⟩
   |succ j=>
    have:=h3 (k+1) j o' r' (by simpa using hj)
    rw[oZ,get_put,lay_σ,put_σ] at this
    simp only[List.zip_cons_cons,jm,foldσ]
    rw[if_pos (by simp),if_pos (by simp)]
    rw[show k+(j+1)=k+1+j from by omega]
    exact this
 | @skip o os st st' rs hw hc ih=>
  obtain⟨h1,h2,h3⟩:=ih
  refine⟨by simp[h1],fun k L hL=>?_,fun k j o' r' hj=>?_⟩
  ·have:=h2 (k+1) L (fun i hi=>hL i (by omega))
   rw[get_put,put_σ] at this
   simpa [jm,foldσ,hL k (ag4 _),U3] using this
  ·cases j with
   |zero=>
    simp only[List.zip_cons_cons,alB,abr,apM] at hj
    obtain⟨rfl,rfl⟩:=hj
    rw[oK _ _ _ (fun i hi=>by simp;omega),foldσ_none _ _ _ (fun i hi=>by simp;omega)]
    exact .inr ⟨hw,rfl,rfl⟩
   |succ j=>
    have:=h3 (k+1) j o' r' (by simpa using hj)
    rw[get_put,put_σ] at this
    simp only[List.zip_cons_cons,jm,foldσ]
    rw[if_pos (by simp),if_pos (by simp)]
    rw[show k+(j+1)=k+1+j from by omega]
    exact this
def rJ (ops:Array Oper)(o:Oper):List Tmp:=
 (match o.guard with|some (j,_)=>((ops[j]?).bind (·.dst)).toList|none=>[])++o.op.operands.toList.filterMap fun | .tmp t=>some t | _=>none
def xW (ops:Array Oper)(oi:Oper)(ri:bJ)(oj:Oper)(rj:bJ):Bool:=
 (match oi.dst with|some t=>!(rJ ops oj).contains t && !(match oj.dst with|some t'=>t' == t|none=>false)|none=>true) &&
 (match oj.dst with|some t=>!(rJ ops oi).contains t|none=>true) &&
 ri.r.ws.all (fun p=>!rj.r.BH.contains p.1 && !(rj.r.ws.any fun q=>q.1 == p.1)) && rj.r.ws.all (fun p=>!ri.r.BH.contains p.1)
def nR (ops:Array Oper)(rs:List bJ):Bool:=
 let A:=Region.before ops
 (ops.toList.zipIdx.all fun (o,j)=>o.after.all fun e=>!Region.binds .any e || decide (e.on<j)) &&
 (ops.toList.zipIdx.all fun (o,j)=>(List.range j).all fun i=>!(A.getD j 0).testBit i || o.after.any fun e=>Region.binds .any e && (e.on == i || (decide (i<e.on) && (A.getD e.on 0).testBit i))) &&
 ((ops.toList.zip rs).zipIdx.all fun (q,j)=>((ops.toList.zip rs).take j).zipIdx.all fun (p,i)=>(A.getD j 0).testBit i || xW ops p.1 p.2 q.1 q.2)
theorem X0 {α:Type}(l:List (Nat × α))(b:Nat):(lk l b).isSome=l.any fun q=>q.1 == b:=by
 induction l with
 |nil=>rfl
 |cons p l ih=>
  obtain⟨k,v⟩:=p
  simp only[lk,apn]
  by_cases e:b=k
  ·subst e;simp
  ·have:(k == b)=false:=by simp;exact fun h=>e h.symm
   rw[if_neg e,ih,this,Bool.false_or]
end Go.Id
