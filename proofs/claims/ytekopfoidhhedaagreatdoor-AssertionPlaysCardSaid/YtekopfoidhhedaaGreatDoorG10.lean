import Derived.Test.YtekopfoidhhedaaGreatDoorG09
import Derived.RecoverIn
import Derived.Test.YtekopfoidhhedaaGreatDoorG08
set_option linter.unusedVariables false
set_option linter.unusedSimpArgs false
set_option linter.unnecessarySimpa false
namespace Go.Id
open Go
theorem Rel.junk {P:dF}{E:BI P}{ent:List Nat}{N:Nat}{st:St}{a:Act}{w:World}(h:Rel E ent N st.get (lk st.σ) a w){t:Nat}(ht:t<N)(v:Value){d:D}(hv:∀(M:Nat→Nat→Prop) (γ:Nat→Option G),Rep M γ w d v):
  Rel E ent N (st.put (some t) d).get (lk (st.put (some t) d).σ) (a.put (some t) v) w:=by
 obtain⟨γ,h1,h2,h3,h4,h5,h6⟩:=h
 rw[get_put,put_σ]
 exact⟨γ,h1,h2,h3,by rw[iE];exact h4,by rw[put_defers];exact h5,kZ (by rw[h4];intro t' e;cases e;exact ht) (hv _ _) h6⟩
section
variable {P:dF} {ent:List Nat} {N:Nat} {Q:Exit→St→Prop} {st:St}
theorem WP.akM {id:Nat}{ops:Array Oper}{t src dst e:TypeId}{tx t1 t2:Tmp}{o1 o2:Oper}{os:List Oper}{n b by':Nat}{T:TypeId}{s:List UInt8}(hd:dD N ops=true)(hos:ops.toList=o1::o2::os)
  (g1:o1.guard=none) (g2:o2.guard=none) (p1:o1.op= .slice t (.tmp tx) none none none) (p2:o2.op= .convert src dst (.tmp t1)) (d1:o1.dst=some t1) (d2:o2.dst=some t2)
  (ha:OJ P.prog t=some (n,1)) (hs:isStr P.prog dst=true) (he:cu P.prog src=some (e,1,by')) (hk:kS P.prog e=some .u8) (hx:st.get tx= .ref b 0) (hb:lk st.σ b=some (.box T (s.map fun c=> .int .u8 c.toNat))) (hn:s.length=n)
  (h:∀K:St→List bJ→Prop,(∀st' rs,Q .normal st'→K st' rs)→ah P ops os ((st.put (some t1) .junk).put (some t2) (.str s)) [] K):WP P ent N (.region id ops false) Q st:=by
 intro Fe nf hF E a w hr
 have hsz:ops.size=2+os.length:=by rw[← alx,hos];simp;omega
 have k0:ops[0]?=some o1:=by
  have:ops.toList[0]?=some o1:=by rw[hos];rfl
  simpa using this
 have k1:ops[1]?=some o2:=by
  have:ops.toList[1]?=some o2:=by rw[hos];rfl
  simpa using this
 have l1:=dM hd (ajY k0) t1 d1
 have l2:=dM hd (ajY k1) t2 d2
 refine wpIn_region ?_
 rw[hsz,apD,show 2+os.length=os.length+1+1 by omega,al8,al8]
 have hr0:=hr
 obtain⟨γ,h1,h2,h3,h4,h5,h6⟩:=hr0
 obtain⟨g,q1,q2⟩:=h2.hit hb
 cases q2 with
 | @box _ B vs _ fz hB hl hc hrr=>
 have hxv:=h6 tx
 rw[hx] at hxv
 have hav:a.tmps.getD tx undef= .pointer (some ⟨B,0,none⟩):=by
  generalize a.tmps.getD tx undef=v at hxv
  cases hxv with
  |ref hb'=>
   rcases hb' with hb' | ⟨c,z,hb'⟩|hb' <;> rw[q1] at hb' <;> cases hb'
   rfl
 obtain⟨el,ti,u1,u2,u3⟩:=Fa ha
 have hsize:(sizeOf el).run P.prog w= .ok 1 w:=by simp[sizeOf,typeInfo,u2,u3]
 have hlen:vs.size=n:=by rw[hl,ac',hn]
 refine pR k0 g1 ⟨fun f _=>hF.1.fn f,?_⟩
 rw[Oper.semAt_plain Fe _ _ (by rw[p1];intro c hc;cases hc)]
 have hrun1:(execOp a.eval o1).run P.prog w= .ok (.value (.slice (some ⟨B,0,none⟩) n n)) w:=by
  have hbn:=iW (P:=P.prog) (w:=w) false n n none none 0 n (.inl ⟨rfl,rfl⟩) (.inl ⟨rfl,rfl⟩) (ada _) (ag4 _)
  simp only[execOp,p1,Act.eval,hav,Instr.sliceAt,Instr.sureAddr,Sem.run_bind,run_underlying u1,Result.andThen_ok,Sem.run_pure,akn,hbn,hsize]
  simp[Addr.add_lit]
 rw[hrun1]
 show wpOpsIn _ _ _ _ _ _ _ _
 rw[d1]
 have hr1:=hr.junk l1 (.slice (some ⟨B,0,none⟩) n n) (d:= .junk) (fun _ _=> .junk _)
 have he1:(a.put (some t1) (.slice (some ⟨B,0,none⟩) n n)).eval (.tmp t1)= .slice (some ⟨B,0,none⟩) n n:=by
  show (a.put (some t1) _).tmps.getD t1 undef=_
  rw[wE (by rw[h4];intro t' e;cases e;exact l1),if_pos rfl]
 have hsl:Rep (fun _ _=>False) γ w (.slice 1 false (fK s) none) (.slice (some ⟨B,0,none⟩) (fK s).length n):=by
  refine .slice vs.toList (by simp[fK]) (by simp[fK,hlen,hn]) (fun _=>rfl) (fun j v hv=>⟨?_,fun h=>h,?_⟩) (fun i j e d v he hdd hv=>?_) (by simp[fK,hn]) (fun t e=>by cases e)
  ·have hv':vs[j]?=some v:=by simpa using hv
   simp[World.cell?,hB,hv']
  ·have hv':vs[j]?=some v:=by simpa using hv
   exact (hc j v hv').1
  ·simp only[fK,adw] at he
   obtain⟨c,hcc,rfl⟩:=abR.1 he
   match j with
   | 0=>
    simp at hdd;subst hdd
    have hv':vs[i]?=some v:=by simpa using hv
    have:=hrr i (.int .u8 c.toNat) v (by simp[adw,hcc]) hv'
    rw[int_inj this]
    exact .int _ _
   |j+1=>simp at hdd
 have hcv:Kr P.prog src dst (.slice 1 false (fK s) none)=some (.str s):=by
  unfold Kr
  simp[hs,he,hk,tC]
 obtain⟨r,hrn,akN⟩:=Fb hcv hsl
 have hlu:(fK s).length=n:=by simp[fK,hn]
 rw[hlu] at hrn
 refine pR k1 g2 ⟨fun f _=>hF.1.fn f,?_⟩
 rw[Oper.semAt_plain Fe _ _ (by rw[p2];intro c hc;cases hc)]
 have hrun2:(execOp (a.put (some t1) (.slice (some ⟨B,0,none⟩) n n)).eval o2).run P.prog w= .ok (.value r) w:=by
  simp only[execOp,p2,he1,Sem.run_bind,hrn,Result.andThen_ok,Sem.run_pure]
 rw[hrun2]
 show wpOpsIn _ _ _ _ _ _ _ _
 rw[d2]
 have hr2:=hr1.junk l2 r (d:= .str s) (fun M γ'=>by
  obtain⟨b',e1,e2⟩:=str_inj akN
  rw[e1,← e2]
  exact .str _)
 refine KJ hF.1 hd 2 os (by rw[hos];rfl) (Q:=fun st'=>Q .normal st') h hr2 (fun st' a' w' hq hr' _=>⟨st',hq,hr'⟩)
end
end Go.Id
namespace Go.Id
open Go
theorem jq.imp {P:dF}{x:Value}{fo:D}{args:List D}{st:St}{K:List (Nat × bf)→Prop}{k:FuncId}{first cap as:List D}{ins outs:List (Nat × bf)}(h:gU P (some x) k as ins .junk outs)(hfo:fo= .fn (.func k) first cap)(has:as=(first++args++cap).map fg)
  (hin:∀p∈ins,lk st.σ p.1=some p.2∧aB (fun i=>(lk ins i).isSome=true) p.2) (hout:∀p∈outs,(lk ins p.1).isSome=true∨lk st.σ p.1=none)
  (hcl:∀d∈as,bY (fun i=>(lk ins i).isSome=true) d) (hk:K outs):jq P x fo args st K:=by
 refine⟨k,first,cap,ins,outs,hfo,by rw[← has];exact h,?_,?_,by rw[← has];exact hcl,hk⟩
 ·intro b blk hb
  exact hin (b,blk) (tJ hb)
 ·intro b hb
  obtain⟨x,hx⟩:=akj.1 hb
  exact hout (b,x) (tJ hx)
theorem lQ.panic {P:dF}{fn:Func}{ins outs:List (Nat × bf)}{x:Option Value}{y:Value}{val:D}{st:St}(hx:x=some y)(hv:val= .junk)(hout:∀p∈outs,lk st.σ p.1=some p.2∧aB (fun i=>(lk outs i).isSome=true) p.2)(hin:∀p∈ins,(lk outs p.1).isSome=true):
  lQ P fn ins x val outs (.panic [{ v:=y,recovered:=false }]) st:=by
 subst hx;exact⟨rfl,hv,hout,hin⟩
theorem lQ.ret {P:dF}{fn:Func}{ins outs:List (Nat × bf)}{x:Option Value}{val:D}{e:Exit}{st:St}(hx:x=none)(h:Ends P fn ins val outs e st):lQ P fn ins x val outs e st:=by
 subst hx;exact h
theorem gU.SX {P:dF}{x:Option Value}{k:FuncId}{args:List D}{ins:List (Nat × bf)}{val:D}{b:Nat}{T:TypeId}{cs cs':List D}(h:gU P x k args ins val [(b,.box T cs)])(hle:Les cs cs'):gU P x k args ins val [(b,.box T cs')]:=by
 refine⟨h.1,fun M γ w vs hst hl hr=>(h.2 M γ w vs hst hl hr).mono ?_⟩
 rintro e w' ⟨v,γ',he,hst',hev,hv⟩
 refine⟨v,γ',he,⟨fun i=>?_,hst'.dist,hst'.outer,hst'.apart,hst'.inv,hst'.low,hst'.big⟩,hev,hv⟩
 rcases hst'.names i with⟨blk,g,q1,q2,q3⟩ | ⟨q1,q2⟩
 ·simp only[lk] at q1
  split at q1
  ·rename_i e;subst e
   cases q1
   refine .inl ⟨.box T cs',g,by simp[lk],q2,?_⟩
   cases q3 with
   | @box _ B us _ fz hB hl h1 hrr=>
    obtain⟨l1,l2⟩:=hle.at
    refine .box us T fz hB (hl.trans l1) h1 (fun j d u hd hu=>?_)
    have hj:j<cs.length:=by rw[l1];exact (acR.1 hd).1
    exact l2 j _ _ (abt hj) hd _ _ _ _ (hrr j _ u (abt hj) hu)
  ·cases q1
 ·refine .inr ⟨?_,q2⟩
  simp only[lk] at q1 ⊢
  split at q1
  ·cases q1
  ·rename_i hne;rw[if_neg hne]
theorem Weak.akO {ent:List Nat}{st:St}(b:Nat)(e:TypeId)(cs cs':List D)(hb:lk st.σ b=some (.box e cs))(h:Les cs cs'):Weak ent st ⟨st.F,(b,.box e cs')::dl st.σ b⟩:=
 Weak.blk b (.box e cs) (.box e cs') hb (by simp[lk]) (fun i hi=>by simp[lk,PS,hi]) fun M γ w g hg=>by
  obtain⟨l1,l2⟩:=h.at
  cases hg with
  | @box _ B us _ fz hB hl h1 hrr=>
   refine .box us e fz hB (hl.trans l1) h1 (fun j d u hd hu=>?_)
   have hj:j<cs.length:=by rw[l1];exact (acR.1 hd).1
   exact l2 j _ _ (abt hj) hd _ _ _ _ (hrr j _ u (abt hj) hu)
end Go.Id
namespace Go.Id
open Go
section
variable {P:dF} {ent:List Nat} {N:Nat} {E:BI P}
end
inductive Recovers:FrameMode→Value→FrameMode→Prop
 |no:Recovers .returning .nilIface .returning
 |yes (y:Value):Recovers (.panicking [{ v:=y,recovered:=false }]) y (.panicking [{ v:=y,recovered:=true }])
theorem OW {P:dF}{g:FuncId}{UL:Func}{N2 r0 n:Nat}{X9:Array Oper}{o1 o2:Oper}{ta tb:Tmp}{gc:Code}(hf:P.prog.funcs[g]?=some UL)(hb:UL.body=some (.seq (.region r0 X9 false) gc))(hN:UL.ntmps=N2)(hres:UL.results=#[])
  (hops:X9=#[o1,o2]) (g1:o1.guard=none) (g2:o2.guard=none) (d1:o1.dst=some ta) (d2:o2.dst=some tb) (p2:o2.op= .assign (.tmp ta))
  {c1:Call} (p1:o1.op= .call c1) (pc:c1.callee= .builtin .recover) (pa:c1.args=#[])
  {u u':FrameMode} {x:D} {xv:Value} (hrec:Recovers u xv u') (hx:∀(M:Nat→Nat→Prop) (γ:Nat→Option G) (w:World),Rep M γ w x xv)
  {m:Nat→Nat→Prop} {γ:Nat→Option G} {σl:List (Nat × bf)} {w:World} (hst:Store (P.base m) γ (lk σl) w) {cs:List D} {vs:Array Value} (hlen:vs.size=cs.length) (ha:cs.length≤ta) (hNl:cs.length≤N2) (ha2:ta<N2) (hb2:tb<N2) (hab:ta≠tb)
  (hr:∀(i:Nat) d v,cs[i]?=some d→vs[i]?=some v→Rep (aA (P.base m) γ) γ w d v) {Q:List (Nat × bf)→Prop}
  (hwp:WP P (MS::σl.map (·.1)) N2 gc (fun e st'=>(e= .normal∨e= .ret)∧Q st'.σ) ⟨(tb,x)::aT 0 cs,σl⟩)
  {R:Ending→FrameMode→World→Prop} (hR:∀w' γ' σ',Store (P.base m) γ' (lk σ') w'→aW (aA (P.base m) γ) γ w (aA (P.base m) γ') γ' w'→Q σ'→∀v,R (.returned v) u' w'):
  CallsDIn Fence.wide n P.prog g vs u w R:=by
 subst hops
 refine callsDIn_of_wpSIn hf hb trivial fun c₀ fs hu=>?_
 refine wpSIn_seq (wpSIn_region ?_)
 have apc:List.range (#[o1,o2]:Array Oper).size=[0,1]:=rfl
 rw[apc]
 have amH:∀(a:Act) (w:World),(execOp a.eval o1).run P.prog w= .ok .recover w:=by
  intro a w
  obtain⟨cal,ars,tys⟩:=c1
  simp only at pc pa
  subst pc;subst pa
  simp only[execOp,p1,resolve,invoke,Sem.run_bind,Sem.run_pure,Result.andThen_ok]
  rfl
 have amI:∀(a:Act) (w:World),(execOp a.eval o2).run P.prog w= .ok (.value (a.eval (.tmp ta))) w:=by
  intro a w
  simp only[execOp,p2,Sem.run_pure]
 let a0:Act:={ tmps:=vs++Array.replicate (UL.ntmps - vs.size) undef,defers:=[] }
 have hsz0:a0.tmps.size=N2:=by simp[a0,hN];omega
 let a1:=a0.put (some ta) xv
 let a2:=a1.put (some tb) xv
 have hev:a1.eval (.tmp ta)=xv:=by
  show (a0.put (some ta) xv).tmps.getD ta undef=_
  rw[wE (by intro t e;cases e;rw[hsz0];exact ha2),if_pos rfl]
 have hrel:Rel (⟨m,γ,w,0,ada _,[]⟩:BI P) (MS::σl.map (·.1)) N2 (St.get ⟨(tb,x)::aT 0 cs,σl⟩) (lk σl) a2 w:=by
  refine⟨γ,fun b g' hg=>?_,hst,aW.refl _ _ _,by rw[iE,iE];exact hsz0,Marks.nil _ _ _ _,fun t=>?_⟩
  ·rcases hst.names b with⟨blk,g'',q1,_⟩ | ⟨_,q1⟩
   ·exact ahA _ (List.mem_map.2 ⟨(b,blk),iZ _ _ _ q1,rfl⟩)
   ·have hg':γ b=some g':=hg
    rw[hg'] at q1;cases q1
  ·rw[wE (by intro t' e;cases e;rw[iE,hsz0];exact hb2)]
   by_cases htb:tb=t
   ·subst htb
    rw[if_pos rfl]
    simp only[St.get,lk,if_true,alb]
    exact hx _ _ _
   ·rw[if_neg (by simpa using htb),wE (by intro t' e;cases e;rw[hsz0];exact ha2)]
    have hget:St.get ⟨(tb,x)::aT 0 cs,σl⟩ t=(cs[t]?).getD .junk:=by
     simp only[St.get,lk,wG,ada,if_true,Nat.sub_zero]
     rw[if_neg (fun e=>htb e.symm)]
    rw[hget]
    by_cases hta:ta=t
    ·subst hta
     rw[al_ (by omega)]
     exact .junk _
    ·rw[if_neg (by simpa using hta)]
     by_cases ht:t<cs.length
     ·have h1:a0.tmps.getD t undef=vs[t]'(by omega):=by
       simp only[a0,ag_]
       rw[Array.getElem?_append_left (by omega),adr (by omega)]
       rfl
      rw[h1,abt ht]
      exact hr t _ _ (abt ht) (adr (by omega))
     ·rw[al_ (by omega)]
      exact .junk _
 have amJ:∀fs',fs'={ c₀ with mode:=u' }::fs→Exit.thenS (gc.wpSIn Fence.wide n P.prog (bodyPostS P.prog UL c₀ fs R)) (bodyPostS P.prog UL c₀ fs R) .normal a2 fs' w:=by
  rintro fs' rfl
  show gc.wpSIn Fence.wide n P.prog (bodyPostS P.prog UL c₀ fs R) a2 _ w
  refine wpSIn_of_wpIn rfl (wpIn_mono (hwp Fence.wide n (.wide _) _ _ _ hrel) ?_)
  rintro e a' w' ⟨st',⟨he,hq⟩,γ',h1,h2,h3,h4,h5,h6⟩
  have ahq:(results UL a'.tmps).run P.prog w'= .ok (.tuple #[]) w':=by
   unfold results
   rw[hres]
   simp
  have hnil:a'.defers=[]:=by
   obtain⟨Ds,⟨k1,k2⟩,_⟩:=h5
   rw[k1,k2 (by simp)];rfl
  have hfin:bodyPostS P.prog UL c₀ fs R .normal a' ({ c₀ with mode:=u' }::fs) w':=
   ⟨hnil,u',rfl,_,ahq,hR w' γ' st'.σ h2 h3 hq _⟩
  rcases he with rfl|rfl <;> exact hfin
 have hop1:∀(a:Act) (w:World),o1.about P.prog w a.eval=none∨∀f:FuncId,Fence.wide.fn f:=fun _ _=> .inr fun _=>trivial
 unfold wpOpsSIn
 rw[show (#[o1,o2]:Array Oper)[0]?=some o1 from rfl]
 dsimp only
 refine⟨fun f _=>trivial,?_⟩
 rw[if_pos (by simp[Region.wanted,g1]),amH]
 dsimp only
 have tail:∀fs',fs'={ c₀ with mode:=u' }::fs→wpOpsSIn Fence.wide n P.prog #[o1,o2] (Exit.thenS (gc.wpSIn Fence.wide n P.prog (bodyPostS P.prog UL c₀ fs R)) (bodyPostS P.prog UL c₀ fs R)) [1] (a0.put o1.dst xv) fs' w:=by
  intro fs' hfs
  unfold wpOpsSIn
  rw[show (#[o1,o2]:Array Oper)[1]?=some o2 from rfl]
  dsimp only
  refine⟨fun f _=>trivial,?_⟩
  rw[if_pos (by simp[Region.wanted,g2]),amI]
  dsimp only
  rw[d1,d2,hev]
  exact amJ fs' hfs
 cases hrec with
 |no=>
  have:recoverD (c₀::fs)=none:=by simp[recoverD,hu]
  rw[this]
  exact tail _ (by rw[← hu])
 |yes y=>
  have:recoverD (c₀::fs)=some (xv,{ c₀ with mode:= .panicking [{ v:=xv,recovered:=true }] }::fs):=by simp[recoverD,hu]
  rw[this]
  exact tail _ rfl
structure amK (P:dF) (fn:Func) (N2:Nat) (tb:Tmp) (gc:Code) (cs:List D) (val:D) (e:Exit) (st:St) (u u':FrameMode) (x:D) (xv:Value):Prop where
 rcv:Recovers u xv u'
 how:((e= .normal∨e= .ret)∧u= .returning)∨(e= .panic [{ v:=xv,recovered:=false }]∧u= .panicking [{ v:=xv,recovered:=false }])
 rep:∀(M:Nat→Nat→Prop) (γ:Nat→Option G) (w:World),Rep M γ w x xv
 wp:WP P (MS::st.σ.map (·.1)) N2 gc (fun e st'=>(e= .normal∨e= .ret)∧∃d,resD P.prog fn ⟨st.F,st'.σ⟩=some d∧Le d val) ⟨(tb,x)::aT 0 cs,st.σ⟩
theorem abp {P:dF}{fn:Func}{args:List D}{ent:List Nat}{N:Nat}{m:Nat→Nat→Prop}{γ:Nat→Option G}{w:World}{vs:List Value}(hN:fn.ntmps=N)(hle:args.length≤N)(hst:Store (P.base m) γ (lk []) w)(hl:vs.length=args.length)
  (hr:∀(i:Nat) d v,args[i]?=some d→vs[i]?=some v→Rep (aA (P.base m) γ) γ w d v):
  Rel (⟨m,γ,w,max w.heap.size P.n,ag4 _,[]⟩:BI P) ent N (St.get ⟨aT 0 args,[]⟩) (lk []) { tmps:=vs.toArray++Array.replicate (fn.ntmps - vs.toArray.size) undef,defers:=[] } w:=by
 refine⟨γ,fun b g hg=>?_,hst,aW.refl _ _ _,?_,Marks.nil _ _ _ _,fun t=>?_⟩
 ·rcases hst.names b with⟨blk,g',q1,_⟩ | ⟨_,q1⟩
  ·cases q1
  ·have hg':γ b=some g:=hg
   rw[hg'] at q1;cases q1
 ·simp[hl];omega
 ·simp only[St.get,wG,ada,if_true,Nat.sub_zero]
  rw[ag_]
  by_cases ht:t<vs.length
  ·have h1:(vs.toArray++Array.replicate (fn.ntmps - vs.toArray.size) undef)[t]?=vs[t]?:=by
    rw[Array.getElem?_append_left (by simpa using ht)];simp
   have h2:t<args.length:=by omega
   rw[h1,abt ht,abt h2]
   exact hr t _ _ (abt h2) (abt ht)
  ·rw[al_ (by omega:args.length≤t)]
   exact .junk _
theorem ay.adM {P:dF}{k:FuncId}{fn:Func}{c0 c1 rest:Code}{r3:Nat}{q1 q2:Oper}{t9:Tmp}{caps:Array Operand}{args:List D}{val:D}{N:Nat}
  {g:FuncId} {UL:Func} {N2 r0:Nat} {X9:Array Oper} {o1 o2:Oper} {ta tb:Tmp} {gc:Code} {ZJ Va:Call}
  (hf:P.prog.funcs[k]?=some fn) (hb:fn.body=some (.seq c0 (.seq c1 (.seq (.region r3 #[q1,q2] false) rest)))) (hn:(fn.name == "runtime.NumGoroutine")=false) (hN:fn.ntmps=N) (hle:args.length≤N)
  (e1:q1.op= .makeFunc (.func g) #[] caps) (e2:q2.op= .defer Va) (ec:Va.callee= .value (.tmp t9)) (ea:Va.args=#[]) (eg1:q1.guard=none) (eg2:q2.guard=none) (ed1:q1.dst=some t9) (ed2:q2.dst=none) (h9:t9<N)
  (gf:P.prog.funcs[g]?=some UL) (gb:UL.body=some (.seq (.region r0 X9 false) gc)) (gN:UL.ntmps=N2) (gres:UL.results=#[]) (gname:(UL.name == "runtime.NumGoroutine")=false)
  (hops:X9=#[o1,o2]) (g1:o1.guard=none) (g2:o2.guard=none) (d1:o1.dst=some ta) (d2:o2.dst=some tb) (p2:o2.op= .assign (.tmp ta)) (p1:o1.op= .call ZJ) (pc:ZJ.callee= .builtin .recover) (pa:ZJ.args=#[])
  (ha:caps.size≤ta) (hNl:caps.size≤N2) (ha2:ta<N2) (hb2:tb<N2) (hab:ta≠tb) (st1:St) (hj:st1.get t9= .junk) (hcl:bY (fun _=>False) val)
  (h01:WP P [MS] N c0 (fun e st'=>e= .normal∧WP P [MS] N c1 (fun e ahr=>e= .normal∧Weak [MS] ahr st1) st') ⟨aT 0 args,[]⟩)
  (hrest:WP P (st1.σ.map (·.1)) N rest (fun e st=>∃u u' x xv,amK P fn N2 tb gc (caps.toList.map (bT st1.get)) val e st u u' x xv) st1):ay P k args val:=by
 refine⟨⟨fn,hf,hn,by simp[hb]⟩,fun m γ w vs hst hl hr=>?_⟩
 refine callsIn_wide.1 (callsIn_of_wp_marks (n:=0) hf hb trivial ?_ rfl)
 have amL:=abp (P:=P) (fn:=fn) (ent:=[MS]) hN hle hst hl hr
 refine wpIn_seq (wpIn_mono (h01 Fence.wide 0 (OkF.wide _) _ _ _ amL) ?_)
 rintro e a1 w1 ⟨st',⟨rfl,h1⟩,hr1⟩
 show Code.wpIn _ _ _ _ _ _ _
 refine wpIn_seq (wpIn_mono (h1 Fence.wide 0 (OkF.wide _) _ _ _ hr1) ?_)
 rintro e a2 w2 ⟨ahr,⟨rfl,hw⟩,hr2⟩
 show Code.wpIn _ _ _ _ _ _ _
 obtain⟨γ2,k1,k2,k3,k4,k5,k6⟩:=hw P _ N a2 w2 hr2
 have hdf:a2.defers=[]:=by
  obtain⟨Ds,⟨x1,x2⟩,_⟩:=k5
  rw[x1,x2 (by simp)];rfl
 refine wpIn_seq (wpIn_region ?_)
 rw[show List.range (#[q1,q2]:Array Oper).size=[0,1] from rfl]
 refine pR (o:=q1) rfl eg1 ⟨fun f _=>trivial,?_⟩
 rw[Oper.semAt_plain Fence.wide _ _ (by rw[e1];intro c hc;cases hc)]
 have hrun1:(execOp a2.eval q1).run P.prog w2= .ok (.value (.func (.func g) #[] (caps.map a2.eval))) w2:=by
  simp[execOp,e1,Instr.makeFunc]
 rw[hrun1]
 show wpOpsIn _ _ _ _ _ _ _ _
 refine pR (o:=q2) rfl eg2 ⟨fun f _=>trivial,?_⟩
 rw[show Oper.semAt Fence.wide.round=Oper.semAt none from rfl,Oper.semAt_none,ed1]
 have he9:(a2.put (some t9) (.func (.func g) #[] (caps.map a2.eval))).eval (.tmp t9)= .func (.func g) #[] (caps.map a2.eval):=by
  show (a2.put (some t9) _).tmps.getD t9 undef=_
  rw[wE (by intro t' e;cases e;rw[k4];exact h9),if_pos rfl]
 have hrun2:(execOp (a2.put (some t9) (.func (.func g) #[] (caps.map a2.eval))).eval q2).run P.prog w2= .ok (.defer { target:= .fn (.func g) (caps.map a2.eval),args:=#[] }) w2:=by
  obtain⟨cal,ars,tys⟩:=Va
  simp only at ec ea
  subst ec;subst ea
  simp only[execOp,e2,resolve,he9,Deferred.ofValue,Sem.run_bind,Sem.run_pure,Result.andThen_ok]
  simp
 rw[hrun2]
 rw[Oper.uponIn_defer,ed2]
 show Code.wpIn _ _ _ _ _ _ _
 have amM:Rel (⟨m,γ2,w2,max w2.heap.size P.n,ag4 _,[{ target:= .fn (.func g) (caps.map a2.eval),args:=#[] }]⟩:BI P) (st1.σ.map (·.1)) N st1.get (lk st1.σ)
   (Act.put { (a2.put (some t9) (.func (.func g) #[] (caps.map a2.eval))) with defers:={ target:= .fn (.func g) (caps.map a2.eval),args:=#[] }::(a2.put (some t9) (.func (.func g) #[] (caps.map a2.eval))).defers } none undef) w2:=by
  refine⟨γ2,fun b g' hg=>?_,k2,aW.refl _ _ _,?_,?_,fun t=>?_⟩
  ·rcases k2.names b with⟨blk,g'',y1,_⟩ | ⟨_,y1⟩
   ·exact List.mem_map.2 ⟨(b,blk),iZ _ _ _ y1,rfl⟩
   ·have hg':γ2 b=some g':=hg
    rw[hg'] at y1;cases y1
  ·rw[iE]
   show (a2.put (some t9) _).tmps.size=N
   rw[iE];exact k4
  ·have:(Act.put { (a2.put (some t9) (.func (.func g) #[] (caps.map a2.eval))) with defers:={ target:= .fn (.func g) (caps.map a2.eval),args:=#[] }::(a2.put (some t9) (.func (.func g) #[] (caps.map a2.eval))).defers } none undef).defers=[{ target:= .fn (.func g) (caps.map a2.eval),args:=#[] }]:=by
    rw[put_defers]
    show _::(a2.put (some t9) _).defers=_
    rw[put_defers,hdf]
   rw[this]
   exact Marks.nil _ _ _ _
  ·show Rep _ _ _ _ ((a2.put (some t9) _).tmps.getD t undef)
   rw[wE (by intro t' e;cases e;rw[k4];exact h9)]
   by_cases ht:t9=t
   ·subst ht
    rw[hj];exact .junk _
   ·rw[if_neg (by simpa using ht)]
    exact k6 t
 refine wpIn_mono (hrest Fence.wide 0 (OkF.wide _) _ _ _ amM) ?_
 rintro e a' w' ⟨st,⟨u,u',x,xv,hd⟩,γ',r1,r2,r3,r4,r5,r6⟩
 obtain⟨Ds,⟨z1,_⟩,z2,z3⟩:=r5
 have amN:u≠ .run:=by
  have:=hd.rcv
  cases this <;> simp
 have hset:settle u'= .returning:=by
  have:=hd.rcv
  cases this <;> simp[settle]
 have key:=wH (P:=P) (E:=⟨m,γ2,w2,max w2.heap.size P.n,ag4 _,[{ target:= .fn (.func g) (caps.map a2.eval),args:=#[] }]⟩) (fn:=fn) (tmps:=a'.tmps) (F:=st.get) (σ:=lk st.σ) (γ:=γ2) (γ':=γ') (w:=w2)
  (T:=[{ target:= .fn (.func g) (caps.map a2.eval),args:=#[] }]) (n:=max w2.heap.size P.n) (by omega) (u:=u) amN
  (R:=fun e w'=>∃v γ',e= .returned v∧Store (P.base m) γ' (lk []) w'∧aW (aA (P.base m) γ) γ w (aA (P.base m) γ') γ' w'∧Rep (aA (P.base m) γ') γ' w' val v)
  (fun w4 g2' g3' g6'=>by
   refine⟨amN,.inr ⟨(fun e=>by cases e),.func g,caps.map a2.eval,g,#[]++caps.map a2.eval,rfl,?_,fun _ _=>trivial,?_⟩⟩
   ·simp only[invoke,callFunc,Sem.run_bind,run_program,Result.andThen_ok,gf,gname]
    simp[gb]
   ·refine OW (cs:=caps.toList.map (bT st1.get)) (Q:=fun σ'=>∃d,resD P.prog fn ⟨st.F,σ'⟩=some d∧Le d val) gf gb gN gres hops g1 g2 d1 d2 p2 p1 pc pa hd.rcv hd.rep g2' (by simp) (by simpa using ha) (by simpa using hNl) ha2 hb2 hab (fun i d v hi hv=>?_) hd.wp ?_
    ·have hi':i<caps.size:=by
      have:=(acR.1 hi).1
      simpa using this
     rw[adw] at hi
     obtain⟨o,ho,rfl⟩:=abR.1 hi
     have hv':v=a2.eval o:=by
      have ho':caps[i]?=some o:=by simpa using ho
      rw[Array.empty_append,Array.getElem?_map,ho'] at hv
      simpa using hv.symm
     rw[hv']
     exact (iY k6 o).dA g3'
    ·rintro w5 γ5 σ5 s5 ev5 ⟨dd,hdd,hle'⟩ v
     show LeavesInM _ _ _ _ _ _ [] (settle u') w5
     rw[hset]
     show ∃v,_
     obtain⟨v',y1,y2⟩:=PU (E:=(⟨m,γ2,w2,max w2.heap.size P.n,ag4 _,[]⟩:BI P)) (st:=⟨st.F,σ5⟩) s5 (a:=a') (fun t=>(g6' t).dA ev5) hdd
     have amO:aW (aA (P.base m) γ) γ w (aA (P.base m) γ5) γ5 w5:=(k3.trans g3').trans ev5
     obtain⟨γ6,m1,m2,m3⟩:=Store.forget s5 amO (l:=[]) (by simp) (by simp) (fun b g' hg=>by
      have:=k1 b g' hg
      rcases hst.names b with⟨blk,g'',y1,_⟩ | ⟨_,y1⟩
      ·cases y1
      ·rw[hg] at y1;cases y1)
     exact⟨v',y1,v',γ6,rfl,m1,m2,m3 _ _ (hle' _ _ _ _ y2) (hcl.mono fun _ h=>h.elim)⟩) (by omega) Ds a'.defers w' z1 z2 z3 r2 r3 r6
 rcases hd.how with⟨he,rfl⟩ | ⟨rfl,rfl⟩
 ·rcases he with rfl|rfl <;> exact key
 ·exact key
section
variable {P:dF} {f g:Nat→Nat} {m:Nat→Nat→Prop}
theorem gU.rename (h:∀n,g (f n)=n){k:FuncId}{args:List D}{ins outs:List (Nat × bf)}{val:D}{x0:Option Value}(hc:gU P x0 k args ins val outs):gU P x0 k (args.map (bK f)) (kC f ins) (bK f val) (kC f outs):=by
 refine⟨hc.1,fun M γ' w vs hst hl hr=>?_⟩
 have hb:=fun {c x} (q:γ' c=some x)=>JY h hst q
 refine (hc.2 M (fun b=>γ' (f b)) w vs (hst.back h) (by simpa using hl) (fun i d v hd hv=>?_)).mono ?_
 ·have:=((hr i (bK f d) v (by rw[adw,hd];rfl) hv).ren (γ':=fun b=>γ' (f b)) (f:=g) (fun c y hy=>by show γ' (f (g c))=some y;rw[hb hy];exact hy)).same (fun B off=>oL h hst B off)
  rw[uS h] at this
  exact this
 ·rintro e w' ⟨v,γ₂,rfl,q1,q2,q3⟩
  refine⟨v,fwd f g γ₂,rfl,q1.forth h,?_,?_⟩
  ·refine⟨q2.os,q2.tape,q2.output,q2.size,fun B off u hm hu=>q2.cell B off u (fun q=>hm ((oL h hst B off).1 q)) hu,fun B off hm hlt=>(oL h hst B off).1 (q2.wr B off ((rM h γ₂ B off).1 hm) hlt),fun c x hx=>?_,fun B hB hn=>q2.block B hB (fun b x hx=>hn (f b) x hx),fun c x B hx hB hlt=>?_⟩
   ·obtain⟨x',r1,r2⟩:=q2.names (g c) x (by show γ' (f (g c))=some x;rw[hb hx];exact hx)
    exact⟨x',by rw[← hb hx,wI h];exact r1,r2⟩
   ·obtain⟨b',x',r1,r2⟩:=q2.old (g c) x B (qH hx).2 hB hlt
    exact⟨f b',x',r1,r2⟩
  ·exact (q3.ren (γ':=fwd f g γ₂) (f:=f) (fun b y hy=>(wI h γ₂ b).trans hy)).same (fun B off=>rM h γ₂ B off)
end
end Go.Id
namespace Go.Id
open Go
def akP:bf→Prop
 | .box .. | .arr .. | .map ..=>True
 | _=>False
theorem abq {P:dF}{E:BI P}{ent:List Nat}{σ:Nat→Option bf}{γ:Nat→Option G}{w:World}{t:Nat}(h1:∀b g,E.γ b=some g→b∈ent)(h2:Store E.M γ σ w)(h3:aW (aA E.M E.γ) E.γ E.w (aA E.M γ) γ w)
  (hent:∀b∈ent,b≠t∧∃blk,σ b=some blk∧akP blk):∀b g,E.γ b=some g→b≠t∧γ b=some g:=by
 intro b g hg
 obtain⟨hne,blk,hb,hf⟩:=hent b (h1 b g hg)
 obtain⟨g',hg',hle⟩:=h3.names b g hg
 refine⟨hne,?_⟩
 cases g with
 |aI sz e v n=>
  obtain⟨v',n',rfl,_⟩:=hle
  obtain⟨g2,q1,q2⟩:=h2.hit hb
  rw[hg'] at q1;cases q1
  cases q2 <;> exact hf.elim
 | _=>rw[hg'];exact congrArg some hle
theorem Weak.ahs {ent:List Nat}{st:St}(t:Nat)(e:TypeId)(sz:Nat)(es:List (List D))(k0:Nat){F':List (Nat × D)}{σ':List (Nat × bf)}(hk:st.get k0= .slice sz false es (some t))(hb:lk st.σ t=some (.aI e sz es.length))(hes:∀x∈es,∀d∈x,Fr t d)
  (hσt:lk σ' t=some (.arr e es.flatten)) (hσ:∀b,b≠t→lk σ' b=lk st.σ b) (hσc:∀p∈st.σ,p.1≠t→BFr t p.2) (hF:∀p∈F',(p.1=k0∧p.2= .arr t sz es.length)∨(st.get p.1=p.2∧Fr t p.2)) (hent:∀b∈ent,b≠t∧∃blk,lk st.σ b=some blk∧akP blk):Weak ent st ⟨F',σ'⟩:=by
 rintro P E N a w ⟨γ,h1,h2,h3,h4,h5,h6⟩
 have hE:=abq h1 h2 h3 hent
 obtain⟨g,q1,q2⟩:=h2.hit hb
 have hsl:=h6 k0
 rw[hk] at hsl
 generalize hv0:a.tmps.getD k0 undef=v0 at hsl
 rcases aZ hsl with⟨_,_,hn⟩ | ⟨ad,cap,vs,rfl,_,hspot,hvs,hcap,hsz,hcell,hr,htip⟩
 ·cases hn
 cases q2 with
 | @aI _ _ _ v xs ho=>
  obtain⟨_,_,v',n',p1,p2,p3⟩:=htip t rfl
  rw[q1] at p1
  simp only[abr,G.aI.injEq] at p1
  obtain⟨rfl,rfl,rfl,rfl⟩:=p1
  have hv:=p3 rfl
  rcases ho.2 with⟨h0,_⟩ | ⟨B,cap',cur,hvB,_,hB,hnc,hcm,hcs,htake⟩
  ·rw[h0] at hv;cases hv
  rw[hvB] at hv
  simp only[Value.slice.injEq,abr,true_and] at hv
  obtain⟨rfl,rfl⟩:=hv
  let g':G:= .arr B cap sz
  have hnew:¬B<E.w.heap.size:=fun hlt=>by
   obtain⟨b',g0,r1,r2⟩:=h3.old t _ B q1 (by rw[hvB];rfl) hlt
   obtain⟨hne,hg⟩:=hE b' g0 r1
   exact hne (h2.dist b' t g0 _ B hg q1 r2 (by rw[hvB];rfl))
  have hgB:(G.aI sz e v es.length).block=some B:=by rw[hvB];rfl
  have hother:∀i,i≠t→upd γ t (some g') i=γ i:=fun i hi=>bn _ _ hi
  have hback:∀i gi,upd γ t (some g') i=some gi→∃g0,γ i=some g0∧g0.block=gi.block:=by
   intro i gi hg
   by_cases hi:i=t
   ·subst hi;rw[upd_same] at hg;cases hg;exact⟨_,q1,hgB⟩
   ·rw[hother i hi] at hg;exact⟨gi,hg,rfl⟩
  have pO:=kL es hsz
  have hMB:∀off,¬E.M.M B off:=fun off hm=>h2.apart t _ B off q1 hgB hm
  refine⟨upd γ t (some g'),h1,⟨fun i=>?_,fun i i' gi gi' B' a1 a2 a3 a4=>?_,h2.outer,fun i gi B' off a1 a2=>?_,h2.inv,fun i gi B' a1 a2=>?_,h2.big⟩,?_,h4,h5.back (fun b g B q1 q2=>by obtain⟨g0,r1,r2⟩:=hback _ _ q1;exact⟨b,g0,r1,r2.trans q2⟩),fun k=>?_⟩
  ·by_cases hi:i=t
   ·subst hi
    refine .inl ⟨.arr e es.flatten,g',hσt,upd_same _ _ _,?_⟩
    refine .arr cur e (0,0) hB (by rw[pO,hcs];exact aj2 _ hcap) (fun j u hj hu=>⟨?_,by simp[World.frozen?,hB]⟩) (fun j d u hd hu=>?_) ⟨.inl ⟨rfl,rfl⟩,hcs,hcm⟩
    ·have ZG:j<vs.length:=by omega
     have:=hcell j _ (abt ZG)
     simp only[ade] at this
     have hc:=this.1
     rw[cell_of_row w B j cur e _ hB,hu] at hc
     have:u=vs[j]:=by simpa using hc
     rw[this];exact (hcell j _ (abt ZG)).2.2
    ·obtain⟨x,r1,r2⟩:=wC es hsz j d hd
     have ZG:j<vs.length:=by have:=(acR.1 hd).1;omega
     have:=hcell j _ (abt ZG)
     simp only[ade] at this
     have hc:=this.1
     rw[cell_of_row w B j cur e _ hB,hu] at hc
     have hu':u=vs[j]:=by simpa using hc
     have h7:=hr (j / sz) (j % sz) x d vs[j] r1 r2 (by rw[Nat.div_add_mod'];exact abt ZG)
     rw[hu']
     exact (hes x (ac8 r1) d (ac8 r2)).rep hother h7
   ·show (∃blk g,lk σ' i=some blk∧_)∨(lk σ' i=none∧_)
    rw[hσ i hi,hother i hi]
    rcases h2.names i with⟨blk,gi,a1,a2,a3⟩ | ⟨a1,a2⟩
    ·exact .inl ⟨blk,gi,a1,a2,(hσc _ (iZ _ _ _ a1) hi).rel hother a3⟩
    ·exact .inr ⟨a1,a2⟩
  ·obtain⟨g1,b1,b2⟩:=hback _ _ a1
   obtain⟨g2,b3,b4⟩:=hback _ _ a2
   exact h2.dist i i' g1 g2 B' b1 b3 (b2.trans a3) (b4.trans a4)
  ·obtain⟨g1,b1,b2⟩:=hback _ _ a1
   exact h2.apart i g1 B' off b1 (b2.trans a2)
  ·obtain⟨g1,b1,b2⟩:=hback _ _ a1
   exact h2.low i g1 B' b1 (b2.trans a2)
  ·refine⟨h3.os,h3.tape,h3.output,h3.size,h3.cell,fun B' off hm hlt=>?_,fun b g0 hg=>⟨g0,by rw[hother b (hE b g0 hg).1];exact (hE b g0 hg).2,G.le_refl g0⟩,fun B' hlt hno=>h3.block B' hlt hno,fun b g0 B' hg adL hlt=>?_⟩
   ·rcases hm with hm | ⟨i,gi,hg,hw⟩
    ·exact h3.wr B' off (.inl hm) hlt
    ·by_cases hi:i=t
     ·subst hi;rw[upd_same] at hg;cases hg
      have:B'=B:=hw
      subst this
      exact absurd hlt hnew
     ·rw[hother i hi] at hg;exact h3.wr B' off (.inr ⟨i,gi,hg,hw⟩) hlt
   ·obtain⟨g1,b1,b2⟩:=hback _ _ hg
    exact h3.old b g1 B' b1 (b2.trans adL) hlt
  ·have h0:=h6 k
   show Rep _ _ _ ((lk F' k).getD .junk) _
   cases hl:lk F' k with
   |none=>exact .junk _
   |some d=>
    rcases hF _ (iZ _ _ _ hl) with⟨rfl,rfl⟩ | ⟨r1,r2⟩
    ·rw[hv0]
     exact .arr (upd_same _ _ _) hcap
    ·dsimp only at r1 r2
     rw[r1] at h0
     exact r2.rep hother h0
end Go.Id
namespace Go.Id
open Go
def adN (es:List (List UInt8 × D × Nat))(vs:List Value):List (List UInt8 × D × Nat):=(es.zip vs).map fun p=>(p.1.1,.val p.2,p.1.2.2)
end Go.Id
namespace Go.Id
open Go
inductive Kd where
 |s|i|l|b
 deriving DecidableEq
def kdD:D→Option Kd
 | .str _=>some .s
 | .int _ _=>some .i
 | .slice _ _ _ _=>some .l
 | .bool _=>some .b
 | _=>none
def kdV:Value→Option Kd
 | .string _=>some .s
 | .int _ _=>some .i
 | .slice _ _ _=>some .l
 | .bool _=>some .b
 | _=>none
theorem adO {M:Nat→Nat→Prop}{γ:Nat→Option G}{w:World}{d:D}{v:Value}(h:Rep M γ w d v){k:Kd}(hk:kdD d=some k):kdV v=some k:=by
 cases h <;> simp_all[kdD,kdV]
def clash (pat:List Kd)(row:List (Option Kd)):Bool:=
 (List.range pat.length).all fun φ=>(List.range row.length).any fun j=>match row[j]?,pat[(φ+j) % pat.length]? with
  |some (some k),some k'=>decide (k≠k')
  | _,_=>false
theorem adP {pat:List Kd}{row:List (Option Kd)}(h:clash pat row=true){o:Nat}(h0:0<pat.length):∃j k k',row[j]?=some (some k)∧pat[(o+j) % pat.length]?=some k'∧k≠k':=by
 unfold clash at h
 rw[ami] at h
 have h1:=h (o % pat.length) (List.mem_range.2 (Nat.mod_lt _ h0))
 rw[List.any_eq_true] at h1
 obtain⟨j,_,hj⟩:=h1
 rw[Nat.mod_add_mod] at hj
 split at hj
 ·rename_i k k' e1 e2
  exact⟨j,k,k',e1,e2,by simpa using hj⟩
 ·cases hj
inductive xC (t:Nat) (pat:List Kd):D→Prop
 |junk:xC t pat .junk
 |bool (b:Bool):xC t pat (.bool b)
 |int (k:IntKind) (n:Int):xC t pat (.int k n)
 |str (s:List UInt8):xC t pat (.str s)
 |slice {sz:Nat} {nil:Bool} {es:List (List D)} {aI:Option Nat} (h:∀e∈es,∀d∈e,xC t pat d) (h0:∀e,es[0]?=some e→clash pat (e.map kdD)=true) (ht:aI≠some t):xC t pat (.slice sz nil es aI)
 |arr {b sz n:Nat} (h:b≠t):xC t pat (.arr b sz n)
 |view {b off sz n:Nat} (h:b≠t):xC t pat (.view b off sz n)
 |ref {b off:Nat} (h:b≠t):xC t pat (.ref b off)
 |aV:xC t pat .aV
 |fn {f:Fn} {a b:List D} (h:∀d∈a,xC t pat d) (h':∀d∈b,xC t pat d):xC t pat (.fn f a b)
 |dK:xC t pat .dK
 |agg {cs:List D} (h:∀d∈cs,xC t pat d):xC t pat (.agg cs)
 |aQ {cs:List D} (h:∀d∈cs,xC t pat d):xC t pat (.aQ cs)
 |aK:xC t pat .aK
 |val (v:Value):xC t pat (.val v)
 |bI:xC t pat .bI
 |map {b:Nat} (h:b≠t):xC t pat (.map b)
section
variable {t:Nat} {pat:List Kd}
theorem xC.rep {M M':Nat→Nat→Prop}{γ γ':Nat→Option G}{w:World}{B:Nat}(hγ:∀i,i≠t→γ' i=γ i)(hM:∀B' off,M' B' off→M B' off∨B'=B)(hp:0<pat.length)(hB:∀off u,w.cell? ⟨B,off,none⟩=some u→¬M B off→∃k,pat[off % pat.length]?=some k∧kdV u=some k){d:D}(hd:xC t pat d){v:Value}(h:Rep M γ w d v):Rep M' γ' w d v:=by
 induction h with
 |junk v=>exact .junk v
 |bool b=>exact .bool b
 |int k n=>exact .int k n
 |str s=>exact .str s
 | @nilslice sz aI ht=>
  cases hd with
  |slice h h0 hn=>
   refine .nilslice fun t' e=>?_
   have:t'≠t:=fun q=>hn (by rw[e,q])
   rw[hγ _ this];exact ht t' e
 | @slice sz es aI a cap vs hsz hvs hspot hc hr hcap ht ih=>
  cases hd with
  |slice h h0 hn=>
   have hne:∀(j:Nat) (v:Value),vs[j]?=some v→a.block≠B:=by
    intro j v hj e
    have hj':=(acR.1 hj).1
    cases es with
    | nil => have h00:vs.length=0:=by rw[hvs];simp
             omega
    |cons x es=>
     obtain⟨j0,k,k',e1,e2,e3⟩:=adP (h0 x rfl) (o:=a.off) hp
     rw[adw] at e1
     obtain⟨d0,e4,e5⟩:=abR.1 e1
     have hl:=hsz x (by simp)
     have hx0:j0<x.length:=(acR.1 e4).1
     have h0':j0<vs.length:=by
      have:sz≤vs.length:=by rw[hvs,abN,akU];omega
      omega
     have hv0:=abt h0'
     have hr0:=hr 0 j0 x d0 vs[j0] rfl e4 (by simpa using hv0)
     obtain⟨q1,q2,_⟩:=hc j0 _ hv0
     rw[e] at q1 q2
     obtain⟨k2,e6,e7⟩:=hB _ _ q1 q2
     rw[e2] at e6;cases e6
     rw[adO hr0 e5] at e7;cases e7
     exact e3 rfl
   refine .slice vs hsz hvs hspot (fun j v hj=>?_) (fun i j e d v q1 q2 q3=>ih i j e d v q1 q2 q3 (h e (ac8 q1) d (ac8 q2))) hcap (fun t' e=>?_)
   ·obtain⟨q1,q2,q3⟩:=hc j v hj
    exact⟨q1,fun q=>(hM _ _ q).elim q2 (hne j v hj),q3⟩
   ·have:t'≠t:=fun q=>hn (by rw[e,q])
    rw[hγ _ this];exact ht t' e
 |arr hb hn=>cases hd with|arr h=>exact .arr ((hγ _ h).trans hb) hn
 |view hb ha hn=>cases hd with|view h=>exact .view ((hγ _ h).trans hb) ha hn
 |ref hb=>
  cases hd with
  |ref h=>
   refine .ref ?_
   rw[hγ _ h]
   exact hb
 |dV=>cases hd
 |aV=>exact .aV
 |fn hf hk _ _ ih1 ih2=>
  cases hd with
  |fn h h'=>exact .fn hf hk (fun i d v a b=>ih1 i d v a b (h d (ac8 a))) (fun i d v a b=>ih2 i d v a b (h' d (ac8 a)))
 |dK=>exact .dK
 |agg hl h1 _ ih=>cases hd with|agg h=>exact .agg hl h1 (fun i d v a b=>ih i d v a b (h d (ac8 a)))
 |aQ hl _ ih=>cases hd with|aQ h=>exact .aQ hl (fun i d v a b=>ih i d v a b (h d (ac8 a)))
 |iface _ ih=>cases hd
 |aK=>exact .aK
 |val v=>exact .val v
 |bI=>exact .bI
 |map hb=>cases hd with|map h=>exact .map ((hγ _ h).trans hb)
end
def TgD (t:Nat)(pat:List Kd)(sz:Nat)(es:List (List D))(d d':D):Prop:=(d'=d∧xC t pat d)∨(d= .slice sz false es (some t)∧d'= .arr t sz es.length)
def TgL (t:Nat)(pat:List Kd)(sz:Nat)(es:List (List D)):List D→List D→Prop
 | [],[]=>True
 |d::l,d'::l'=>TgD t pat sz es d d'∧TgL t pat sz es l l'
 | _,_=>False
def ahu (t:Nat)(pat:List Kd):bf→Prop
 | .box _ cs | .arr _ cs=>∀d∈cs,xC t pat d
 | .map es _=>∀e∈es,xC t pat e.2.1
 | .dZ m _ _ _=>m≠t
 | _=>True
def TgB (t:Nat)(pat:List Kd)(sz:Nat)(es:List (List D)):bf→bf→Prop
 | .box T cs,.box T' cs'=>T'=T∧TgL t pat sz es cs cs'
 |b,b'=>b'=b∧ahu t pat b
theorem TgL.at {t:Nat}{pat:List Kd}{sz:Nat}{es:List (List D)}:∀{l l':List D},TgL t pat sz es l l'→l'.length=l.length∧∀(i:Nat) d',l'[i]?=some d'→∃d,l[i]?=some d∧TgD t pat sz es d d'
 | [],[],_=>⟨rfl,fun i d h=>by simp at h⟩
 |d::l,d'::l',h=>by
  obtain⟨h1,h2⟩:=TgL.at h.2
  refine⟨by simp[h1],fun i x hx=>?_⟩
  cases i with
  |zero=>simp at hx;subst hx;exact⟨d,rfl,h.1⟩
  |succ i=>simp at hx;simpa using h2 i x hx
 | [],_::_,h=>h.elim
 | _::_,[],h=>h.elim
theorem ahu.rel {t:Nat}{pat:List Kd}{M M':Nat→Nat→Prop}{γ γ':Nat→Option G}{w:World}{B:Nat}(hγ:∀i,i≠t→γ' i=γ i)(hM:∀B' off,M' B' off→M B' off∨B'=B)(hp:0<pat.length)(hB:∀off u,w.cell? ⟨B,off,none⟩=some u→¬M B off→∃k,pat[off % pat.length]?=some k∧kdV u=some k){blk:bf}{g:G}(hb:ahu t pat blk)(h:dh M γ w blk g):dh M' γ' w blk g:=by
 cases h with
 |box vs e fz hB' hl h1 hr=>exact .box vs e fz hB' hl h1 (fun i d v hd hv=>(hb d (ac8 hd)).rep hγ hM hp hB (hr i d v hd hv))
 |arr vs e fz hB' hl h1 hr hf=>exact .arr vs e fz hB' hl h1 (fun i d v hd hv=>(hb d (ac8 hd)).rep hγ hM hp hB (hr i d v hd hv)) hf
 |iter hB'=>exact .iter hB'
 |map en hB' hl hk=>exact .map en hB' hl (fun i e k d n q1 q2=>let ⟨r1,r2,r3⟩:=hk i e k d n q1 q2;⟨r1,r2,(hb _ (ac8 q2)).rep hγ hM hp hB r3⟩)
 |dZ hB' hm=>exact .dZ hB' ((hγ _ hb).trans hm)
 |dead hB'=>exact .dead hB'
 |aI xs ho=>exact .aI xs ho
theorem Weak.ahv {st st':St}(t:Nat)(pat:List Kd)(e:TypeId)(sz:Nat)(es:List (List D))(b0:Nat)(T0:TypeId)(cs0:List D)(i0:Nat)(hk:lk st.σ b0=some (.box T0 cs0))(hi:cs0[i0]?=some (.slice sz false es (some t)))(hb:lk st.σ t=some (.aI e sz es.length))(hpz:0<pat.length)(hps:pat.length=sz)(hes:∀x∈es,x.map kdD=pat.map some∧∀d∈x,xC t pat d)
  (hF:∀p∈st'.F,st.get p.1=p.2∧xC t pat p.2) (hσt:lk st'.σ t=some (.arr e es.flatten)) (hσ:∀b,b≠t→(lk st.σ b=none∧lk st'.σ b=none)∨∃x x',lk st.σ b=some x∧lk st'.σ b=some x'∧TgB t pat sz es x x'):Weak [] st st':=by
 rintro P E N a w ⟨γ,h1,h2,h3,h4,h5,h6⟩
 have hent:∀b,E.γ b=none:=fun b=>by
  cases h:E.γ b with
  |none=>rfl
  |some g=>exact absurd (h1 b g h) (by simp)
 obtain⟨g,q1,q2⟩:=h2.hit hb
 obtain⟨g0,qb1,qb2⟩:=h2.hit hk
 have hsl:∃u,Rep (aA E.M γ) γ w (.slice sz false es (some t)) u:=by
  cases qb2 with
  |box vs T fz hB hl hh hr=>
   have hlt:i0<vs.size:=by rw[hl];exact (acR.1 hi).1
   exact⟨_,hr i0 _ _ hi (adr hlt)⟩
 obtain⟨v0,hsl⟩:=hsl
 rcases aZ hsl with⟨_,_,hn⟩ | ⟨ad,cap,vs,rfl,_,hspot,hvs,hcap,hsz,hcell,hr,htip⟩
 ·cases hn
 cases q2 with
 | @aI _ _ _ v xs ho=>
  obtain⟨_,_,v',n',p1,p2,p3⟩:=htip t rfl
  rw[q1] at p1
  simp only[abr,G.aI.injEq] at p1
  obtain⟨rfl,rfl,rfl,rfl⟩:=p1
  have hv:=p3 rfl
  rcases ho.2 with⟨h0,_⟩ | ⟨B,cap',cur,hvB,_,hB,hnc,hcm,hcs,htake⟩
  ·rw[h0] at hv;cases hv
  have ape:ad=⟨B,0,none⟩∧cap=cap':=by
   rw[hvB] at hv
   simp only[Value.slice.injEq,abr,true_and] at hv
   exact hv
  obtain⟨rfl,rfl⟩:=ape
  let g':G:= .arr B cap sz
  have hnew:¬B<E.w.heap.size:=fun hlt=>by
   obtain⟨b',g0,r1,_⟩:=h3.old t _ B q1 (by rw[hvB];rfl) hlt
   rw[hent] at r1;cases r1
  have hgB:(G.aI sz e v es.length).block=some B:=by rw[hvB];rfl
  have hother:∀i,i≠t→upd γ t (some g') i=γ i:=fun i hi=>bn _ _ hi
  have hback:∀i gi,upd γ t (some g') i=some gi→∃g0,γ i=some g0∧g0.block=gi.block:=by
   intro i gi hg
   by_cases hi:i=t
   ·subst hi;rw[upd_same] at hg;cases hg;exact⟨_,q1,hgB⟩
   ·rw[hother i hi] at hg;exact⟨gi,hg,rfl⟩
  have pO:=kL es hsz
  have hMB:∀off,¬E.M.M B off:=fun off hm=>h2.apart t _ B off q1 hgB hm
  have hM':∀B' off,aA E.M (upd γ t (some g')) B' off→aA E.M γ B' off∨B'=B:=by
   rintro B' off (hm | ⟨i,gi,hg,hw⟩)
   ·exact .inl (.inl hm)
   ·by_cases hi:i=t
    ·subst hi;rw[upd_same] at hg;cases hg;exact .inr hw
    ·rw[hother i hi] at hg;exact .inl (.inr ⟨i,gi,hg,hw⟩)
  have hat:∀j u,j<es.length * sz→cur[j]?=some u→∃d x,es.flatten[j]?=some d∧x∈es∧x[j % sz]?=some d∧Rep (aA E.M γ) γ w d u∧u.oneCell'=true:=by
   intro j u hj hu
   have ZG:j<vs.length:=by omega
   have hc:=hcell j _ (abt ZG)
   simp only[ade] at hc
   have hc1:=hc.1
   rw[cell_of_row w B j cur e _ hB,hu] at hc1
   have hu':u=vs[j]:=by simpa using hc1
   have hjf:j<es.flatten.length:=by omega
   obtain⟨x,r1,r2⟩:=wC es hsz j _ (abt hjf)
   refine⟨es.flatten[j],x,abt hjf,ac8 r1,r2,?_,by rw[hu'];exact hc.2.2⟩
   rw[hu']
   exact hr (j / sz) (j % sz) x _ vs[j] r1 r2 (by rw[Nat.div_add_mod'];exact abt ZG)
  have hBs:∀off u,w.cell? ⟨B,off,none⟩=some u→¬aA E.M γ B off→∃k,pat[off % pat.length]?=some k∧kdV u=some k:=by
   intro off s hs hnm
   rw[cell_of_row w B off cur e _ hB] at hs
   by_cases ho:off<es.length * sz
   ·obtain⟨d,x,_,hx,hd,hrd,_⟩:=hat off _ ho hs
    have hk:=(hes x hx).1
    have hj:(x.map kdD)[off % sz]?=some (kdD d):=by rw[adw,hd];rfl
    rw[hk,adw] at hj
    obtain⟨k,e1,e2⟩:=abR.1 hj
    rw[hps]
    exact⟨k,e1,adO hrd e2.symm⟩
   ·exact (hnm (.inr ⟨t,_,q1,by rw[hvB];exact⟨rfl,by omega⟩⟩)).elim
  refine⟨upd γ t (some g'),fun b g0 hg=>(by rw[hent] at hg;cases hg),⟨fun i=>?_,fun i i' gi gi' B' a1 a2 a3 a4=>?_,h2.outer,fun i gi B' off a1 a2=>?_,h2.inv,fun i gi B' a1 a2=>?_,h2.big⟩,?_,h4,h5.back (fun b g B q1 q2=>by obtain⟨g0,r1,r2⟩:=hback _ _ q1;exact⟨b,g0,r1,r2.trans q2⟩),fun k=>?_⟩
  ·by_cases hit:i=t
   ·subst hit
    refine .inl ⟨.arr e es.flatten,g',hσt,upd_same _ _ _,?_⟩
    refine .arr cur e (0,0) hB (by rw[pO,hcs];exact aj2 _ hcap) (fun j u hj hu=>⟨?_,by simp[World.frozen?,hB]⟩) (fun j d u hd hu=>?_) ⟨.inl ⟨rfl,rfl⟩,hcs,hcm⟩
    ·obtain⟨_,_,_,_,_,_,h7⟩:=hat j u (by omega) hu
     exact h7
    ·have hjl:=(acR.1 hd).1
     obtain⟨d',x,hd',hx,hdx,h7,_⟩:=hat j u (by omega) hu
     rw[hd] at hd';cases hd'
     exact ((hes x hx).2 d (ac8 hdx)).rep hother hM' hpz hBs h7
   ·show (∃blk g,lk st'.σ i=some blk∧_)∨(lk st'.σ i=none∧_)
    rw[hother i hit]
    rcases hσ i hit with⟨a1,a2⟩ | ⟨x,x',a1,a2,a3⟩
    ·exact .inr ⟨a2,h2.miss a1⟩
    ·obtain⟨gi,c1,c2⟩:=h2.hit a1
     refine .inl ⟨x',gi,a2,c1,?_⟩
     have gen:x'=x∧ahu t pat x→dh (aA E.M (upd γ t (some g'))) (upd γ t (some g')) w x' gi:=by
      rintro ⟨rfl,h⟩;exact h.rel hother hM' hpz hBs c2
     cases x with
     |box T cs=>
      cases x' with
      |box T' cs'=>
       obtain⟨rfl,hu⟩:=a3
       obtain⟨hlen,hat'⟩:=hu.at
       cases c2 with
       |box ws _ fz hB' hl' hh' hr'=>
        refine .box ws _ fz hB' (by omega) hh' (fun j x v hx hv=>?_)
        obtain⟨d0,s1,s2⟩:=hat' j x hx
        have hrep:=hr' j d0 v s1 hv
        rcases s2 with⟨rfl,hs⟩ | ⟨rfl,rfl⟩
        ·exact hs.rep hother hM' hpz hBs hrep
        ·rcases aZ hrep with⟨_,_,hn⟩ | ⟨ad2,cap2,vs2,rfl,_,_,_,hcap2,_,_,_,amR⟩
         ·cases hn
         ·obtain⟨_,_,v2,n2,p1,p2,p3⟩:=amR t rfl
          rw[q1] at p1
          simp only[abr,G.aI.injEq] at p1
          obtain⟨_,_,rfl,rfl⟩:=p1
          have hv2:=p3 rfl
          rw[hvB] at hv2
          simp only[Value.slice.injEq,abr,true_and] at hv2
          obtain⟨rfl,rfl⟩:=hv2
          exact .arr (upd_same _ _ _) hcap
      | _=>exact absurd a3.1 (by simp)
     | _=>cases x' <;> exact gen a3
  ·obtain⟨g1,b1,b2⟩:=hback _ _ a1
   obtain⟨g2,b3,b4⟩:=hback _ _ a2
   exact h2.dist i i' g1 g2 B' b1 b3 (b2.trans a3) (b4.trans a4)
  ·obtain⟨g1,b1,b2⟩:=hback _ _ a1
   exact h2.apart i g1 B' off b1 (b2.trans a2)
  ·obtain⟨g1,b1,b2⟩:=hback _ _ a1
   exact h2.low i g1 B' b1 (b2.trans a2)
  ·refine⟨h3.os,h3.tape,h3.output,h3.size,h3.cell,fun B' off hm hlt=>?_,fun b g0 hg=>(by rw[hent] at hg;cases hg),fun B' hlt hno=>h3.block B' hlt hno,fun b g0 B' hg adL hlt=>?_⟩
   ·rcases hM' B' off hm with hm|rfl
    ·exact h3.wr B' off hm hlt
    ·exact absurd hlt hnew
   ·obtain⟨g1,b1,b2⟩:=hback _ _ hg
    exact h3.old b g1 B' b1 (b2.trans adL) hlt
  ·have h0:=h6 k
   show Rep _ _ _ ((lk st'.F k).getD .junk) _
   cases hl:lk st'.F k with
   |none=>exact .junk _
   |some d=>
    obtain⟨r1,r2⟩:=hF _ (iZ _ _ _ hl)
    dsimp only at r1 r2
    rw[r1] at h0
    exact r2.rep hother hM' hpz hBs h0
end Go.Id
namespace Go.Id
open Go
def ArL (b sz:Nat)(es:List (List D)):List D→List D→Prop
 | [],[]=>True
 |d::l,d'::l'=>ArD b sz es d d'∧ArL b sz es l l'
 | _,_=>False
theorem ArL.at {b sz:Nat}{es:List (List D)}:∀{l l':List D},ArL b sz es l l'→l'.length=l.length∧∀(i:Nat) d',l'[i]?=some d'→∃d,l[i]?=some d∧ArD b sz es d d'
 | [],[],_=>⟨rfl,fun i d h=>by simp at h⟩
 |d::l,d'::l',h=>by
  obtain⟨h1,h2⟩:=ArL.at h.2
  refine⟨by simp[h1],fun i x hx=>?_⟩
  cases i with
  |zero=>simp at hx;subst hx;exact⟨d,rfl,h.1⟩
  |succ i=>simp at hx;simpa using h2 i x hx
 | [],_::_,h=>h.elim
 | _::_,[],h=>h.elim
def ArB (b sz:Nat)(es:List (List D)):bf→bf→Prop
 | .box T cs,.box T' cs'=>T'=T∧ArL b sz es cs cs'
 |x,x'=>x'=x∧aB (fun i=>i≠b) x
theorem Weak.ahw {ent:List Nat}{st st':St}(b:Nat)(e:TypeId)(sz:Nat)(es:List (List D))(b0:Nat)(T0:TypeId)(cs0:List D)(i0:Nat)(hk:lk st.σ b0=some (.box T0 cs0))(hi0:cs0[i0]?=some (.arr b sz es.length))(hb:lk st.σ b=some (.arr e es.flatten))(hes:∀x∈es,x.length=sz)(hent:b ∉ ent)
  (hF:∀p∈st'.F,st.get p.1=p.2∧bY (fun i=>i≠b) p.2) (hec:∀x∈es,∀d∈x,bY (fun i=>i≠b) d) (hσb:lk st'.σ b=some (.aI e sz es.length)) (hσ:∀i,i≠b→(lk st.σ i=none∧lk st'.σ i=none)∨∃x x',lk st.σ i=some x∧lk st'.σ i=some x'∧ArB b sz es x x') (he:e<1000000:=by decide):Weak ent st st':=by
 rintro P E N a w ⟨γ,h1,h2,h3,h4,h5,h6⟩
 obtain⟨g,q1,q2⟩:=h2.hit hb
 have pO:=kL es hes
 cases q2 with
 | @arr e0 _ B cap z vs _ fz hB hl hh hr hf=>
  obtain⟨hff,hf2,hf3⟩:=hf
  obtain⟨rfl,rfl⟩:=zJ hff he
  have hcap:es.length≤cap∧z=sz:=by
   obtain⟨g0,qb1,qb2⟩:=h2.hit hk
   cases qb2 with
   |box ws _ _ _ hl0 _ hr0=>
    have hlt:i0<ws.size:=by rw[hl0];exact (acR.1 hi0).1
    have h0:=hr0 i0 _ _ hi0 (adr hlt)
    generalize ws[i0]=v0 at h0
    cases h0 with
    |arr hγ hn=>rw[q1] at hγ;cases hγ;exact⟨hn,rfl⟩
  obtain⟨hcap,rfl⟩:=hcap
  rw[pO] at hl
  have hle:es.length * z≤vs.size:=by omega
  have htl:(vs.toList.take (es.length * z)).length=es.length * z:=by rw[adg];exact amv (by simpa using hle)
  let v:Value:= .slice (some ⟨B,0,none⟩) es.length cap
  let g':G:= .aI z e v es.length
  have hM:∀B' off,aA E.M (upd γ b (some g')) B' off→aA E.M γ B' off:=by
   rintro B' off (hm | ⟨i,gi,hg,hw⟩)
   ·exact .inl hm
   ·by_cases hi:i=b
    ·subst hi;rw[upd_same] at hg;cases hg
     have:=hw.1
     simp only[v,Value.ownBlock,abr] at this
     exact .inr ⟨i,_,q1,this.symm⟩
    ·rw[bn _ _ hi] at hg;exact .inr ⟨i,gi,hg,hw⟩
  have hother:∀i,i≠b→upd γ b (some g') i=γ i:=fun i hi=>bn _ _ hi
  have hback:∀i gi,upd γ b (some g') i=some gi→∃g0,γ i=some g0∧g0.block=gi.block:=by
   intro i gi hg
   by_cases hi:i=b
   ·subst hi;rw[upd_same] at hg;cases hg;exact⟨_,q1,rfl⟩
   ·rw[hother i hi] at hg;exact⟨gi,hg,rfl⟩
  have move:∀{d:D} {u:Value},Rep (aA E.M γ) γ w d u→bY (fun i=>i≠b) d→Rep (aA E.M (upd γ b (some g'))) (upd γ b (some g')) w d u:=
   fun hd hc=>(hd.restrict hother hc).sub hM
  have turn:∀{d d':D} {u:Value},Rep (aA E.M γ) γ w d u→ArD b z es d d'→Rep (aA E.M (upd γ b (some g'))) (upd γ b (some g')) w d' u:=by
   intro d d' u h0 r3
   rcases r3 with⟨rfl,hc⟩ | ⟨rfl,rfl⟩
   ·exact move h0 hc
   ·cases h0 with
    | arr hγ hn=>
      rw[q1] at hγ;cases hγ
      refine .slice (vs.toList.take (es.length * z)) hes htl (fun _=>rfl) (fun j u hu=>?_) (fun i j x d u c1 c2 c3=>?_) hn (fun t ht=>?_)
      ·have hj:j<es.length * z:=by have:=(acR.1 hu).1;omega
       have hu':vs[j]?=some u:=by rw[ag3,if_pos hj] at hu;simpa using hu
       refine⟨by rw[cell_of_row w B (0+j) vs e _ hB,ade];exact hu',?_,(hh j u (by rw[pO];omega) hu').1⟩
       rintro (hm | ⟨i,gi,hg,hw⟩)
       ·exact h2.apart b _ B _ q1 rfl hm
       ·by_cases hi:i=b
        ·subst hi;rw[upd_same] at hg;cases hg
         have:=hw.2;simp only[ade] at this;omega
        ·rw[hother i hi] at hg
         exact hi (h2.dist i b gi _ B hg q1 (G.jR hw) rfl)
      ·have hfg:=flat_get es hes i j x d c1 c2
       have hlt:=(acR.1 hfg).1
       have c3':vs[i * z+j]?=some u:=by rw[ag3,if_pos (by omega)] at c3;simpa using c3
       exact move (hr (i * z+j) d u hfg c3') (hec x (ac8 c1) d (ac8 c2))
      ·cases ht
       exact⟨z,e,v,es.length,upd_same _ _ _,ag4 _,fun _=>rfl⟩
  refine⟨upd γ b (some g'),h1,⟨fun i=>?_,fun i i' gi gi' B' a1 a2 a3 a4=>?_,h2.outer,fun i gi B' off a1 a2=>?_,h2.inv,fun i gi B' a1 a2=>?_,h2.big⟩,?_,h4,h5.back (fun b g B q1 q2=>by obtain⟨g0,r1,r2⟩:=hback _ _ q1;exact⟨b,g0,r1,r2.trans q2⟩),fun k=>?_⟩
  ·by_cases hi:i=b
   ·subst hi
    exact .inl ⟨_,g',hσb,upd_same _ _ _,.aI (vs.toList.take (es.length * z)) ⟨htl,.inr ⟨B,cap,vs,rfl,ada _,hB,hcap,hf3,hf2,rfl⟩⟩⟩
   ·show (∃blk g,lk st'.σ i=some blk∧_)∨(lk st'.σ i=none∧_)
    rw[hother i hi]
    rcases hσ i hi with⟨a1,a2⟩ | ⟨x,x',a1,a2,a3⟩
    ·exact .inr ⟨a2,h2.miss a1⟩
    ·obtain⟨gi,c1,c2⟩:=h2.hit a1
     refine .inl ⟨x',gi,a2,c1,?_⟩
     have gen:x'=x∧aB (fun i=>i≠b) x→dh (aA E.M (upd γ b (some g'))) (upd γ b (some g')) w x' gi:=by
      rintro ⟨rfl,hc⟩
      exact (c2.restrict hother hc).JU ⟨fun _ _ _ _ h=>h,fun B' off h _=>hM B' off h,fun _ g h=>⟨g,h,G.le_refl g⟩⟩ (fun _ _=>rfl)
     cases x with
     |box T cs=>
      cases x' with
      |box T' cs'=>
       obtain⟨rfl,hu⟩:=a3
       obtain⟨hlen,hat⟩:=hu.at
       cases c2 with
       |box ws _ fz hB' hl' hh' hr'=>
        refine .box ws _ fz hB' (by omega) hh' (fun j x v hx hv=>?_)
        obtain⟨d0,s1,s2⟩:=hat j x hx
        exact turn (hr' j d0 v s1 hv) s2
      | _=>exact absurd a3.1 (by simp)
     | _=>cases x' <;> exact gen a3
  ·obtain⟨g1,b1,b2⟩:=hback _ _ a1
   obtain⟨g2,b3,b4⟩:=hback _ _ a2
   exact h2.dist i i' g1 g2 B' b1 b3 (b2.trans a3) (b4.trans a4)
  ·obtain⟨g1,b1,b2⟩:=hback _ _ a1
   exact h2.apart i g1 B' off b1 (b2.trans a2)
  ·obtain⟨g1,b1,b2⟩:=hback _ _ a1
   exact h2.low i g1 B' b1 (b2.trans a2)
  ·refine⟨h3.os,h3.tape,h3.output,h3.size,h3.cell,fun B' off a1 a2=>h3.wr B' off (hM B' off a1) a2,fun i gi hg=>?_,h3.block,fun i gi B' a1 a2 a3=>?_⟩
   ·have hi:i≠b:=fun e=>hent (e ▸ h1 i gi hg)
    obtain⟨g1,b1,b2⟩:=h3.names i gi hg
    exact⟨g1,(hother i hi).trans b1,b2⟩
   ·obtain⟨g1,b1,b2⟩:=hback _ _ a1
    exact h3.old i g1 B' b1 (b2.trans a2) a3
  ·have h0:=h6 k
   show Rep _ _ _ ((lk st'.F k).getD .junk) _
   cases hl2:lk st'.F k with
   |none=>exact .junk _
   |some d=>
    obtain⟨r1,r2⟩:=hF _ (iZ _ _ _ hl2)
    dsimp only at r1 r2
    rw[r1] at h0
    exact move h0 r2
theorem Weak.ren {st st':St}{f g:Nat→Nat}(h:∀n,g (f n)=n)(hF:∀p∈st'.F,p.2=bK f (st.get p.1))(hσ:∀b,lk st'.σ b=lk (kC f st.σ) b):Weak [] st st':=by
 rintro P E N a w ⟨γ,h1,h2,h3,h4,h5,h6⟩
 have hent:∀b,E.γ b=none:=fun b=>by
  cases h:E.γ b with
  |none=>rfl
  |some g=>exact absurd (h1 b g h) (by simp)
 have hst:lk st'.σ=lk (kC f st.σ):=funext hσ
 refine⟨fwd f g γ,h1,by rw[hst];exact Store.forth h h2,?_,h4,h5.back (fun c x B hc hB=>⟨g c,x,(qH hc).2,hB⟩),fun k=>?_⟩
 ·refine⟨h3.os,h3.tape,h3.output,h3.size,h3.cell,fun B off hm hlt=>h3.wr B off ((rM h γ B off).1 hm) hlt,fun b x hx=>(by rw[hent] at hx;cases hx),h3.block,fun c x B hc hB hlt=>?_⟩
  exact h3.old (g c) x B (qH hc).2 hB hlt
 ·show Rep _ _ _ ((lk st'.F k).getD .junk) _
  cases hl:lk st'.F k with
  |none=>exact .junk _
  |some d=>
   have hd:=hF _ (iZ _ _ _ hl)
   dsimp only at hd
   rw[alb,hd]
   exact ((h6 k).ren (γ':=fwd f g γ) (f:=f) (fun b y hy=>(wI h γ b).trans hy)).same (fun B off=>rM h γ B off)
end Go.Id
