import Derived.Test.YtekopfoidhhedaaGreatDoorG02
import Derived.Lib.ConvBytes
import Derived.Laws.MakeOwn
import Derived.Laws.Runes
set_option linter.unusedVariables false
set_option linter.unusedSimpArgs false
set_option linter.unnecessarySimpa false
namespace Go.Id
open Go
section
variable {P:gy} {E:CW P} {ent:List Nat} {N:Nat} {F:Nat→D} {σ:Nat→Option aU} {a:Act} {w:World}
theorem Rel.newRow (h:Rel E ent N F σ a w){b:Nat}(hb:σ b=none){e0 e:TypeId}{fz:Nat × Nat}{sz cap n:Nat}{cur:Array Value}{w':World}(ho:w'.os=w.os)(ht:w'.tape=w.tape)(hout:w'.output=w.output)(hsz:w.heap.size≤w'.heap.size)
  (hold:∀k,k<w.heap.size→w'.heap[k]?=w.heap[k]?) (hB:w'.heap[w.heap.size]?=some (.cells cur e0 fz)) (hf:(fz=(0,0)∧e0=e)∨(cur.size≤fz.1∧e=e0+FZ)) (hcs:cur.size=cap * sz) (hcm:cap≤maxLen) (hn:n≤cap) {cs:List D}
  (hcl:cs.length≤cur.size) (h1:∀(i:Nat) v,cur[i]?=some v→v.oneCell'=true) (hr:∀(i:Nat) d v,cs[i]?=some d→cur[i]?=some v→∀(M:Nat→Nat→Prop) (γ:Nat→Option G) (w:World),Rep M γ w d v) (dst:Option Tmp) (hdst:∀t,dst=some t→t<N):
  Rel E ent N (oN F dst (.arr b sz n)) (upd σ b (some (.arr e cs))) (a.put dst (.slice (some ⟨w.heap.size,0,none⟩) n cap)) w':=by
 obtain⟨γ,h1',h2,h3,h4,h5,h6⟩:=h
 have hv:=aQ.fresh h2 hb (.arr w.heap.size cap sz) w' ho ht hout hsz hold (fun B hB=>by simp[G.block] at hB;omega)
 have hst:=h2.change b (.arr e cs) (.arr w.heap.size cap sz) w' hv (fun i gi B hi hg hB=>hold B (h2.lt hg hB)) (fun B hB=>by simp[G.block] at hB;omega)
  (.arr cur e fz hB hcl (fun i v hi hv=>⟨h1 i v hv,frz hf hB (by omega)⟩) (fun i d v hd hv=>hr i d v hd hv _ _ _) ⟨hf,hcs,hcm⟩)
 exact⟨_,h1',hst,h3.trans hv,by rw[gW];exact h4,by rw[put_defers];exact h5.bZ hv,jR (by rw[h4];exact hdst) (.arr (upd_same _ _ _) hn) (fun t=>(h6 t).bZ hv)⟩
end
section
variable {P:gy} {ent:List Nat} {N:Nat} {Q:Exit→St→Prop} {st:St}
theorem Pq {id:Nat}{ops:Array Oper}(n:Nat){o:Oper}{os2:List Oper}(R:St→(St→D→Prop)→Prop)(hd:dX N ops=true)(hos:ops.toList.drop n=o::os2)(hg:o.guard=none)
  (hpl:∀(Fe:Fence) (a:Act),o.semAt Fe.round a.eval=execOp a.eval o)
  (hR:∀(st':St) (K:St→D→Prop) (E:CW P) (a:Act) (w:World),Rel E ent N st'.get (lk st'.σ) a w→R st' K→∃v w' s d,(execOp a.eval o).run P.prog w= .ok (.value v) w'∧Rel E ent N (s.put o.dst d).get (lk (s.put o.dst d).σ) (a.put o.dst v) w'∧K s d)
  (h:∀K:St→List bP→Prop,(∀st' rs,R st' (fun s d=>∀K2:St→List bP→Prop,(∀s' r,Q .normal s'→K2 s' r)→ah P ops os2 (s.put o.dst d) [] K2)→K st' rs)→ah P ops (ops.toList.take n) st [] K):
  WP P ent N (.region id ops false) Q st:=by
 intro Fe nf hF E a w hr
 have hlt:n<ops.toList.length:=by
  rcases Nat.lt_or_ge n ops.toList.length with h|h
  ·exact h
  ·rw[List.drop_eq_nil_of_le h] at hos;cases hos
 have htk:(ops.toList.take n).length=n:=by rw[List.length_take];omega
 refine uq hF.1 hd (ops.toList.take n) (o::os2) (by rw[← hos,List.take_append_drop]) h hr ?_
 rintro st' a' w' ak5 hr' hkeep
 rw[htk]
 have hko:ops[n]?=some o:=by
  have:(ops.toList.drop n)[0]?=some o:=by rw[hos];rfl
  simpa [List.getElem?_drop] using this
 rw[List.length_cons,List.range'_succ]
 obtain⟨v,w2,s,d,hrun,hrel,hk⟩:=hR st' _ E a' w' hr' ak5
 refine nS hko hg ⟨fun f _=>hF.1.fn f,?_⟩
 rw[hpl,hrun]
 show wpOpsIn _ _ _ _ _ _ _ _
 exact Iz hF.1 hd (n+1) os2 (by rw[List.drop_add_one_eq_tail_drop,hos];rfl) (Q:=fun st'=>Q .normal st') hk hrel (fun st' a' w' hq hr' _=>⟨st',hq,hr'⟩)
theorem Aj (F:List (Nat × D))(σ:List (Nat × aU))(dst:Option Tmp)(d:D):((⟨F,σ⟩:St).put dst d).get=oN (⟨F,σ⟩:St).get dst d:=get_put _ _ _
theorem Ew {b:Nat}{x:aU}{σ:List (Nat × aU)}:lk ((b,x)::σ)=upd (lk σ) b (some x):=by
 funext k;simp only[lk,upd]
def afF (P:gy)(t:TypeId)(l c:Operand)(st:St)(K:St→D→Prop):Prop:=
 ∃e sz by' n b z kl kc,bV P.prog t=some (e,sz,by')∧g_ P.prog e=true∧gV P.prog e=some z∧z.length=sz∧bQ st.get l= .int kl (n:Nat)∧bQ st.get c= .int kc (n:Nat)∧n * by'≤281474976710656∧n≤9223372036854775807∧lk st.σ b=none∧
  K ⟨st.F,(b,.arr e (List.replicate n z).flatten)::st.σ⟩ (.arr b sz n)
theorem WP.WO {id:Nat}{ops:Array Oper}(n:Nat){o:Oper}{os2:List Oper}{t:TypeId}{l c:Operand}(hd:dX N ops=true)(hos:ops.toList.drop n=o::os2)(hg:o.guard=none)(hop:o.op= .makeSlice t l c)
  (h:∀K:St→List bP→Prop,(∀st' rs,afF P t l c st' (fun s d=>∀K2:St→List bP→Prop,(∀s' r,Q .normal s'→K2 s' r)→ah P ops os2 (s.put o.dst d) [] K2)→K st' rs)→ah P ops (ops.toList.take n) st [] K):
  WP P ent N (.region id ops false) Q st:=by
 refine Pq n (afF P t l c) hd hos hg (fun Fe a=>Oper.semAt_plain Fe _ _ (by rw[hop];intro c hc;cases hc)) ?_ h
 rintro st' K E a w hr ⟨e,sz,by',m,b,z,kl,kc,he,hok,hz,hzl,hl,hc,hby,h63,hb,hK⟩
 have hdst:=dH hd (o:=o) (by
  have:o∈ops.toList.drop n:=by rw[hos];simp
  simpa using List.mem_of_mem_drop this)
 obtain⟨i,ht,hi,rfl,rfl⟩:=fB he
 obtain⟨i',zv,hi',hzv,hzs⟩:=nN hok
 rw[hi] at hi';cases hi'
 obtain⟨i',zv',hi',aiW,hzc⟩:=uf hz
 rw[hi] at hi';cases hi'
 rw[hzv] at aiW;cases aiW
 have hr0:=hr
 obtain⟨γ,_,_,_,_,_,h6⟩:=hr0
 have hlv:=int_inj (by have:=iF h6 l;rwa [hl] at this)
 have hcv:=int_inj (by have:=iF h6 c;rwa [hc] at this)
 have hrun:=run_make (P:=P.prog) w t e i zv ht hi hzv kl kc m m (by omega) (Int.le_refl _) (by
  have:((m * i.bytes:Nat):Int)≤281474976710656:=by omega
  rw[Int.natCast_mul] at this;rw[Int.mul_comm];exact this) (by omega)
 simp only[Int.toNat_natCast] at hrun
 have hcells:∀(j:Nat) v,(madeCells zv.cells (m * i.size))[j]?=some v→j<m * i.size∧zv.cells[j % i.size]?=some v:=by
  intro j v hv
  have hj:=(Array.getElem?_eq_some_iff.1 hv).1
  rw[size_madeCells] at hj
  have hpos:0<i.size:=by
   rcases Nat.eq_zero_or_pos i.size with q|q
   ·rw[q] at hj;simp at hj
   ·exact q
  have hlt:j % zv.cells.size<zv.cells.size:=Nat.mod_lt _ (by omega)
  refine⟨hj,?_⟩
  simp only[madeCells,Array.getElem?_map,Array.getElem?_range,if_pos hj,Option.map_some,Option.some.injEq] at hv
  rw[getElem!_pos zv.cells (j % zv.cells.size) hlt] at hv
  rw[← hv,← hzs,Array.getElem?_eq_getElem hlt]
 obtain⟨c1,c2,c3⟩:=(jy (M:=fun _ _=>False) (γ:=fun _=>none) (w:=w) zv).cells hzc
 have hex:(execOp a.eval o).run P.prog w= .ok (.value (.slice (some ⟨w.heap.size,0,none⟩) m m)) (w.alloc (.cells (madeCells zv.cells (m * i.size)) e)):=by
  simp only[execOp,hop,hlv,hcv,Sem.run_bind,hrun,Result.andThen_ok];rfl
 refine⟨_,_,_,_,hex,?_,hK⟩
 ·rw[Aj,put_σ,Ew]
  refine hr.newRow (w':=w.alloc (.cells (madeCells zv.cells (m * i.size)) e)) hb rfl rfl rfl (by simp) (bJ w _) (heap_alloc_new w _) (.inl ⟨rfl,rfl⟩) (size_madeCells _ _) h63 (Nat.le_refl _) ?_ ?_ ?_ o.dst hdst
  ·rw[size_madeCells,kJ _ (sz:=i.size) (fun x hx=>by rw[(List.mem_replicate.1 hx).2];exact hzl),List.length_replicate];exact Nat.le_refl _
  ·intro j v hv
   exact c2 _ v (hcells j v hv).2
  ·intro j d v hd' hv M γ' w2
   obtain⟨x,r1,r2⟩:=xP (sz:=i.size) (List.replicate m z) (fun x hx=>by rw[(List.mem_replicate.1 hx).2];exact hzl) j d hd'
   have hx:=(List.mem_replicate.1 (List.mem_of_getElem? r1)).2
   subst hx
   obtain⟨b1,b2,b3⟩:=(jy (M:=M) (γ:=γ') (w:=w2) zv).cells hzc
   exact b3 _ d v r2 (hcells j v hv).2
def aar (P:gy)(src dst:TypeId)(x:Operand)(st:St)(K:St→D→Prop):Prop:=
 ∃e by' s b,isStr P.prog src=true∧bV P.prog dst=some (e,1,by')∧jJ P.prog e=some .u8∧bQ st.get x= .str s∧s.length≤9223372036854775807∧lk st.σ b=none∧
  K ⟨st.F,(b,.arr (e+FZ) (s.map fun c=> .int .u8 c.toNat))::st.σ⟩ (.arr b 1 s.length)
theorem WP.aas {id:Nat}{ops:Array Oper}(n:Nat){o:Oper}{os2:List Oper}{src dst:TypeId}{x:Operand}(hd:dX N ops=true)(hos:ops.toList.drop n=o::os2)(hg:o.guard=none)(hop:o.op= .convert src dst x)
  (h:∀K:St→List bP→Prop,(∀st' rs,aar P src dst x st' (fun s d=>∀K2:St→List bP→Prop,(∀s' r,Q .normal s'→K2 s' r)→ah P ops os2 (s.put o.dst d) [] K2)→K st' rs)→ah P ops (ops.toList.take n) st [] K):
  WP P ent N (.region id ops false) Q st:=by
 refine Pq n (aar P src dst x) hd hos hg (fun Fe a=>Oper.semAt_plain Fe _ _ (by rw[hop];intro c hc;cases hc)) ?_ h
 rintro st' K E a w hr ⟨e,by',s,b,hsrc,he,hk,hx,h63,hb,hK⟩
 have hdst:=dH hd (o:=o) (by
  have:o∈ops.toList.drop n:=by rw[hos];simp
  simpa using List.mem_of_mem_drop this)
 obtain⟨i,ht,hi,_,_⟩:=fB he
 have hr0:=hr
 obtain⟨γ,_,_,_,_,_,h6⟩:=hr0
 obtain⟨bs,hbv,hbs⟩:=str_inj (by have:=iF h6 x;rwa [hx] at this)
 have hlen:bs.size=s.length:=by rw[← hbs,Array.length_toList];rfl
 have hrun:=Lib.run_convert_string_bytes (P:=P.prog) w src dst e bs (iC hsrc) ht (mP hk)
 have hge:=grownCap_ge w bs.size 0 e
 have hle:=grownCap_le_maxLen w bs.size 0 e (by rw[hlen];exact h63)
 have hsize:(Lib.bytesCells w e bs).size=grownCap w bs.size 0 e:=by
  simp[Lib.bytesCells]
  have:bs.data.size=bs.size:=rfl
  omega
 have hat:∀(j:Nat) v,(Lib.bytesCells w e bs)[j]?=some v→(∃c,s[j]?=some c∧v= .int .u8 c.toNat)∨(s.length≤j∧v= .int .u8 0):=by
  intro j v hv
  simp only[Lib.bytesCells,Array.getElem?_append,Array.size_map] at hv
  split at hv
  ·rw[Array.getElem?_map,Option.map_eq_some_iff] at hv
   obtain⟨c,h1,h2⟩:=hv
   exact .inl ⟨c,by rw[← hbs,Array.getElem?_toList];exact h1,h2.symm⟩
  ·rename_i hj
   have h2:=Array.mem_of_getElem? hv
   rw[Array.mem_replicate] at h2
   refine .inr ⟨?_,h2.2⟩
   have:bs.data.size=bs.size:=rfl
   omega
 have hex:(execOp a.eval o).run P.prog w= .ok (.value (.slice (some ⟨w.heap.size,0,none⟩) bs.size (grownCap w bs.size 0 e))) (Lib.bytesWorld w e bs):=by
  simp only[execOp,hop,hbv,Sem.run_bind,hrun,Result.andThen_ok];rfl
 refine⟨_,_,_,_,hex,?_,hK⟩
 ·rw[Aj,put_σ,Ew,hlen]
  refine hr.newRow (w':=Lib.bytesWorld w e bs) hb rfl rfl rfl (by rw[Lib.bytesWorld_size];omega) (fun k hk=>Lib.bytesWorld_at_old w e bs k hk) (Lib.bytesWorld_at_new w e bs) (.inr ⟨Nat.le_refl _,rfl⟩) (by rw[hsize,hlen,Nat.mul_one]) (by rw[← hlen];exact hle) (by rw[← hlen];exact hge) ?_ ?_ ?_ o.dst hdst
  ·rw[List.length_map,hsize,← hlen];exact hge
  ·intro j v hv
   rcases hat j v hv with⟨c,_,rfl⟩ | ⟨_,rfl⟩ <;> rfl
  ·intro j d v hd' hv M γ' w2
   rw[List.getElem?_map,Option.map_eq_some_iff] at hd'
   obtain⟨c,h1,rfl⟩:=hd'
   rcases hat j v hv with⟨c',h2,rfl⟩ | ⟨h2,_⟩
   ·rw[h1] at h2;cases h2;exact .int _ _
   ·rw[List.getElem?_eq_none h2] at h1;cases h1
def aiX (P:gy)(src dst:TypeId)(x:Operand)(st:St)(K:St→D→Prop):Prop:=
 ∃e e1 by' s b rest,isStr P.prog dst=true∧bV P.prog src=some (e,1,by')∧jJ P.prog e=some .u8∧bQ st.get x= .arr b 1 s.length∧lk st.σ b=some (.arr e1 ((s.map fun (c:UInt8)=>D.int .u8 c.toNat)++rest))∧K st (.str s)
theorem WP.agR {id:Nat}{ops:Array Oper}(n:Nat){o:Oper}{os2:List Oper}{src dst:TypeId}{x:Operand}(hd:dX N ops=true)(hos:ops.toList.drop n=o::os2)(hg:o.guard=none)(hop:o.op= .convert src dst x)
  (h:∀K:St→List bP→Prop,(∀st' rs,aiX P src dst x st' (fun s d=>∀K2:St→List bP→Prop,(∀s' r,Q .normal s'→K2 s' r)→ah P ops os2 (s.put o.dst d) [] K2)→K st' rs)→ah P ops (ops.toList.take n) st [] K):
  WP P ent N (.region id ops false) Q st:=by
 refine Pq n (aiX P src dst x) hd hos hg (fun Fe a=>Oper.semAt_plain Fe _ _ (by rw[hop];intro c hc;cases hc)) ?_ h
 rintro st' K E a w hr ⟨e,e1,by',s,b,rest,hs,he,hk,hx,hb,hK⟩
 have hdst:=dH hd (o:=o) (by
  have:o∈ops.toList.drop n:=by rw[hos];simp
  simpa using List.mem_of_mem_drop this)
 have hr0:=hr
 obtain⟨γ,h1,h2,h3,h4,h5,h6⟩:=hr
 obtain⟨g,q1,q2⟩:=h2.hit hb
 have hxv:=iF h6 x
 rw[hx] at hxv
 cases q2 with
 | @arr _ _ B cap zz vs _ fz hB hl hh hrr hf=>
 obtain⟨cap',hcap',hav⟩:∃cap',s.length≤cap'∧a.eval x= .slice (some ⟨B,0,none⟩) s.length cap':=by
  generalize a.eval x=v at hxv
  cases hxv with
  |arr hγ hn=>rw[q1] at hγ;cases hγ;exact⟨_,hn,rfl⟩
 simp only[List.length_append,List.length_map] at hl
 have hsl:Rep (fun _ _=>False) γ w (.slice 1 false (eY s) none) (.slice (some ⟨B,0,none⟩) (eY s).length cap'):=by
  refine .slice (vs.toList.take s.length) (by simp[eY]) (by simp[eY];omega) (fun _=>rfl) (fun j v hv=>⟨?_,fun h=>h,?_⟩) (fun i j e d v he hdd hv=>?_) (by simpa [eY] using hcap') (fun t e=>by cases e)
  ·have hj:j<s.length:=by have:=(List.getElem?_eq_some_iff.1 hv).1;simp at this;omega
   rw[List.getElem?_take,if_pos hj] at hv
   have hv':vs[j]?=some v:=by simpa using hv
   simp[World.cell?,hB,hv']
  ·have hj:j<s.length:=by have:=(List.getElem?_eq_some_iff.1 hv).1;simp at this;omega
   rw[List.getElem?_take,if_pos hj] at hv
   exact (hh j v (by simp;omega) (by simpa using hv)).1
  ·simp only[eY,List.getElem?_map] at he
   obtain⟨c,hcc,rfl⟩:=Option.map_eq_some_iff.1 he
   have hi:=(List.getElem?_eq_some_iff.1 hcc).1
   match j with
   | 0=>
    simp at hdd;subst hdd
    simp only[Nat.mul_one,Nat.add_zero] at hv
    rw[List.getElem?_take,if_pos hi] at hv
    have hv':vs[i]?=some v:=by simpa using hv
    have:=hrr i (.int .u8 c.toNat) v (by rw[List.getElem?_append_left (by simpa using hi),List.getElem?_map,hcc];rfl) hv'
    rw[int_inj this]
    exact .int _ _
   |j+1=>simp at hdd
 have hcv:Ib P.prog src dst (.slice 1 false (eY s) none)=some (.str s):=by
  unfold Ib
  simp[hs,he,hk,qO]
 obtain⟨r,hrn,agO⟩:=Di hcv hsl
 have hlu:(eY s).length=s.length:=by simp[eY]
 rw[hlu] at hrn
 refine⟨r,w,_,_,?_,?_,hK⟩
 ·simp only[execOp,hop,hav,Sem.run_bind,hrn,Result.andThen_ok];rfl
 ·rw[get_put,put_σ]
  refine⟨γ,h1,h2,h3,by rw[gW];exact h4,by rw[put_defers];exact h5,jR (by rw[h4];exact hdst) ?_ h6⟩
  obtain⟨b',e1,e2⟩:=str_inj agO
  rw[e1,← e2]
  exact .str _
end
end Go.Id
namespace Go.Id
open Go
section
variable {P:gy} {ent:List Nat} {N:Nat} {Q:Exit→St→Prop} {st:St}
def afG (P:gy)(src dst:TypeId)(x:Operand)(st:St)(K:St→D→Prop):Prop:=
 ∃k k' n,jJ P.prog src=some k∧isStr P.prog dst=true∧bQ st.get x= .int k' n∧K st (.str (Utf8.encode n).data.toList)
theorem WP.adO {id:Nat}{ops:Array Oper}(n:Nat){o:Oper}{os2:List Oper}{src dst:TypeId}{x:Operand}(hd:dX N ops=true)(hos:ops.toList.drop n=o::os2)(hg:o.guard=none)(hop:o.op= .convert src dst x)
  (h:∀K:St→List bP→Prop,(∀st' rs,afG P src dst x st' (fun s d=>∀K2:St→List bP→Prop,(∀s' r,Q .normal s'→K2 s' r)→ah P ops os2 (s.put o.dst d) [] K2)→K st' rs)→ah P ops (ops.toList.take n) st [] K):
  WP P ent N (.region id ops false) Q st:=by
 refine Pq n (afG P src dst x) hd hos hg (fun Fe a=>Oper.semAt_plain Fe _ _ (by rw[hop];intro c hc;cases hc)) ?_ h
 rintro st' K E a w hr ⟨k,k',m,hk,hs,hx,hK⟩
 have hdst:=dH hd (o:=o) (by
  have:o∈ops.toList.drop n:=by rw[hos];simp
  simpa using List.mem_of_mem_drop this)
 obtain⟨γ,h1,h2,h3,h4,h5,h6⟩:=hr
 have hxv:=int_inj (by have:=iF h6 x;rwa [hx] at this)
 have hrn:=run_convert_int_string (P:=P.prog) w src dst k' m (by rw[mP hk];rfl) (iC hs)
 have hex:(execOp a.eval o).run P.prog w= .ok (.value (.string (Utf8.encode m))) w:=by
  simp only[execOp,hop,hxv,Sem.run_bind,hrn,Result.andThen_ok];rfl
 refine⟨_,w,_,_,hex,?_,hK⟩
 rw[get_put,put_σ]
 exact⟨γ,h1,h2,h3,by rw[gW];exact h4,by rw[put_defers];exact h5,jR (by rw[h4];exact hdst) (.str _) h6⟩
end
end Go.Id
namespace Go.Id
open Go
inductive G5 (σ:Nat→Option aU):D→D→Prop
 |str (s:List UInt8):G5 σ (.str s) (.str s)
 |int (k:IntKind) (n:Int):G5 σ (.int k n) (.int k n)
 |bool (b:Bool):G5 σ (.bool b) (.bool b)
 |nil (sz sz':Nat):G5 σ (.slice sz true [] none) (.slice sz' true [] none)
 | arr {b sz:Nat} {e:TypeId} {es es':List (List D)} {rest:List D} (hb:σ b=some (.arr e (es.flatten++rest))) (hsz:∀x∈es,x.length=sz) (hl:es'.length=es.length) (hsz':∀x∈es',x.length=sz) (h0:0<sz)
   (h:∀(i j:Nat) x y d d',es[i]?=some x→es'[i]?=some y→x[j]?=some d→y[j]?=some d'→G5 σ d d'):G5 σ (.arr b sz es.length) (.slice sz false es' none)
theorem G5.rep {M₀:Base}{γ:Nat→Option G}{σ:Nat→Option aU}{w:World}(h:Store M₀ γ σ w){d d':D}(hd:G5 σ d d'):∀v,Rep (aC M₀ γ) γ w d v→Rep (aC M₀ fun _=>none) (fun _=>none) w d' v:=by
 induction hd with
 |str s=>intro v hv;cases hv;exact .str _
 |int k n=>intro v hv;rw[int_inj hv];exact .int _ _
 |bool b=>intro v hv;rw[nO hv];exact .bool _
 |nil sz sz'=>intro v hv;cases hv;exact .nilslice (iK.none _ _ _)
 | @arr b sz e es es' rest hb hsz hl hsz' h0 _ ih=>
  intro v hv
  obtain⟨g,q1,q2⟩:=h.hit hb
  cases q2 with
  | @arr _ _ B cap z vs _ fz hB hlen hh hr hf=>
   cases hv with
   | @arr _ B2 _ _ cap2 hg hn=>
    rw[q1] at hg;cases hg
    have uX:=kJ es hsz
    rw[List.length_append,uX] at hlen
    have hle:es.length * sz≤vs.size:=by omega
    have htl:(vs.toList.take (es.length * sz)).length=es.length * sz:=by rw[List.length_take];exact Nat.min_eq_left (by simpa using hle)
    have hMB:∀off,¬aC M₀ (fun _=>none) B off:=by
     rintro off (hm | ⟨i,g,hg,_⟩)
     ·exact h.apart b _ B off q1 rfl hm
     ·cases hg
    rw[← hl]
    refine Ad hB hsz' (vs.toList.take (es.length * sz)) (by rw[htl,hl]) (by rw[hl]) (fun u hu=>?_) (fun off _=>hMB off) (fun i j x d u r1 r2 r3=>?_) (by rw[hl];exact hn) (iK.none _ _ _)
    ·obtain⟨i,hi,rfl⟩:=List.mem_iff_getElem.1 hu
     rw[List.getElem_take]
     exact (hh i _ (by rw[List.length_append,uX];omega) (by rw[← Array.getElem?_toList];exact List.getElem?_eq_getElem (by simp at hi ⊢;omega))).1
    ·have hi:i<es.length:=by rw[← hl];exact (List.getElem?_eq_some_iff.1 r1).1
     have hx:=List.getElem?_eq_getElem hi
     have hxl:es[i].length=sz:=hsz _ (List.getElem_mem hi)
     have hj:j<sz:=by have:=(List.getElem?_eq_some_iff.1 r2).1;rw[hsz' x (List.mem_of_getElem? r1)] at this;exact this
     have hdj:=List.getElem?_eq_getElem (show j<es[i].length by omega)
     have hfg:=flat_get es hsz i j _ _ hx hdj
     have hlt:=(List.getElem?_eq_some_iff.1 hfg).1
     have hu:vs[i * sz+j]?=some u:=by
      rw[List.getElem?_take,if_pos (by omega)] at r3;simpa using r3
     exact ih i j _ x _ d hx r1 hdj r2 u (hr _ _ u (by rw[List.getElem?_append_left hlt];exact hfg) hu)
theorem Weak.thaw {st st':St}(hσ':st'.σ=[])(hF:∀p∈st'.F,G5 (lk st.σ) (st.get p.1) p.2):Weak [] st st':=by
 rintro P E N a w ⟨γ,h1,h2,h3,h4,h5,h6⟩
 have hent:∀b,E.γ b=none:=fun b=>by
  cases h:E.γ b with
  |none=>rfl
  |some g=>exact absurd (h1 b g h) (by simp)
 have hM:∀B off,aC E.M (fun _=>none) B off→aC E.M γ B off:=by
  rintro B off (hm | ⟨i,g,hg,_⟩)
  ·exact .inl hm
  ·cases hg
 refine⟨fun _=>none,fun b g hg=>(by rw[hent] at hg;cases hg),?_,?_,h4,h5.sub (fun i g hg=>(by cases hg)),fun k=>?_⟩
 ·rw[hσ']
  exact⟨fun i=> .inr ⟨rfl,rfl⟩,fun i i' g g' B a1=>(by cases a1),h2.outer,fun i g B off a1=>(by cases a1),h2.inv,fun i g B a1=>(by cases a1),h2.big⟩
 ·exact⟨h3.os,h3.tape,h3.output,h3.size,h3.cell,fun B off q1 q2=>h3.wr B off (hM B off q1) q2,fun b g hg=>(by rw[hent] at hg;cases hg),h3.block,fun b g B q1=>(by cases q1)⟩
 ·show Rep _ _ _ ((lk st'.F k).getD .junk) _
  cases hl:lk st'.F k with
  |none=>exact .junk _
  |some d=>
   have hd:=hF _ (iZ _ _ _ hl)
   dsimp only at hd
   exact hd.rep h2 _ (h6 k)
def nT (ls:List (List UInt8)):List (List D):=ls.map fun x=>[D.str x]
theorem qh (ls:List (List UInt8)):(nT ls).length=ls.length:=by simp[nT]
def TqD (σ σ':Nat→Option aU)(e:TypeId)(d d':D):Prop:=
 (∃s,d= .str s∧d'= .str s)∨∃t ls,d= .slice 1 false (nT ls) (some t)∧d'= .arr t 1 ls.length∧σ t=some (.aS e 1 ls.length)∧σ' t=some (.arr e (ls.map .str))
theorem Weak.adP {st st':St}(r:Nat)(T e:TypeId)(z:Nat)(cs cs':List D)(hr:lk st.σ r=some (.arr T cs))(hr':lk st'.σ r=some (.arr T cs'))(hcl:cs'.length=cs.length)(hc:∀(i:Nat) d d',cs[i]?=some d→cs'[i]?=some d'→TqD (lk st.σ) (lk st'.σ) e d d')
  (hF:∀p∈st'.F,∃n,p.2= .arr r z n∧st.get p.1=p.2) (hσ:∀i,i≠r→(lk st.σ i=none∧lk st'.σ i=none)∨∃(ls:List (List UInt8)) (j:Nat),lk st.σ i=some (.aS e 1 ls.length)∧lk st'.σ i=some (.arr e (ls.map .str))∧cs[j]?=some (.slice 1 false (nT ls) (some i))):Weak [] st st':=by
 rintro P E N a w ⟨γ,h1,h2,h3,h4,h5,h6⟩
 have hent:∀b,E.γ b=none:=fun b=>by
  cases h:E.γ b with
  |none=>rfl
  |some g=>exact absurd (h1 b g h) (by simp)
 obtain⟨gr,q1,q2⟩:=h2.hit hr
 cases q2 with
 | @arr e0 _ B cap zz vs _ fz hB hl hh hrr hf=>
  have head:∀(i:Nat) (ls:List (List UInt8)),lk st.σ i=some (.aS e 1 ls.length)→(∃j:Nat,cs[j]?=some (.slice 1 false (nT ls) (some i)))→∃(v:Value) (Bi uw:Nat) (cur:Array Value),γ i=some (.aS 1 e v ls.length)∧v= .slice (some ⟨Bi,0,none⟩) ls.length uw∧w.heap[Bi]?=some (.cells cur e (0,0))∧ls.length≤uw∧uw≤maxLen∧cur.size=uw * 1∧
    (∀(j:Nat) s,ls[j]?=some s→∃b:ByteArray,cur[j]?=some (.string b)∧b.data.toList=s)∧(∀(j:Nat) u,cs[j]?=some (.slice 1 false (nT ls) (some i))→vs[j]?=some u→u=v):=by
   rintro i ls ht ⟨j,hj⟩
   obtain⟨g,t1,t2⟩:=h2.hit ht
   cases t2 with
   | @aS _ _ _ v xs ho=>
    have hjl:j<vs.size:=by have:=(List.getElem?_eq_some_iff.1 hj).1;omega
    have key:∀(j:Nat) u,cs[j]?=some (.slice 1 false (nT ls) (some i))→vs[j]?=some u→u=v∧∃(ad:Addr) (c:Nat) (us:List Value),u= .slice (some ad) ls.length c∧us.length=ls.length∧(∀(k:Nat) x,us[k]?=some x→w.cell? ⟨ad.block,ad.off+k,none⟩=some x)∧∀(k:Nat) s x,ls[k]?=some s→us[k]?=some x→Rep (aC E.M γ) γ w (.str s) x:=by
     intro j u hj hu
     have hs:=hrr j _ u hj hu
     rcases aW hs with⟨_,_,hn⟩ | ⟨ad,c,us,rfl,_,_,hul,_,_,hcell,hrep,htip⟩
     ·cases hn
     ·obtain⟨_,_,v',n',p1,p2,p3⟩:=htip i rfl
      rw[t1] at p1
      simp only[Option.some.injEq,G.aS.injEq] at p1
      obtain⟨rfl,rfl,rfl,rfl⟩:=p1
      have hve:=p3 (qh ls)
      rw[qh] at hve hul
      refine⟨by rw[qh];exact hve,ad,c,us,by rw[qh],by omega,fun k x hx=>(hcell k x hx).1,fun k s x hk hx=>?_⟩
      exact hrep k 0 [.str s] (.str s) x (by simp[nT,List.getElem?_map,hk]) rfl (by simpa using hx)
    obtain⟨hv,ad,c,us,hu1,hul,hcell,hrep⟩:=key j _ hj (Array.getElem?_eq_getElem hjl)
    rw[hv] at hu1
    rcases ho.2 with⟨h0,_⟩ | ⟨Bi,uw,cur,hvB,_,hBi,hnc,hcm,hcs,htake⟩
    ·rw[h0] at hu1;cases hu1
    ·rw[hvB] at hu1
     simp only[Value.slice.injEq,Option.some.injEq,true_and] at hu1
     obtain⟨rfl,rfl⟩:=hu1
     refine⟨v,Bi,uw,cur,t1,hvB,hBi,hnc,hcm,hcs,fun k s hk=>?_,fun j u hj hu=>(key j u hj hu).1⟩
     have hkl:k<us.length:=by rw[hul];exact (List.getElem?_eq_some_iff.1 hk).1
     have hx:=List.getElem?_eq_getElem hkl
     have hc1:=hcell k _ hx
     simp only[Nat.zero_add] at hc1
     rw[cell_of_row w Bi k cur e _ hBi] at hc1
     obtain⟨b,hb1,hb2⟩:=str_inj (hrep k s _ hk hx)
     exact⟨b,by rw[hc1,hb1],hb2⟩
  let turn:G→G:=fun g=>match g with
   | .aS sz _ (.slice (some ad) _ c) _=> .arr ad.block c sz
   |g=>g
  let γ':Nat→Option G:=fun i=>if i=r then γ i else (γ i).map turn
  have hγr:γ' r=γ r:=by simp[γ']
  have hγi:∀i,i≠r→γ' i=(γ i).map turn:=fun i hi=>by simp[γ',hi]
  have names:∀i g,γ i=some g→i≠r→∃(ls:List (List UInt8)) (v:Value) (Bi uw:Nat) (cur:Array Value),lk st.σ i=some (.aS e 1 ls.length)∧lk st'.σ i=some (.arr e (ls.map .str))∧g= .aS 1 e v ls.length∧v= .slice (some ⟨Bi,0,none⟩) ls.length uw∧w.heap[Bi]?=some (.cells cur e (0,0))∧ls.length≤uw∧uw≤maxLen∧cur.size=uw * 1∧
    (∀(j:Nat) s,ls[j]?=some s→∃b:ByteArray,cur[j]?=some (.string b)∧b.data.toList=s)∧γ' i=some (.arr Bi uw 1):=by
   intro i g hg hi
   rcases hσ i hi with⟨a1,_⟩ | ⟨ls,j,a1,a2,a3⟩
   ·rw[h2.miss a1] at hg;cases hg
   ·obtain⟨v,Bi,uw,cur,b1,b2,b3,b4,b5,b6,b7,_⟩:=head i ls a1 ⟨j,a3⟩
    rw[hg] at b1;cases b1
    refine⟨ls,v,Bi,uw,cur,a1,a2,rfl,b2,b3,b4,b5,b6,b7,?_⟩
    rw[hγi i hi,hg,b2];rfl
  have xW:∀i g',γ' i=some g'→∃g,γ i=some g∧g.block=g'.block:=by
   intro i g' hg
   by_cases hi:i=r
   ·subst hi;rw[hγr] at hg;exact⟨g',hg,rfl⟩
   ·cases hgi:γ i with
    |none=>rw[hγi i hi,hgi] at hg;cases hg
    |some g=>
     obtain⟨ls,v,Bi,uw,cur,_,_,rfl,rfl,_,_,_,_,_,b8⟩:=names i g hgi hi
     rw[b8] at hg;cases hg
     exact⟨_,rfl,rfl⟩
  have hM:∀B' off,aC E.M γ B' off→aC E.M γ' B' off:=by
   rintro B' off (hm | ⟨i,g,hg,hw⟩)
   ·exact .inl hm
   ·by_cases hi:i=r
    ·subst hi;exact .inr ⟨i,g,hγr.trans hg,hw⟩
    ·obtain⟨ls,v,Bi,uw,cur,_,_,rfl,rfl,_,_,_,_,_,b8⟩:=names i g hg hi
     refine .inr ⟨i,_,b8,?_⟩
     have:=hw.1
     simp only[Value.ownBlock,Option.some.injEq] at this
     exact this.symm
  have hnew:∀i g' B',γ' i=some g'→g'.block=some B'→¬B' < E.w.heap.size:=by
   intro i g' B' hg hb hlt
   obtain⟨g,r1,r2⟩:=xW i g' hg
   obtain⟨b',g0,r3,_⟩:=h3.old i g B' r1 (r2.trans hb) hlt
   rw[hent] at r3;cases r3
  have ak7:∀{s:List UInt8} {u:Value} {M M':Nat→Nat→Prop} {γa γb:Nat→Option G} {wa wb:World},Rep M γa wa (.str s) u→Rep M' γb wb (.str s) u:=fun h=>by cases h;exact .str _
  refine⟨γ',fun b g hg=>?_,⟨fun i=>?_,fun i i' gi gi' B' a1 a2 a3 a4=>?_,h2.outer,fun i gi B' off a1 a2=>?_,h2.inv,fun i gi B' a1 a2=>?_,h2.big⟩,?_,h4,h5.back (fun b g B' a1 a2=>by obtain⟨g0,r1,r2⟩:=xW b g a1;exact⟨b,g0,r1,r2.trans a2⟩),fun k=>?_⟩
  ·rw[hent] at hg;cases hg
  ·by_cases hi:i=r
   ·subst hi
    refine .inl ⟨_,_,hr',hγr.trans q1,.arr vs _ fz hB (by omega) (fun j u hj hu=>hh j u (by omega) hu) (fun j d' u hd' hu=>?_) hf⟩
    have hj:j<cs.length:=by rw[← hcl];exact (List.getElem?_eq_some_iff.1 hd').1
    have hd:=List.getElem?_eq_getElem hj
    rcases hc j _ d' hd hd' with⟨s,e1,rfl⟩ | ⟨t,ls,e1,rfl,e2,e3⟩
    ·have:=hrr j _ u hd hu
     rw[e1] at this
     exact ak7 this
    ·rw[e1] at hd
     obtain⟨v,Bi,uw,cur,b1,b2,b3,b4,b5,b6,b7,b8⟩:=head t ls e2 ⟨j,hd⟩
     have hut:=b8 j u hd hu
     have htr:t≠i:=fun q=>by rw[q,q1] at b1;cases b1
     have hgt:γ' t=some (.arr Bi uw 1):=by rw[hγi t htr,b1,b2];rfl
     rw[hut,b2]
     exact .arr hgt b4
   ·rcases hσ i hi with⟨a1,a2⟩ | ⟨ls,j,a1,a2,a3⟩
    ·exact .inr ⟨a2,by rw[hγi i hi,h2.miss a1];rfl⟩
    ·obtain⟨g,hg,_⟩:=h2.hit a1
     obtain⟨ls',v,Bi,uw,cur,c1,c2,rfl,rfl,c5,c6,c7,c8,c9,c10⟩:=names i g hg hi
     rw[a2] at c2
     simp only[Option.some.injEq,aU.arr.injEq,true_and] at c2
     refine .inl ⟨_,_,a2,c10,.arr cur _ (0,0) c5 (by simp;rw[c8];have:=congrArg List.length c2;simp at this;omega) (fun k u hk hu=>⟨?_,by simp[World.frozen?,c5]⟩) (fun k d u hd hu=>?_) ⟨.inl ⟨rfl,rfl⟩,c8,c7⟩⟩
     ·rw[c2,List.length_map] at hk
      obtain⟨b,e1,_⟩:=c9 k _ (List.getElem?_eq_getElem hk)
      rw[hu] at e1;cases e1;rfl
     ·rw[c2,List.getElem?_map,Option.map_eq_some_iff] at hd
      obtain⟨s,hs,rfl⟩:=hd
      obtain⟨b,e1,e2⟩:=c9 k s hs
      rw[hu] at e1;cases e1
      exact qK e2
  ·obtain⟨g1,r1,r2⟩:=xW i gi a1
   obtain⟨g2,r3,r4⟩:=xW i' gi' a2
   exact h2.dist i i' g1 g2 B' r1 r3 (r2.trans a3) (r4.trans a4)
  ·obtain⟨g1,r1,r2⟩:=xW i gi a1
   exact h2.apart i g1 B' off r1 (r2.trans a2)
  ·obtain⟨g1,r1,r2⟩:=xW i gi a1
   exact h2.low i g1 B' r1 (r2.trans a2)
  ·refine⟨h3.os,h3.tape,h3.output,h3.size,h3.cell,fun B' off hm hlt=>?_,fun b g hg=>(by rw[hent] at hg;cases hg),h3.block,fun b g B' hg hb hlt=>absurd hlt (hnew b g B' hg hb)⟩
   rcases hm with hm | ⟨i,g,hg,hw⟩
   ·exact h3.wr B' off (.inl hm) hlt
   ·exact absurd hlt (hnew i g B' hg (G.jQ hw))
  ·show Rep _ _ _ ((lk st'.F k).getD .junk) _
   cases hl2:lk st'.F k with
   |none=>exact .junk _
   |some d=>
    obtain⟨n,r1,r2⟩:=hF _ (iZ _ _ _ hl2)
    dsimp only at r1 r2
    have h0:=h6 k
    rw[r2,r1] at h0
    rw[Option.getD_some,r1]
    generalize a.tmps.getD k undef=u at h0
    cases h0 with
    |arr hγ hn=>exact .arr (hγr.trans hγ) hn
end Go.Id
