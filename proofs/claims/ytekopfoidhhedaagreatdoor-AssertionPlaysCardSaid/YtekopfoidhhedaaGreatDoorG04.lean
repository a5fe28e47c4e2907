import Derived.Test.YtekopfoidhhedaaGreatDoorG03
set_option linter.unusedVariables false
set_option linter.unusedSimpArgs false
set_option linter.unnecessarySimpa false
namespace Go.Id
open Go
section
variable {P:Program} {M₀:Base} {γ:Nat→Option G} {σ:Nat→Option bf} {w:World} {ρ:Operand→D} {ρv:Operand→Value}
theorem AY {t:TypeId}(h:gI P t=true):∃e,P.underlying t=some (.slice e):=by
 unfold gI at h
 obtain⟨⟨e,sz,b⟩,he⟩:=akj.1 h
 obtain⟨i,h1,_⟩:=fU he
 exact⟨e,h1⟩
theorem abd {M:Nat→Nat→Prop}{x d:D}{t ty:TypeId}(h:lenD P t x=some d){v:Value}(hv:Rep M γ w x v):
  ∃r,(Builtin.len_ #[t] ty #[v]).run P w= .ok r w∧Rep M γ w d r:=by
 unfold lenD at h
 split at h <;> (try split at h) <;> simp only[abr,reduceCtorEq] at h <;> subst h
 ·rename_i s hst
  have hs:=iV hst
  obtain⟨b,rfl,rfl⟩:=str_inj hv
  have:b.data.toList.length=b.size:=by simp
  exact⟨_,by simp[Builtin.len_,run_underlying hs];rfl,by rw[this];exact .int _ _⟩
 ·rename_i a b es c hst
  obtain⟨e,he⟩:=AY hst
  rcases aZ hv with⟨rfl,rfl,_⟩ | ⟨a,cap,vs,rfl,_⟩
  ·exact⟨_,by simp[Builtin.len_,run_underlying he];rfl,.int _ _⟩
  ·exact⟨_,by simp[Builtin.len_,run_underlying he];rfl,.int _ _⟩
 ·rename_i a b n hst
  obtain⟨e,he⟩:=AY hst
  cases hv
  exact⟨_,by simp[Builtin.len_,run_underlying he];rfl,.int _ _⟩
theorem CV (hρ:∀x,Rep (aA M₀ γ) γ w (ρ x) (ρv x))(xs:Array Operand):∀(i:Nat) d v,(xs.toList.map ρ)[i]?=some d→(xs.map ρv)[i]?=some v→Rep (aA M₀ γ) γ w d v:=by
 intro i d v hd hv
 rw[adw,akA] at hd
 rw[Array.getElem?_map] at hv
 cases hx:xs[i]? with
 |none=>rw[hx] at hd;cases hd
 |some x=>
  rw[hx] at hd hv
  simp only[aiD,abr] at hd hv
  subst hd;subst hv
  exact hρ x
theorem Fh (h:Store M₀ γ σ w){id:Nat}(o:Oper)(hid:Sv o.op=true→σ id=none)(hρ:∀x,Rep (aA M₀ γ) γ w (ρ x) (ρv x)){f:Eff}(hf:dY P ρ σ id o.op=some f)(hs:f.side):
  Out M₀ γ σ w ((execOp ρv o).run P w) f.val f.ws:=by
 obtain⟨dst,op,ty,pos,after,guard⟩:=o
 dsimp only at hf
 cases op with
 |move x=>simp only[dY,abr] at hf;subst hf;exact Out.same h rfl (hρ x)
 |assign x=>simp only[dY,abr] at hf;subst hf;exact Out.same h rfl (hρ x)
 |pick c a b=>
  have hc:=hρ c
  simp only[dY] at hf
  split at hf <;> simp only[abr,reduceCtorEq] at hf <;> subst hf
  ·rename_i e;rw[e] at hc;exact Out.same h (by simp[execOp,pI hc,asBool]) (hρ a)
  ·rename_i e;rw[e] at hc;exact Out.same h (by simp[execOp,pI hc,asBool]) (hρ b)
 |alloc e=>
  simp only[dY,abR] at hf
  obtain⟨cs,hz,rfl⟩:=hf
  exact aa9 h (hid rfl) e hz
 |box e x=>
  simp only[dY,abR] at hf
  obtain⟨cs,hz,rfl⟩:=hf
  exact aha h (hid rfl) e (hρ x) hz
 |build t parts=>
  simp only[dY] at hf
  split at hf
  rotate_left
  ·cases hf
  rename_i hok
  simp only[ac9,abR] at hf
  obtain⟨z,hz,cs,hcs,rfl⟩:=hf
  obtain⟨v,h1,h2⟩:=XR hρ hok hz hcs
  exact Out.same h (by simp only[execOp,Sem.run_bind];erw [h1];rfl) h2
 |buildSlice t len parts=>
  simp only[dY,ac9] at hf
  obtain⟨⟨e,sz,by'⟩,he,hf⟩:=hf
  dsimp only at hf
  split at hf
  rotate_left
  ·cases hf
  rename_i hc
  simp only[abR] at hf
  obtain⟨es,hes,rfl⟩:=hf
  exact KA h hρ he hc.1 hc.2.1 hc.2.2.1 hc.2.2.2 hes
 |load t a=>
  simp only[dY,ac9] at hf
  obtain⟨g,hg,sz,hsz,hf⟩:=hf
  have ha:=hρ a
  split at hf
  ·rename_i b off e
   rw[e] at ha
   split at hf
   ·rename_i cs hb
    simp only[abR] at hf
    obtain⟨d,hd,rfl⟩:=hf
    obtain⟨v,h1,h2⟩:=qG h hg hsz (.inl ⟨_,hb⟩) hd ha
    exact Out.same h (by simp only[execOp,Sem.run_bind,h1];rfl) h2
   ·rename_i z cs hb
    simp only[abR] at hf
    obtain⟨d,hd,rfl⟩:=hf
    obtain⟨v,h1,h2⟩:=qG h hg hsz (.inr ⟨z,hb⟩) hd ha
    exact Out.same h (by simp only[execOp,Sem.run_bind,h1];rfl) h2
   ·cases hf
  ·rename_i cs e
   rw[e] at ha
   simp only[abR] at hf
   obtain⟨d,hd,rfl⟩:=hf
   obtain⟨v,h1,h2⟩:=AX hg hsz hd ha
   exact Out.same h (by simp only[execOp,Sem.run_bind,h1];rfl) h2
  ·cases hf
 |store t a x=>
  simp only[dY,ac9] at hf
  obtain⟨sz,hsz,vs,hvs,hf⟩:=hf
  have ha:=hρ a
  split at hf
  ·rename_i b off e
   rw[e] at ha
   split at hf
   ·rename_i cs hb
    split at hf <;> simp only[abr,reduceCtorEq] at hf
    rename_i hc
    subst hf
    exact PL h hsz (.box _) (.inl ⟨_,rfl⟩) hb (hρ x) hvs hc.1 hc.2 ha
   ·rename_i z cs hb
    split at hf <;> simp only[abr,reduceCtorEq] at hf
    rename_i hc
    subst hf
    exact PL h hsz (.arr z) (.inr ⟨z,rfl⟩) hb (hρ x) hvs hc.1 hc.2 ha
   ·cases hf
  ·cases hf
 |nilCheck x=>
  have hx:=hρ x
  simp only[dY] at hf
  generalize hv:ρv x=v at hx
  split at hf <;> simp only[abr,reduceCtorEq] at hf <;> subst hf <;> rename_i e <;> rw[e] at hx
  ·refine Out.same h (v:=v) ?_ hx
   cases hx with|ref hb=>simp[execOp,hv]
  ·refine Out.same h (v:=v) ?_ hx
   cases hx with|dV=>simp[execOp,hv]
  ·refine Out.same h (v:=v) ?_ hx
   cases hx with|fn=>simp[execOp,hv]
 |binOp op xt x y yt=>
  simp only[dY] at hf
  obtain⟨r,h1,h2,h3⟩:=abb hf hs (hρ x) (hρ y) x y (fun h=>h)
  rw[h3]
  exact Out.same h (by simp only[execOp];erw [Sem.run_bind,h1];rfl) h2
 |unOp op xt x=>
  have hx:=hρ x
  simp only[dY,abR] at hf
  obtain⟨d,hd,rfl⟩:=hf
  unfold GU at hd
  split at hd <;> simp only[abr,reduceCtorEq] at hd <;> subst hd <;> rename_i e <;> rw[e] at hx
  ·exact Out.same h (by simp[execOp,int_inj hx,Op.unary,Op.intArith]) (.int _ _)
  ·exact Out.same h (by simp[execOp,int_inj hx,Op.unary,Op.intBits]) (.int _ _)
  ·exact Out.same h (by simp[execOp,pI hx,Op.unary]) (.bool _)
 |convert src dst x=>
  simp only[dY,abR] at hf
  obtain⟨d,hd,rfl⟩:=hf
  obtain⟨r,h1,h2⟩:=Fb hd (hρ x)
  exact Out.same h (by simp only[execOp,Sem.run_bind,h1];rfl) h2
 |makeInterface t x=>
  simp only[dY] at hf
  split at hf <;> simp only[abr,reduceCtorEq] at hf
  rename_i hc
  subst hf
  refine Out.same h (v:= .iface t (ρv x)) ?_ (.iface (hρ x))
  unfold GR at hc
  split at hc
  ·cases hc
  ·rename_i d hd hni
   simp only[execOp,Instr.makeInterface,Sem.run_bind,run_underlying hni,Result.andThen_ok]
   cases d <;> first|rfl|exact absurd hni (hd _)
  ·cases hc
 |makeFunc fn a b=>
  simp only[dY,abr] at hf
  subst hf
  exact Out.same h (v:= .func fn (a.map ρv) (b.map ρv)) rfl (.fn (by simp) (by simp) (CV hρ a) (CV hρ b))
 |slice t x lo hi mx=>
  cases mx with
  |some _=>simp[dY] at hf
  |none=>
   have opt:∀(q:Option Operand),((q.map ρ)=none∧(q.map ρv)=none)∨∃a b,q.map ρ=some a∧q.map ρv=some b∧Rep (aA M₀ γ) γ w a b:=by
    intro q;cases q with
    |none=>exact .inl ⟨rfl,rfl⟩
    |some q=>exact .inr ⟨_,_,rfl,rfl,hρ q⟩
   have hx:=hρ x
   simp only[dY] at hf
   split at hf
   ·rename_i s e
    rw[e] at hx
    split at hf
    rotate_left
    ·cases hf
    rename_i hst
    simp only[abR] at hf
    obtain⟨d,hd,rfl⟩:=hf
    obtain⟨r,h1,h2⟩:=XM hd hx (opt lo) (opt hi) (iV hst)
    exact Out.same h (by simp only[execOp,Sem.run_bind,akn,h1];rfl) h2
   ·rename_i a b c d e
    rw[e] at hx
    simp only[ac9] at hf
    obtain⟨⟨el,sz,by'⟩,he,hf⟩:=hf
    simp only[abR] at hf
    obtain⟨dd,hd,rfl⟩:=hf
    obtain⟨i,q1,q2,q3,_⟩:=fU he
    obtain⟨r,h1,h2⟩:=SG hd hx (opt lo) (opt hi) q1 q2 q3
    exact Out.same h (by simp only[execOp,Sem.run_bind,akn,h1];rfl) h2
   ·rename_i a b c e
    rw[e] at hx
    simp only[ac9] at hf
    obtain⟨⟨el,sz,by'⟩,he,hf⟩:=hf
    simp only[abR] at hf
    obtain⟨dd,hd,rfl⟩:=hf
    obtain⟨i,q1,q2,q3,_⟩:=fU he
    obtain⟨r,h1,h2⟩:=XP hd hx (opt lo) (opt hi) q1 q2 q3
    exact Out.same h (by simp only[execOp,Sem.run_bind,akn,h1];rfl) h2
   ·cases hf
 |fieldAddr s x fi=>
  have hx:=hρ x
  simp only[dY,ac9] at hf
  obtain⟨⟨off,sz⟩,hfl,hf⟩:=hf
  dsimp only at hf
  split at hf
  ·cases hf
  rename_i hsz
  split at hf <;> simp only[abr,reduceCtorEq] at hf <;> subst hf
  ·rename_i b o e
   rw[e] at hx
   generalize hv:ρv x=v at hx
   cases hx with
   | @ref _ B _ hb=>
    refine Out.same h (v:= .pointer (some ⟨B,o+off,none⟩)) ?_ (.ref hb)
    simp only[execOp,Sem.run_bind,hv,GY hfl hsz,Addr.add_lit];rfl
  ·rename_i e
   rw[e] at hx
   generalize hv:ρv x=v at hx
   cases hx with
   | @dV cs a vs hvs hspot hc hr=>
    refine Out.same h (v:= .pointer (some (a.add off))) ?_ ?_
    ·simp only[execOp,Sem.run_bind,hv,GY hfl hsz];rfl
    ·rw[pF hspot]
     refine .dV (vs.drop off) (by simp[hvs]) rfl (fun j u hu=>?_) (fun j d u hd hu=>?_)
     ·rw[ahz] at hu
      have:=hc _ u hu
      rw[← aoT] at this
      exact this
     ·rw[ahz] at hd hu
      exact hr _ d u hd hu
 |field t x fi=>
  have hx:=hρ x
  simp only[dY,ac9] at hf
  obtain⟨⟨off,sz⟩,hfl,hf⟩:=hf
  dsimp only at hf
  split at hf
  rotate_left
  ·cases hf
  rename_i fs cs hfs ex
  rw[ex] at hx
  simp only[ac9,abR] at hf
  obtain⟨g,⟨fl,amo,hg⟩,d,hd,rfl⟩:=hf
  obtain⟨fs',fl',i,q1,q2,q3,q4,q5⟩:=Fg hfl
  rw[hfs] at q1;cases q1
  rw[amo] at q2;cases q2
  obtain⟨us,hv,hl,hu,h1,hr⟩:=SA hx
  have hsize:(sizeOf fl.type).run P w= .ok sz w:=by simp[sizeOf,typeInfo,q4,q5]
  have hrun:∀v,(part fl.type us fl.offset).run P w= .ok v w→(execOp ρv { dst:=dst,op:= .field t x fi,type:=ty,pos:=pos,after:=after,guard:=guard }).run P w= .ok (.value v) w:=by
   intro v hp
   simp only[execOp,Instr.field,Sem.run_bind,run_underlying hfs,Result.andThen_ok,amo,hv,asAgg,Sem.run_pure,hp]
  unfold uQ at hd
  cases g with
  |true=>
   simp only[if_true] at hd
   split at hd <;> simp only[abr,reduceCtorEq] at hd
   rename_i hle
   subst hd
   refine Out.same h (v:= .agg (us.extract off (off+sz))) (hrun _ ?_) (.agg ?_ (fun j u hj=>?_) (fun j d u hdj hj=>?_))
   ·simp[part,xM hg,hsize,q3]
   ·simp at hle ⊢;omega
   ·rw[Array.getElem?_extract] at hj
    split at hj
    ·exact h1 _ u hj
    ·cases hj
   ·rw[Array.getElem?_extract] at hj
    split at hj
    ·rw[ag3] at hdj
     split at hdj
     ·rw[ahz] at hdj
      exact hr _ d u hdj hj
     ·cases hdj
    ·cases hj
  |false=>
   simp only[ag8,if_false,List.head?_drop] at hd
   obtain⟨u,hu1,hu2⟩:=hu _ d hd
   exact Out.same h (v:=u) (hrun _ (by simp[part,xM hg,q3,hu1])) hu2
 |indexAddr t x i=>
  have hx:=hρ x
  simp only[dY,ac9] at hf
  obtain⟨n,hn,hf⟩:=hf
  obtain⟨k,hk⟩:=zL hn (hρ i)
  split at hf
  ·rename_i z es aI ex
   rw[ex] at hx
   simp only[ac9] at hf
   obtain⟨⟨e,sz,by'⟩,he,hf⟩:=hf
   obtain⟨ti,q1,q2,q3,_⟩:=fU he
   have hsize:(sizeOf e).run P w= .ok sz w:=by simp[sizeOf,typeInfo,q2,q3]
   dsimp only at hf
   split at hf
   rotate_left
   ·cases hf
   rename_i hz
   subst hz
   simp only[abR] at hf
   obtain⟨el,hel,rfl⟩:=hf
   have hnlt:n<es.length:=(acR.1 hel).1
   rcases aZ hx with⟨_,_,h0⟩ | ⟨a,cap,vs,hv,_,hspot,hvs,hcap,hsz,hcell,hr,_⟩
   ·cases h0
   refine Out.same h (v:= .pointer (some (a.add (n * z)))) ?_ ?_
   ·have:(0:Int)≤(n:Int)∧(n:Int)<(es.length:Int):=by omega
    simp only[execOp,Instr.indexAt,Sem.run_bind,hk,hv,asIntOf,Sem.run_pure,Result.andThen_ok,run_underlying q1]
    simp[this,hsize]
   ·have hlen:el.length=z:=hsz el (ac8 hel)
    have hle:n * z+z≤vs.length:=by
     rw[hvs]
     calc n * z+z=(n+1) * z:=by rw[akU];omega
      _≤es.length * z:=aj2 _ hnlt
    rw[pF (hspot (List.ne_nil_of_length_pos (by omega)))]
    refine .dV ((vs.drop (n * z)).take z) (by simp;omega) rfl (fun j u hu=>?_) (fun j d u hd hu=>?_)
    ·rw[ag3] at hu
     split at hu
     ·rw[ahz] at hu
      have:=hcell _ u hu
      rw[← aoT] at this
      exact this
     ·cases hu
    ·rw[ag3] at hu
     split at hu
     ·rw[ahz] at hu
      exact hr n j el d u hel hd hu
     ·cases hu
  ·rename_i b z m ex
   rw[ex] at hx
   simp only[ac9] at hf
   obtain⟨⟨e,sz,by'⟩,he,hf⟩:=hf
   obtain⟨ti,q1,q2,q3,_⟩:=fU he
   have hsize:(sizeOf e).run P w= .ok sz w:=by simp[sizeOf,typeInfo,q2,q3]
   dsimp only at hf
   split at hf <;> simp only[abr,reduceCtorEq] at hf
   rename_i hc
   obtain⟨rfl,hlt⟩:=hc
   subst hf
   generalize hv:ρv x=v at hx
   cases hx with
   | @arr _ B _ _ cap hb hle=>
    refine Out.same h (v:= .pointer (some ⟨B,n * z,none⟩)) ?_ (.ref (.inr (.inl ⟨_,_,hb⟩)))
    have:(0:Int)≤(n:Int)∧(n:Int)<(m:Int):=by omega
    simp only[execOp,Instr.indexAt,Sem.run_bind,hk,hv,asIntOf,Sem.run_pure,Result.andThen_ok,run_underlying q1]
    simp[this,hsize,Addr.add_lit]
  ·rename_i b o ex
   rw[ex] at hx
   simp only[ac9] at hf
   obtain⟨⟨m,sz⟩,he,hf⟩:=hf
   obtain⟨e,ti,q1,q2,q3⟩:=Fa he
   have hsize:(sizeOf e).run P w= .ok sz w:=by simp[sizeOf,typeInfo,q2,q3]
   dsimp only at hf
   split at hf <;> simp only[abr,reduceCtorEq] at hf
   rename_i hlt
   subst hf
   generalize hv:ρv x=v at hx
   cases hx with
   | @ref _ B _ hb=>
    refine Out.same h (v:= .pointer (some ⟨B,o+n * sz,none⟩)) ?_ (.ref hb)
    have:(0:Int)≤(n:Int)∧(n:Int)<(m:Int):=by omega
    simp only[execOp,Instr.indexAt,Sem.run_bind,hk,hv,asIntOf,Sem.run_pure,Result.andThen_ok,run_underlying q1]
    simp[this,hsize,Addr.add_lit,Instr.sureAddr]
  ·rename_i cs0 ex
   rw[ex] at hx
   simp only[ac9] at hf
   obtain⟨⟨m,sz⟩,he,hf⟩:=hf
   obtain⟨e,ti,q1,q2,q3⟩:=Fa he
   have hsize:(sizeOf e).run P w= .ok sz w:=by simp[sizeOf,typeInfo,q2,q3]
   dsimp only at hf
   split at hf <;> simp only[abr,reduceCtorEq] at hf
   rename_i hlt
   subst hf
   generalize hv:ρv x=v at hx
   cases hx with
   | @dV cs a vs hvs hspot hc hr=>
    refine Out.same h (v:= .pointer (some (a.add (n * sz)))) ?_ ?_
    ·have:(0:Int)≤(n:Int)∧(n:Int)<(m:Int):=by omega
     simp only[execOp,Instr.indexAt,Sem.run_bind,hk,hv,asIntOf,Sem.run_pure,Result.andThen_ok,run_underlying q1]
     simp[this,hsize,Instr.sureAddr]
    ·rw[pF hspot]
     refine .dV (vs.drop (n * sz)) (by simp[hvs]) rfl (fun j u hu=>?_) (fun j d u hd hu=>?_)
     ·rw[ahz] at hu
      have:=hc _ u hu
      rw[← aoT] at this
      exact this
     ·rw[ahz] at hd hu
      exact hr _ d u hd hu
  ·cases hf
 |index t x i=>
  have hx:=hρ x
  simp only[dY] at hf
  split at hf
  rotate_left
  ·rename_i cs ex
   rw[ex] at hx
   simp only[ac9] at hf
   obtain⟨m,hm,n,hn,hf⟩:=hf
   split at hf
   rotate_left
   ·cases hf
   rename_i hlt
   obtain⟨c,hc,rfl⟩:=abR.1 hf
   obtain⟨k,hk⟩:=zL hn (hρ i)
   obtain⟨e,ti,q1,q2,q3,q4⟩:=aa7 hm
   have hsize:(sizeOf e).run P w= .ok 1 w:=by simp[sizeOf,typeInfo,q2,q3]
   generalize hv:ρv x=v at hx
   cases hx with
   | @agg _ vs hl h1 hr=>
    have hlt2:n<vs.size:=by rw[hl];exact (acR.1 hc).1
    have hvn:vs[n]?=some vs[n]:=adr hlt2
    refine Out.same h (v:=vs[n]) ?_ (hr n c _ hc hvn)
    have:(0:Int)≤(n:Int)∧(n:Int)<(m:Int):=by omega
    simp only[execOp,Instr.index,Sem.run_bind,hk,hv,asIntOf,Sem.run_pure,Result.andThen_ok,run_underlying q1]
    simp[this,hsize,part,xM q4,hvn]
  ·cases hf
  rename_i s ex
  rw[ex] at hx
  split at hf
  rotate_left
  ·cases hf
  rename_i hst
  simp only[ac9,abR] at hf
  obtain⟨n,hn,c,hc,rfl⟩:=hf
  obtain⟨k,hk⟩:=zL hn (hρ i)
  obtain⟨b,hb,rfl⟩:=str_inj hx
  have hbc:b[n]?=some c:=by
   have hlt:n<b.data.toList.length:=(acR.1 hc).1
   have hlt':n<b.size:=by simpa using hlt
   rw[abt hlt] at hc
   rw[getElem?_pos b n hlt']
   simp only[abr] at hc ⊢
   rw[← hc];rfl
  refine Out.same h (v:= .int .u8 c.toNat) ?_ (.int _ _)
  simp only[execOp,Instr.index,Sem.run_bind,hk,hb,asIntOf,Sem.run_pure,Result.andThen_ok,run_underlying (iV hst)]
  simp[hbc]
 |typeAssert x xt dst ok=>
  have hx:=hρ x
  cases ok with
  |false=>simp[dY] at hf
  |true=>
  simp only[dY] at hf
  split at hf
  rotate_left
  ·cases hf
  rename_i t d ex
  rw[ex] at hx
  split at hf
  rotate_left
  ·cases hf
  rename_i hc
  obtain⟨hc,rfl⟩:=hc
  simp only[abr] at hf
  subst hf
  generalize hv:ρv x=v at hx
  cases hx with
  | @iface _ _ u hu=>
   refine Out.same h (v:= .tuple #[u,.bool true]) ?_ ?_
   ·unfold GR at hc
    cases hq:P.underlying t with
    |none=>rw[hq] at hc;cases hc
    |some ut=>
     rw[hq] at hc
     simp only[execOp,Instr.typeAssert,Sem.run_bind,hv,run_underlying hq,Result.andThen_ok]
     cases ut <;> first|(simp at hc;done)|simp
   ·exact .aQ rfl fun i d' v' q1 q2=>by
     match i with
     | 0=>simp at q1 q2;subst q1;subst q2;exact hu
     | 1=>simp at q1 q2;subst q1;subst q2;exact .bool true
     |i+2=>simp at q1
 |extract x i=>
  have hx:=hρ x
  simp only[dY] at hf
  split at hf
  rotate_left
  ·cases hf
  rename_i vs ex
  rw[ex] at hx
  simp only[abR] at hf
  obtain⟨d,hd,rfl⟩:=hf
  generalize hv:ρv x=v at hx
  cases hx with
  | @aQ _ us hl hr=>
   have:i<us.size:=by have:=(acR.1 hd).1;omega
   refine Out.same h (v:=us[i]) ?_ (hr i d _ hd (adr this))
   simp[execOp,hv,Instr.extract,adr this]
 |call c=>
  obtain⟨callee,args,argTypes⟩:=c
  cases callee with
  |builtin bi=>
   cases bi with
   |len=>
    simp only[dY] at hf
    split at hf
    rotate_left
    ·cases hf
    rename_i hsz
    simp only[ac9] at hf
    obtain⟨x,hx,t,ht,hf⟩:=hf
    have e1:args=#[x]:=by
     apply apw ;obtain⟨l⟩:=args;simp at hsz hx ⊢
     match l,hsz.1,hx with
     | [a],_,hx=>simpa using hx
    have e2:argTypes=#[t]:=by
     apply apw ;obtain⟨l⟩:=argTypes;simp at hsz ht ⊢
     match l,hsz.2,ht with
     | [a],_,ht=>simpa using ht
    subst e1;subst e2
    have hxr:=hρ x
    split at hf
    ·rename_i b ex
     rw[ex] at hxr
     split at hf
     rotate_left
     ·cases hf
     rename_i es clock hb
     split at hf
     rotate_left
     ·cases hf
     rename_i hm
     simp only[abr] at hf
     subst hf
     obtain⟨e,he⟩:=akj.1 hm
     have:=adx h hb hxr he ty
     simpa only[execOp,resolve,invoke,builtin,Sem.run_bind,Sem.run_pure,Result.andThen_ok,amP,ag1,aj9] using this
    ·simp only[abR] at hf
     obtain⟨d,hd,rfl⟩:=hf
     obtain⟨r,h1,h2⟩:=abd (ty:=ty) hd (hρ x)
     refine Out.same h (v:=r) ?_ h2
     simp only[execOp,resolve,invoke,builtin,Sem.run_bind,Sem.run_pure,Result.andThen_ok,amP,ag1,aj9,h1]
   |delete=>
    simp only[dY] at hf
    split at hf
    rotate_left
    ·cases hf
    rename_i hsz
    simp only[ac9] at hf
    obtain⟨t,ht,e,he,x,hx,y,hy,hf⟩:=hf
    have e1:args=#[x,y]:=by
     apply apw ;obtain⟨l⟩:=args;simp at hsz hx hy ⊢
     match l,hsz,hx,hy with
     | [a,b],_,hx,hy=>simp at hx hy;simp[hx,hy]
    subst e1
    have hxr:=hρ x
    have hyr:=hρ y
    split at hf
    rotate_left
    ·cases hf
    rename_i b s ex ey
    rw[ex] at hxr;rw[ey] at hyr
    split at hf
    rotate_left
    ·cases hf
    rename_i es clock hb
    simp only[abr] at hf
    subst hf
    obtain⟨s',hs',rfl⟩:=str_inj hyr
    have:=XV h hb hxr he s' argTypes ht ty
    simpa only[execOp,resolve,invoke,builtin,Sem.run_bind,Sem.run_pure,Result.andThen_ok,amP,ag1,aj9,hs'] using this
   |clear=>
    simp only[dY] at hf
    split at hf
    rotate_left
    ·cases hf
    rename_i hsz
    simp only[ac9] at hf
    obtain⟨x,hx,t,ht,⟨e,sz,by'⟩,he,zc,hzc,hf⟩:=hf
    split at hf
    rotate_left
    ·cases hf
    rename_i hzl
    have e1:args=#[x]:=by
     apply apw ;obtain⟨l⟩:=args;simp at hsz hx ⊢
     match l,hsz.1,hx with
     | [a],_,hx=>simpa using hx
    have e2:argTypes=#[t]:=by
     apply apw ;obtain⟨l⟩:=argTypes;simp at hsz ht ⊢
     match l,hsz.2,ht with
     | [a],_,ht=>simpa using ht
    subst e1;subst e2
    obtain⟨i,q1,q2,q3,_⟩:=fU he
    obtain⟨i',zv,r1,r2,r3⟩:=wB hzc
    obtain⟨s1,s2,s3⟩:=(ku (γ:=γ) (w:=w) (aA M₀ γ) zv).cells r3
    have hzero:(zeroValue e).run P w= .ok zv w:=by simp[zeroValue,typeInfo,r1,r2]
    have key:∀(b B off n cap c:Nat) (cs:List D) (e':TypeId) (av:Value) (a:Addr),σ b=some (.arr e' cs)→γ b=some (.arr B cap sz)→av= .slice (some a) n c→(n=0∨a=⟨B,off,none⟩)→off+n * sz≤cap * sz→
      Out M₀ γ σ w ((do let v ← Builtin.clear_ #[t] ty #[av];pure (Next.value v):Sem Next).run P w) .junk [(b,.arr e' (cs.take off))]:=by
     intro b B off n cap c cs e' av a hb hg hav ha hn
     subst hav
     rcases Nat.eq_zero_or_pos n with h0|h0
     ·subst h0
      have:=ZA (P:=P) h hb hg (off:=off) [] (by simp) (by simpa using hn) (.tuple #[])
      simp only[storeCells,Sem.run_bind,Sem.run_pure,Result.andThen_ok] at this
      simpa [Builtin.clear_,run_underlying q1] using this
     ·rcases ha with ha|ha
      ·omega
      subst ha
      obtain⟨n',rfl⟩:∃n',n=n'+1:=⟨n - 1,by omega⟩
      have ao4:zv.cells.size=sz:=s1.trans hzl
      have hzs:(Builtin.zeroCells zv.cells (n'+1)).toList.length=(n'+1) * sz:=by simp[Builtin.zeroCells,ao4]
      have hzo:∀u∈(Builtin.zeroCells zv.cells (n'+1)).toList,u.oneCell'=true:=by
       intro u hu
       simp only[Builtin.zeroCells,Array.toList_map,List.mem_map,Array.mem_toList_iff,Array.mem_range] at hu
       obtain⟨j,hj,rfl⟩:=hu
       have h0z:0<zv.cells.size:=by
        rcases Nat.eq_zero_or_pos zv.cells.size with hz|hz
        ·rw[hz] at hj;simp at hj
        ·exact hz
       have hlt:=Nat.mod_lt j h0z
       have e0:zv.cells[j % zv.cells.size]! = zv.cells[j % zv.cells.size]:=by simp[hlt]
       rw[e0]
       exact s2 (j % zv.cells.size) _ (by simp[hlt])
      have:=ZA (P:=P) h hb hg (off:=off) (Builtin.zeroCells zv.cells (n'+1)).toList hzo (by rw[hzs];exact hn) (.tuple #[])
      have hE:∀r:Result Unit,(r.andThen fun a w'=>Result.ok (Value.tuple #[]) w').andThen (fun a w'=>Result.ok (Next.value a) w')=r.andThen fun a w'=>Result.ok (Next.value (Value.tuple #[])) w':=by intro r;cases r <;> rfl
      simpa [Builtin.clear_,run_underlying q1,hzero,hE] using this
    unfold EY at hf
    have hxr:=hρ x
    split at hf
    ·rename_i b off z n ex
     rw[ex] at hxr
     split at hf
     rotate_left
     ·cases hf
     rename_i hz
     subst hz
     split at hf
     rotate_left
     ·cases hf
     rename_i e' cs hb
     simp only[abr] at hf
     subst hf
     generalize hv:ρv x=av at hxr
     cases hxr with
     | @view _ B _ _ _ cap c a hg ha hn=>
      have:=key b B off n cap c cs e' _ a hb hg rfl ha hn
      simpa only[execOp,resolve,invoke,builtin,Sem.run_bind,Sem.run_pure,Result.andThen_ok,amP,ag1,aj9,hv] using this
    ·rename_i b z n ex
     rw[ex] at hxr
     split at hf
     rotate_left
     ·cases hf
     rename_i hz
     subst hz
     split at hf
     rotate_left
     ·cases hf
     rename_i e' cs hb
     simp only[abr] at hf
     subst hf
     generalize hv:ρv x=av at hxr
     cases hxr with
     | @arr _ B _ _ cap hg hn=>
      have:=key b B 0 n cap cap cs e' _ ⟨B,0,none⟩ hb hg rfl (.inr rfl) (by rw[ade];exact aj2 _ hn)
      rw[ajE] at this
      simpa only[execOp,resolve,invoke,builtin,Sem.run_bind,Sem.run_pure,Result.andThen_ok,amP,ag1,aj9,hv] using this
    ·cases hf
   |append=>
    simp only[dY] at hf
    split at hf
    rotate_left
    ·cases hf
    rename_i hsz
    simp only[ac9] at hf
    obtain⟨x,hx,y,hy,hf⟩:=hf
    have e1:args=#[x,y]:=by
     apply apw ;obtain⟨l⟩:=args;simp at hsz hx hy ⊢
     match l,hsz,hx,hy with
     | [a,b],_,hx,hy=>simp at hx hy;simp[hx,hy]
    subst e1
    have:=ads h (hid rfl) hf hs (hρ x) (hρ y) ty
    simpa only[execOp,resolve,invoke,builtin,Sem.run_bind,Sem.run_pure,Result.andThen_ok,amP,ag1,aj9] using this
   |min=>
    simp only[dY] at hf
    split at hf
    rotate_left
    ·cases hf
    rename_i hsz
    simp only[ac9,abR] at hf
    obtain⟨x,hx,y,hy,d,hd,rfl⟩:=hf
    have e1:args=#[x,y]:=by
     apply apw ;obtain⟨l⟩:=args;simp at hsz hx hy ⊢
     match l,hsz,hx,hy with
     | [a,b],_,hx,hy=>simp at hx hy;simp[hx,hy]
    subst e1
    obtain⟨r,h1,h2⟩:=adt (P:=P) (w:=w) ty argTypes hd (hρ x) (hρ y)
    refine Out.same h (v:=r) ?_ h2
    simp only[execOp,resolve,invoke,builtin,Sem.run_bind,Sem.run_pure,Result.andThen_ok,amP,ag1,aj9,h1]
   |max=>
    simp only[dY] at hf
    split at hf
    rotate_left
    ·cases hf
    rename_i hsz
    simp only[ac9,abR] at hf
    obtain⟨x,hx,y,hy,d,hd,rfl⟩:=hf
    have e1:args=#[x,y]:=by
     apply apw ;obtain⟨l⟩:=args;simp at hsz hx hy ⊢
     match l,hsz,hx,hy with
     | [a,b],_,hx,hy=>simp at hx hy;simp[hx,hy]
    subst e1
    obtain⟨r,h1,h2⟩:=adu (P:=P) (w:=w) ty argTypes hd (hρ x) (hρ y)
    refine Out.same h (v:=r) ?_ h2
    simp only[execOp,resolve,invoke,builtin,Sem.run_bind,Sem.run_pure,Result.andThen_ok,amP,ag1,aj9,h1]
   | _=>simp[dY] at hf
  | _=>simp[dY] at hf
 |range t x=>
  simp only[dY] at hf
  have hx:=hρ x
  split at hf
  ·rename_i s e
   split at hf
   rotate_left
   ·cases hf
   rename_i hst
   simp only[abr] at hf
   subst hf
   rw[e] at hx
   obtain⟨b,hb,rfl⟩:=str_inj hx
   have:=out_range (P:=P) h (hid rfl) (iV hst) b
   simpa only[execOp,hb,Sem.run_bind] using this
  ·rename_i b e
   split at hf
   rotate_left
   ·cases hf
   rename_i es clock hb
   split at hf
   rotate_left
   ·cases hf
   rename_i hm
   simp only[abr] at hf
   subst hf
   rw[e] at hx
   obtain⟨et,he⟩:=akj.1 hm
   have:=XW (P:=P) h hb (hid rfl) hx he
   simpa only[execOp,Sem.run_bind] using this
  ·cases hf
 |makeMap t r=>
  cases r with
  |some _=>simp[dY] at hf
  |none=>
   simp only[dY,abR] at hf
   obtain⟨e,he,rfl⟩:=hf
   have:=U0 (P:=P) h (hid rfl) t
   simpa only[execOp,akn,Sem.run_bind] using this
 |lookup t x i ok=>
  simp only[dY,ac9] at hf
  obtain⟨e,he,z,hz,hf⟩:=hf
  have hx:=hρ x
  have hi:=hρ i
  split at hf
  ·rename_i s ex ei
   simp only[abr] at hf
   subst hf
   rw[ex] at hx;rw[ei] at hi
   obtain⟨s',hs',rfl⟩:=str_inj hi
   have:=KC (P:=P) h hx he hz s' ok
   simpa only[aH,execOp,Sem.run_bind,hs'] using this
  ·rename_i b s ex ei
   split at hf
   rotate_left
   ·cases hf
   rename_i es clock hb
   simp only[abr] at hf
   subst hf
   rw[ex] at hx;rw[ei] at hi
   obtain⟨s',hs',rfl⟩:=str_inj hi
   have:=XU (P:=P) h hb hx he hz s' ok
   simpa only[execOp,Sem.run_bind,hs'] using this
  ·cases hf
 |mapUpdate t m i x=>
  simp only[dY,ac9] at hf
  obtain⟨e,he,hf⟩:=hf
  have hm:=hρ m
  have hi:=hρ i
  split at hf
  ·rename_i b s ex ei
   split at hf
   rotate_left
   ·cases hf
   rename_i es clock hb
   simp only[abr] at hf
   subst hf
   rw[ex] at hm;rw[ei] at hi
   obtain⟨s',hs',rfl⟩:=str_inj hi
   have:=OO (P:=P) h hb hm he s' (hρ x)
   simpa only[execOp,Sem.run_bind,hs'] using this
  ·cases hf
 |next x st=>
  cases st with
  |false=>simp[dY] at hf
  |true=>
   simp only[dY] at hf
   have hx:=hρ x
   split at hf
   rotate_left
   ·cases hf
   rename_i b e
   rw[e] at hx
   split at hf
   rotate_left
   ·cases hf
   rename_i s pos hb
   simp only[abr] at hf
   subst hf
   have:=adp (P:=P) h hb hx ty
   simpa only[execOp,Sem.run_bind] using this
 | _=>simp[dY] at hf
end
end Go.Id
namespace Go.Id
open Go
inductive bY (S:Nat→Prop):D→Prop
 |junk:bY S .junk
 |bool (b:Bool):bY S (.bool b)
 |int (k:IntKind) (n:Int):bY S (.int k n)
 |str (s:List UInt8):bY S (.str s)
 |slice {sz:Nat} {nil:Bool} {es:List (List D)} {aI:Option Nat} (h:∀e∈es,∀d∈e,bY S d) (ht:∀t,aI=some t→S t):bY S (.slice sz nil es aI)
 |arr {b sz n:Nat} (h:S b):bY S (.arr b sz n)
 |view {b off sz n:Nat} (h:S b):bY S (.view b off sz n)
 |ref {b off:Nat} (h:S b):bY S (.ref b off)
 |dV {cs:List D} (h:∀d∈cs,bY S d):bY S (.dV cs)
 |aV:bY S .aV
 |fn {f:Fn} {a b:List D} (h:∀d∈a,bY S d) (h':∀d∈b,bY S d):bY S (.fn f a b)
 |dK:bY S .dK
 |agg {cs:List D} (h:∀d∈cs,bY S d):bY S (.agg cs)
 |aQ {cs:List D} (h:∀d∈cs,bY S d):bY S (.aQ cs)
 |iface {t:TypeId} {d:D} (h:bY S d):bY S (.iface t d)
 |aK:bY S .aK
 |val (v:Value):bY S (.val v)
 |bI:bY S .bI
 |map {b:Nat} (h:S b):bY S (.map b)
section
variable {S:Nat→Prop}
@[simp] theorem amq:bY S .junk:= .junk
@[simp] theorem amr (b:Bool):bY S (.bool b):= .bool b
@[simp] theorem ahb (k:IntKind)(n:Int):bY S (.int k n):= .int k n
@[simp] theorem aot (s:List UInt8):bY S (.str s):= .str s
@[simp] theorem oI (sz:Nat)(nil:Bool)(es:List (List D))(aI:Option Nat):bY S (.slice sz nil es aI)↔(∀e∈es,∀d∈e,bY S d)∧∀t,aI=some t→S t:=
 ⟨fun h=>by cases h with|slice h ht=>exact⟨h,ht⟩,fun h=> .slice h.1 h.2⟩
@[simp] theorem ahc (b sz n:Nat):bY S (.arr b sz n)↔S b:=⟨fun h=>by cases h with|arr h=>exact h,.arr⟩
@[simp] theorem ady (b off sz n:Nat):bY S (.view b off sz n)↔S b:=⟨fun h=>by cases h with|view h=>exact h,.view⟩
@[simp] theorem ahd (b off:Nat):bY S (.ref b off)↔S b:=⟨fun h=>by cases h with|ref h=>exact h,.ref⟩
@[simp] theorem adz (cs:List D):bY S (.dV cs)↔∀d∈cs,bY S d:=⟨fun h=>by cases h with|dV h=>exact h,.dV⟩
@[simp] theorem akr:bY S .aV:= .aV
@[simp] theorem aks (f:Fn)(a b:List D):bY S (.fn f a b)↔(∀d∈a,bY S d)∧∀d∈b,bY S d:=⟨fun h=>by cases h with|fn h h'=>exact⟨h,h'⟩,fun h=> .fn h.1 h.2⟩
@[simp] theorem al7:bY S .dK:= .dK
@[simp] theorem ahe (cs:List D):bY S (.agg cs)↔∀d∈cs,bY S d:=⟨fun h=>by cases h with|agg h=>exact h,.agg⟩
@[simp] theorem JX (cs:List D):bY S (.aQ cs)↔∀d∈cs,bY S d:=⟨fun h=>by cases h with|aQ h=>exact h,.aQ⟩
@[simp] theorem abe (t:TypeId)(d:D):bY S (.iface t d)↔bY S d:=⟨fun h=>by cases h with|iface h=>exact h,.iface⟩
@[simp] theorem ahf:bY S .aK:= .aK
@[simp] theorem aou (v:Value):bY S (.val v):= .val v
@[simp] theorem akt:bY S .bI:= .bI
@[simp] theorem ahg (b:Nat):bY S (.map b)↔S b:=⟨fun h=>by cases h with|map h=>exact h,.map⟩
end
theorem bY.mono {S S':Nat→Prop}(h:∀b,S b→S' b){d:D}(hd:bY S d):bY S' d:=by
 induction hd with
 |slice _ ht ih=>exact .slice ih (fun t e=>h t (ht t e))
 |arr hb=>exact .arr (h _ hb)
 |view hb=>exact .view (h _ hb)
 |ref hb=>exact .ref (h _ hb)
 |dV _ ih=>exact .dV ih
 |fn _ _ ih ih'=>exact .fn ih ih'
 |agg _ ih=>exact .agg ih
 |aQ _ ih=>exact .aQ ih
 |iface _ ih=>exact .iface ih
 |junk=>exact .junk
 |bool b=>exact .bool b
 |int k n=>exact .int k n
 |str s=>exact .str s
 |aV=>exact .aV
 |dK=>exact .dK
 |aK=>exact .aK
 |val v=>exact .val v
 |bI=>exact .bI
 |map hb=>exact .map (h _ hb)
theorem Rep.restrict {M:Nat→Nat→Prop}{γ γ':Nat→Option G}{w:World}{S:Nat→Prop}(hS:∀b,S b→γ' b=γ b){d:D}{v:Value}(h:Rep M γ w d v)(hd:bY S d):Rep M γ' w d v:=by
 have adA:∀{aI:Option Nat} {n:Nat} {v:Value},jk γ aI n v→(∀t,aI=some t→S t)→jk γ' aI n v:=by
  intro aI n v ht hs t e
  obtain⟨sz,el,v',n',h1,h2,h3⟩:=ht t e
  exact⟨sz,el,v',n',(hS t (hs t e)).trans h1,h2,h3⟩
 induction h with
 |junk v=>exact .junk v
 |bool b=>exact .bool b
 |int k n=>exact .int k n
 |str s=>exact .str s
 |nilslice ht=>exact .nilslice (adA ht ((oI _ _ _ _).1 hd).2)
 |slice vs hsz hvs hspot hc _ hcap ht ih=>
  have hd':=(oI _ _ _ _).1 hd
  exact .slice vs hsz hvs hspot hc (fun i j e d v he hdd hv=>ih i j e d v he hdd hv (hd'.1 e (ac8 he) d (ac8 hdd))) hcap (adA ht hd'.2)
 |arr hb hn=>exact .arr ((hS _ ((ahc _ _ _).1 hd)).trans hb) hn
 |view hb ha hn=>exact .view ((hS _ ((ady _ _ _ _).1 hd)).trans hb) ha hn
 |ref hb=>
  have e:=hS _ ((ahd _ _).1 hd)
  refine .ref ?_
  rcases hb with hb | ⟨c,f,hb⟩|hb
  ·exact .inl (e.trans hb)
  ·exact .inr (.inl ⟨c,f,e.trans hb⟩)
  ·exact .inr (.inr (e.trans hb))
 |dV vs hvs hspot hc _ ih=>exact .dV vs hvs hspot hc (fun j d v hdd hv=>ih j d v hdd hv ((adz _).1 hd d (ac8 hdd)))
 |aV=>exact .aV
 |fn hf hk _ _ ih1 ih2=>
  have hd':=(aks _ _ _).1 hd
  exact .fn hf hk (fun i d v h1 h2=>ih1 i d v h1 h2 (hd'.1 d (ac8 h1))) (fun i d v h1 h2=>ih2 i d v h1 h2 (hd'.2 d (ac8 h1)))
 |dK=>exact .dK
 |agg hl h1 _ ih=>exact .agg hl h1 (fun i d v hdd hv=>ih i d v hdd hv ((ahe _).1 hd d (ac8 hdd)))
 |aQ hl _ ih=>exact .aQ hl (fun i d v hdd hv=>ih i d v hdd hv ((JX _).1 hd d (ac8 hdd)))
 |iface _ ih=>exact .iface (ih ((abe _ _).1 hd))
 |aK=>exact .aK
 |val v=>exact .val v
 |bI=>exact .bI
 |map hb=>exact .map ((hS _ ((ahg _).1 hd)).trans hb)
def aB (S:Nat→Prop):bf→Prop
 | .box _ cs | .arr _ cs=>∀d∈cs,bY S d
 | .map es _=>∀e∈es,bY S e.2.1
 | .dZ m _ _ _=>S m
 | _=>True
theorem dh.restrict {M:Nat→Nat→Prop}{γ γ':Nat→Option G}{w:World}{S:Nat→Prop}(hS:∀b,S b→γ' b=γ b){blk:bf}{g:G}(h:dh M γ w blk g)(hd:aB S blk):dh M γ' w blk g:=by
 cases h with
 |box vs e fz hB hl h1 hr=>exact .box vs e fz hB hl h1 (fun i d v h2 h3=>(hr i d v h2 h3).restrict hS (hd d (ac8 h2)))
 |arr vs e fz hB hl h1 hr hf=>exact .arr vs e fz hB hl h1 (fun i d v h2 h3=>(hr i d v h2 h3).restrict hS (hd d (ac8 h2))) hf
 |aI xs ho=>exact .aI xs ho
 |iter hB=>exact .iter hB
 |map en hB hl hk=>exact .map en hB hl (fun i e k d n q1 q2=>let ⟨r1,r2,r3⟩:=hk i e k d n q1 q2;⟨r1,r2,r3.restrict hS (hd _ (ac8 q2))⟩)
 |dZ hB hm=>exact .dZ hB ((hS _ hd).trans hm)
 |dead hB=>exact .dead hB
theorem Rep.same {M M':Nat→Nat→Prop}{γ:Nat→Option G}{w:World}(hM:∀B off,M' B off↔M B off){d:D}{v:Value}(hr:Rep M γ w d v):Rep M' γ w d v:=hr.sub (fun B off=>(hM B off).1)
theorem dh.same {M M':Nat→Nat→Prop}{γ:Nat→Option G}{w:World}(hM:∀B off,M' B off↔M B off){blk:bf}{g:G}(h:dh M γ w blk g):dh M' γ w blk g:=by
 cases h with
 |box vs e fz hB hl h1 hr=>exact .box vs e fz hB hl h1 (fun i d v h2 h3=>(hr i d v h2 h3).same hM)
 |arr vs e fz hB hl h1 hr hf=>exact .arr vs e fz hB hl h1 (fun i d v h2 h3=>(hr i d v h2 h3).same hM) hf
 |aI xs ho=>exact .aI xs ho
 |iter hB=>exact .iter hB
 |map en hB hl hk=>exact .map en hB hl (fun i e k d n q1 q2=>let ⟨r1,r2,r3⟩:=hk i e k d n q1 q2;⟨r1,r2,r3.same hM⟩)
 |dZ hB hm=>exact .dZ hB hm
 |dead hB=>exact .dead hB
def oJ (P:Program)(k:FuncId):Prop:=∃fn,P.funcs[k]?=some fn∧(fn.name == "runtime.NumGoroutine")=false∧fn.body.isNone=false
structure dF where
 prog:Program
 n:Nat
 I:World→Prop
 stable:∀w w':World,I w→(∀k,k<n→w'.heap[k]?=w.heap[k]?)→I w'
 lit:TypeId→Nat→Array (Nat × Operand)→Bool
 glob:Nat→Option (List D)
 XY:∀w,I w→∀(g:Nat) (cs:List D),glob g=some cs→g<n∧∃vs:List Value,vs.length=cs.length∧(∀(j:Nat) (v:Value),vs[j]?=some v→w.cell? ⟨g,j,none⟩=some v∧v.oneCell'=true)∧∀(j:Nat) (d:D) (v:Value),cs[j]?=some d→vs[j]?=some v→∀(M:Nat→Nat→Prop) (γ:Nat→Option G),Rep M γ w d v
def dF.base (P:dF)(M:Nat→Nat→Prop):Base:=⟨M,P.n,P.I,P.stable⟩
def ahh:Option Value→Value→Ending
 |none,v=> .returned v
 |some x,_=> .panicked [{ v:=x,recovered:=false }]
def gU (P:dF)(x:Option Value)(k:FuncId)(args:List D)(ins:List (Nat × bf))(val:D)(outs:List (Nat × bf)):Prop:=
 oJ P.prog k∧∀(M:Nat→Nat→Prop) (γ:Nat→Option G) (w:World) (vs:List Value),Store (P.base M) γ (lk ins) w→vs.length=args.length→
  (∀(i:Nat) d v,args[i]?=some d→vs[i]?=some v→Rep (aA (P.base M) γ) γ w d v)→
  Calls P.prog k vs.toArray w fun e w'=>∃v γ',e=ahh x v∧Store (P.base M) γ' (lk outs) w'∧aW (aA (P.base M) γ) γ w (aA (P.base M) γ') γ' w'∧Rep (aA (P.base M) γ') γ' w' val v
def aF (P:dF)(k:FuncId)(args:List D)(ins:List (Nat × bf))(val:D)(outs:List (Nat × bf)):Prop:=
 oJ P.prog k∧∀(M:Nat→Nat→Prop) (γ:Nat→Option G) (w:World) (vs:List Value),Store (P.base M) γ (lk ins) w→vs.length=args.length→
  (∀(i:Nat) d v,args[i]?=some d→vs[i]?=some v→Rep (aA (P.base M) γ) γ w d v)→
  Calls P.prog k vs.toArray w fun e w'=>∃v γ',e= .returned v∧Store (P.base M) γ' (lk outs) w'∧aW (aA (P.base M) γ) γ w (aA (P.base M) γ') γ' w'∧Rep (aA (P.base M) γ') γ' w' val v
def ay (P:dF)(k:FuncId)(args:List D)(val:D):Prop:=aF P k args [] val []
def after (σ:Nat→Option bf)(ins outs:List (Nat × bf)):Nat→Option bf:=fun b=>
 match lk outs b with
 |some blk=>some blk
 |none=>σ b
section
variable {P:dF} {m:Nat→Nat→Prop} {γ:Nat→Option G} {σ:Nat→Option bf} {w:World}
theorem gU.use {x:Option Value}{k:FuncId}{args:List D}{ins outs:List (Nat × bf)}{val:D}(hc:gU P x k args ins val outs)(h:Store (P.base m) γ σ w)
  (hin:∀b blk,lk ins b=some blk→σ b=some blk∧aB (fun i=>(lk ins i).isSome=true) blk)
  (hout:∀b,(lk outs b).isSome=true→(lk ins b).isSome=true∨σ b=none)
  (vs:List Value) (hl:vs.length=args.length) (hr:∀(i:Nat) d v,args[i]?=some d→vs[i]?=some v→Rep (aA (P.base m) γ) γ w d v) (hcl:∀d∈args,bY (fun i=>(lk ins i).isSome=true) d):
  Calls P.prog k vs.toArray w fun e w'=>∃v γ',e=ahh x v∧Store (P.base m) γ' (after σ ins outs) w'∧aW (aA (P.base m) γ) γ w (aA (P.base m) γ') γ' w'∧Rep (aA (P.base m) γ') γ' w' val v:=by
 let M₀:Base:=P.base m
 let γ₁:Nat→Option G:=fun b=>if (lk ins b).isSome=true then γ b else none
 let m₁:Nat→Nat→Prop:=fun B off=>m B off∨∃b g,(lk ins b).isSome=false∧γ b=some g∧g.wr B off
 let M₁:Base:=P.base m₁
 have hγ₁:∀b g,γ₁ b=some g→(lk ins b).isSome=true∧γ b=some g:=by
  intro b g hg
  simp only[γ₁] at hg
  split at hg
  ·exact⟨by assumption,hg⟩
  ·cases hg
 have hS:∀b,(lk ins b).isSome=true→γ₁ b=γ b:=fun b hb=>by simp only[γ₁,if_pos hb]
 have hM:∀B off,aA M₁ γ₁ B off↔aA M₀ γ B off:=by
  intro B off
  constructor
  ·rintro ((hm | ⟨b,g,h1,h2,h3⟩) | ⟨b,g,h1,h2⟩)
   ·exact .inl hm
   ·exact .inr ⟨b,g,h2,h3⟩
   ·exact .inr ⟨b,g,(hγ₁ b g h1).2,h2⟩
  ·rintro (hm | ⟨b,g,h1,h2⟩)
   ·exact .inl (.inl hm)
   ·cases hb:(lk ins b).isSome with
    |true=>exact .inr ⟨b,g,(hS b hb).trans h1,h2⟩
    |false=>exact .inl (.inr ⟨b,g,hb,h1,h2⟩)
 have hst:Store M₁ γ₁ (lk ins) w:=by
  refine⟨fun b=>?_,fun b b' g g' B h1 h2 h3 h4=>h.dist b b' g g' B (hγ₁ _ _ h1).2 (hγ₁ _ _ h2).2 h3 h4,fun B off hm=>?_,fun b g B off h1 h2 hm=>?_,h.inv,fun b g B h1 h2=>h.low b g B (hγ₁ _ _ h1).2 h2,h.big⟩
  ·cases hb:lk ins b with
   |none=>exact .inr ⟨rfl,by simp[γ₁,hb]⟩
   |some blk=>
    obtain⟨h1,h2⟩:=hin b blk hb
    obtain⟨g,h3,h4⟩:=h.hit h1
    exact .inl ⟨blk,g,rfl,(hS b (by simp[hb])).trans h3,(h4.restrict hS h2).same hM⟩
  ·rcases hm with hm | ⟨b,g,_,h2,h3⟩
   ·exact h.outer B off hm
   ·exact⟨h.low _ _ _ h2 (G.jR h3),h.lt h2 (G.jR h3)⟩
  ·obtain⟨q1,q2⟩:=hγ₁ _ _ h1
   rcases hm with hm | ⟨b',g',r1,r2,r3⟩
   ·exact h.apart b g B off q2 h2 hm
   ·have:=h.dist b b' g g' B q2 r2 h2 (G.jR r3)
    subst this
    rw[q1] at r1;cases r1
 refine (hc.2 m₁ γ₁ w vs hst hl (fun i d v h1 h2=>((hr i d v h1 h2).restrict hS (hcl d (ac8 h1))).same hM)).mono ?_
 rintro e w' ⟨v,γ₂,rfl,hst2,hev,hval⟩
 let γ₃:Nat→Option G:=fun b=>if (lk outs b).isSome=true then γ₂ b else γ b
 have SI:∀b,(lk ins b).isSome=true→(lk outs b).isSome=true:=by
  intro b hb
  obtain⟨blk,hb'⟩:=akj.1 hb
  obtain⟨g,h3,_⟩:=hst.hit hb'
  obtain⟨g',h4,_⟩:=hev.names b g h3
  rcases hst2.names b with⟨blk',g'',h5,_⟩ | ⟨_,h5⟩
  ·rw[h5];rfl
  ·rw[h4] at h5;cases h5
 have hγ₂:∀b g,γ₂ b=some g→(lk outs b).isSome=true:=by
  intro b g hg
  rcases hst2.names b with⟨blk',g'',h5,_⟩ | ⟨_,h5⟩
  ·rw[h5];rfl
  ·rw[hg] at h5;cases h5
 have h3a:∀b g,γ₂ b=some g→γ₃ b=some g:=fun b g hg=>by simp only[γ₃,if_pos (hγ₂ b g hg),hg]
 have h3b:∀b g,(lk outs b).isSome=false→γ b=some g→γ₃ b=some g:=fun b g hb hg=>by simp[γ₃,hb,hg]
 have h3c:∀b g,γ₃ b=some g→γ₂ b=some g∨((lk outs b).isSome=false∧γ b=some g):=by
  intro b g hg
  simp only[γ₃] at hg
  split at hg
  ·exact .inl hg
  ·rename_i hb;exact .inr ⟨by simpa using hb,hg⟩
 have hother:∀b g B,(lk outs b).isSome=false→γ b=some g→g.block=some B→w'.heap[B]?=w.heap[B]?:=by
  intro b g B hb hg hB
  refine hev.block B (h.lt hg hB) (fun b' g' h1 h2=>?_)
  obtain⟨q1,q2⟩:=hγ₁ _ _ h1
  have:=h.dist b b' g g' B hg q2 hB h2
  subst this
  rw[SI b q1] at hb;cases hb
 have hM3:∀B off,aA M₀ γ₃ B off↔aA M₁ γ₂ B off:=by
  intro B off
  constructor
  ·rintro (hm | ⟨b,g,h1,h2⟩)
   ·exact .inl (.inl hm)
   ·rcases h3c b g h1 with h1 | ⟨hb,h1⟩
    ·exact .inr ⟨b,g,h1,h2⟩
    ·refine .inl (.inr ⟨b,g,?_,h1,h2⟩)
     cases hi:(lk ins b).isSome with
     |false=>rfl
     |true=>rw[SI b hi] at hb;cases hb
  ·rintro ((hm | ⟨b,g,h1,h2,h3⟩) | ⟨b,g,h1,h2⟩)
   ·exact .inl hm
   ·refine .inr ⟨b,g,h3b b g ?_ h2,h3⟩
    cases ho:(lk outs b).isSome with
    |false=>rfl
    |true=>
     rcases hout b ho with hi|hn
     ·rw[h1] at hi;cases hi
     ·rw[h.miss hn] at h2;cases h2
   ·exact .inr ⟨b,g,h3a b g h1,h2⟩
 have ams:aW (aA M₀ γ) γ w (aA M₀ γ₃) γ₃ w':=by
  refine⟨hev.os,hev.tape,hev.output,hev.size,fun B off u hm hu=>hev.cell B off u (fun hm'=>hm ((hM B off).1 hm')) hu,fun B off hm hlt=>(hM B off).1 (hev.wr B off ((hM3 B off).1 hm) hlt),fun b g hg=>?_,fun B hB hn=>?_,fun b g B hg hB hlt=>?_⟩
  ·cases hi:(lk ins b).isSome with
   |true=>
    obtain⟨g',q1,q2⟩:=hev.names b g ((hS b hi).trans hg)
    exact⟨g',h3a b g' q1,q2⟩
   |false=>
    refine⟨g,h3b b g ?_ hg,G.le_refl g⟩
    cases ho:(lk outs b).isSome with
    |false=>rfl
    |true=>
     rcases hout b ho with hi'|hn
     ·rw[hi] at hi';cases hi'
     ·rw[h.miss hn] at hg;cases hg
  ·exact hev.block B hB (fun b g h1 h2=>hn b g (hγ₁ _ _ h1).2 h2)
  ·rcases h3c b g hg with h1 | ⟨_,h1⟩
   ·obtain⟨b',g',q1,q2⟩:=hev.old b g B h1 hB hlt
    exact⟨b',g',(hγ₁ _ _ q1).2,q2⟩
   ·exact⟨b,g,h1,hB⟩
 have hle:Evo (aA M₁ γ₂) γ₂ w' (aA M₀ γ₃) γ₃ w':=
  ⟨fun _ _ _ _ h=>h,fun B off hm _=>(hM3 B off).1 hm,fun b g hg=>⟨g,h3a b g hg,G.le_refl g⟩⟩
 refine⟨v,γ₃,rfl,?_,ams,hval.JU hle⟩
 refine⟨fun b=>?_,fun b b' g g' B h1 h2 h3 h4=>?_,fun B off hm=>⟨(h.outer B off hm).1,aj0 (h.outer B off hm).2 hev.size⟩,fun b g B off h1 h2 hm=>?_,hst2.inv,fun b g B h1 h2=>?_,hst2.big⟩
 ·cases ho:lk outs b with
  |some blk=>
   obtain⟨g,q1,q2⟩:=hst2.hit ho
   exact .inl ⟨blk,g,by simp[after,ho],h3a b g q1,q2.JU hle (fun _ _=>rfl)⟩
  |none=>
   rcases h.names b with⟨blk,g,q1,q2,q3⟩ | ⟨q1,q2⟩
   ·exact .inl ⟨blk,g,by simp[after,ho,q1],h3b b g (by simp[ho]) q2,q3.keep ams (fun B hB=>hother b g B (by simp[ho]) q2 hB)⟩
   ·exact .inr ⟨by simp[after,ho,q1],by simp[γ₃,ho,q2]⟩
 ·rcases h3c b g h1 with h1 | ⟨hb,h1⟩ <;> rcases h3c b' g' h2 with h2 | ⟨hb',h2⟩
  ·exact hst2.dist b b' g g' B h1 h2 h3 h4
  ·have hlt:=h.lt h2 h4
   obtain⟨b2,g2,q1,q2⟩:=hev.old b g B h1 h3 hlt
   obtain⟨q3,q4⟩:=hγ₁ _ _ q1
   have:=h.dist b2 b' g2 g' B q4 h2 q2 h4
   subst this
   rw[SI _ q3] at hb';cases hb'
  ·have hlt:=h.lt h1 h3
   obtain⟨b2,g2,q1,q2⟩:=hev.old b' g' B h2 h4 hlt
   obtain⟨q3,q4⟩:=hγ₁ _ _ q1
   have:=h.dist b2 b g2 g B q4 h1 q2 h3
   subst this
   rw[SI _ q3] at hb;cases hb
  ·exact h.dist b b' g g' B h1 h2 h3 h4
 ·rcases h3c b g h1 with h1 | ⟨hb,h1⟩
  ·exact hst2.apart b g B off h1 h2 (.inl hm)
  ·exact h.apart b g B off h1 h2 hm
 ·rcases h3c b g h1 with h1 | ⟨hb,h1⟩
  ·exact hst2.low b g B h1 h2
  ·exact h.low b g B h1 h2
theorem aF.use {k:FuncId}{args:List D}{ins outs:List (Nat × bf)}{val:D}(hc:aF P k args ins val outs)(h:Store (P.base m) γ σ w)
  (hin:∀b blk,lk ins b=some blk→σ b=some blk∧aB (fun i=>(lk ins i).isSome=true) blk)
  (hout:∀b,(lk outs b).isSome=true→(lk ins b).isSome=true∨σ b=none)
  (vs:List Value) (hl:vs.length=args.length) (hr:∀(i:Nat) d v,args[i]?=some d→vs[i]?=some v→Rep (aA (P.base m) γ) γ w d v) (hcl:∀d∈args,bY (fun i=>(lk ins i).isSome=true) d):
  Calls P.prog k vs.toArray w fun e w'=>∃v γ',e= .returned v∧Store (P.base m) γ' (after σ ins outs) w'∧aW (aA (P.base m) γ) γ w (aA (P.base m) γ') γ' w'∧Rep (aA (P.base m) γ') γ' w' val v:=
 gU.use (x:=none) hc h hin hout vs hl hr hcl
end
end Go.Id
