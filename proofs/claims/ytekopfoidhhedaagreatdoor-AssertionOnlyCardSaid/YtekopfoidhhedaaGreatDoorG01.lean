import Derived.Test.YtekopfoidhhedaaGreatDoorG00
import Derived.BigQuiet
import Derived.CallsIn
import Derived.OrdersIn
import Derived.OwnWalkIn
import Derived.RangeFuncCalls
import Derived.RangeFuncRecord
import Derived.RowKit3
import Derived.RangeFuncLeaves
set_option linter.unusedVariables false
set_option linter.unusedSimpArgs false
set_option linter.unnecessarySimpa false
namespace Go.Id
open Go
section
variable {P:Program} {M₀:Base} {γ:Nat→Option G} {σ:Nat→Option aU} {w:World} {ρ:Operand→D} {ρv:Operand→Value}
theorem yU {t:TypeId}(h:fM P t=true):∃e,P.underlying t=some (.slice e):=by
 unfold fM at h
 obtain⟨⟨e,sz,b⟩,he⟩:=Option.isSome_iff_exists.1 h
 obtain⟨i,h1,_⟩:=fB he
 exact⟨e,h1⟩
theorem Yg {M:Nat→Nat→Prop}{x d:D}{t ty:TypeId}(h:lenD P t x=some d){v:Value}(hv:Rep M γ w x v):
  ∃r,(Builtin.len_ #[t] ty #[v]).run P w= .ok r w∧Rep M γ w d r:=by
 unfold lenD at h
 split at h <;> (try split at h) <;> simp only[Option.some.injEq,reduceCtorEq] at h <;> subst h
 ·rename_i s hst
  have hs:=iC hst
  obtain⟨b,rfl,rfl⟩:=str_inj hv
  have:b.data.toList.length=b.size:=by simp
  exact⟨_,by simp[Builtin.len_,run_underlying hs];rfl,by rw[this];exact .int _ _⟩
 ·rename_i a b es c hst
  obtain⟨e,he⟩:=yU hst
  rcases aW hv with⟨rfl,rfl,_⟩ | ⟨a,cap,vs,rfl,_⟩
  ·exact⟨_,by simp[Builtin.len_,run_underlying he];rfl,.int _ _⟩
  ·exact⟨_,by simp[Builtin.len_,run_underlying he];rfl,.int _ _⟩
 ·rename_i a b n hst
  obtain⟨e,he⟩:=yU hst
  cases hv
  exact⟨_,by simp[Builtin.len_,run_underlying he];rfl,.int _ _⟩
theorem Ag (hρ:∀x,Rep (aC M₀ γ) γ w (ρ x) (ρv x))(xs:Array Operand):∀(i:Nat) d v,(xs.toList.map ρ)[i]?=some d→(xs.map ρv)[i]?=some v→Rep (aC M₀ γ) γ w d v:=by
 intro i d v hd hv
 rw[List.getElem?_map,Array.getElem?_toList] at hd
 rw[Array.getElem?_map] at hv
 cases hx:xs[i]? with
 |none=>rw[hx] at hd;cases hd
 |some x=>
  rw[hx] at hd hv
  simp only[Option.map_some,Option.some.injEq] at hd hv
  subst hd;subst hv
  exact hρ x
theorem Dk (h:Store M₀ γ σ w){id:Nat}(o:Oper)(hid:OY o.op=true→σ id=none)(hρ:∀x,Rep (aC M₀ γ) γ w (ρ x) (ρv x)){f:Eff}(hf:dR P ρ σ id o.op=some f)(hs:f.side):
  Out M₀ γ σ w ((execOp ρv o).run P w) f.val f.ws:=by
 obtain⟨dst,op,ty,pos,after,guard⟩:=o
 dsimp only at hf
 cases op with
 |move x=>simp only[dR,Option.some.injEq] at hf;subst hf;exact Out.same h rfl (hρ x)
 |assign x=>simp only[dR,Option.some.injEq] at hf;subst hf;exact Out.same h rfl (hρ x)
 |pick c a b=>
  have hc:=hρ c
  simp only[dR] at hf
  split at hf <;> simp only[Option.some.injEq,reduceCtorEq] at hf <;> subst hf
  ·rename_i e;rw[e] at hc;exact Out.same h (by simp[execOp,nO hc,asBool]) (hρ a)
  ·rename_i e;rw[e] at hc;exact Out.same h (by simp[execOp,nO hc,asBool]) (hρ b)
 |alloc e=>
  simp only[dR,Option.map_eq_some_iff] at hf
  obtain⟨cs,hz,rfl⟩:=hf
  exact Yc h (hid rfl) e hz
 |box e x=>
  simp only[dR,Option.map_eq_some_iff] at hf
  obtain⟨cs,hz,rfl⟩:=hf
  exact adt h (hid rfl) e (hρ x) hz
 |build t parts=>
  simp only[dR] at hf
  split at hf
  rotate_left
  ·cases hf
  rename_i hok
  simp only[Option.bind_eq_some_iff,Option.map_eq_some_iff] at hf
  obtain⟨z,hz,cs,hcs,rfl⟩:=hf
  obtain⟨v,h1,h2⟩:=UU hρ hok hz hcs
  exact Out.same h (by simp only[execOp,Sem.run_bind];erw [h1];rfl) h2
 |buildSlice t len parts=>
  simp only[dR,Option.bind_eq_some_iff] at hf
  obtain⟨⟨e,sz,by'⟩,he,hf⟩:=hf
  dsimp only at hf
  split at hf
  rotate_left
  ·cases hf
  rename_i hc
  simp only[Option.map_eq_some_iff] at hf
  obtain⟨es,hes,rfl⟩:=hf
  exact Ik h hρ he hc.1 hc.2.1 hc.2.2.1 hc.2.2.2 hes
 |load t a=>
  simp only[dR,Option.bind_eq_some_iff] at hf
  obtain⟨g,hg,sz,hsz,hf⟩:=hf
  have ha:=hρ a
  split at hf
  ·rename_i b off e
   rw[e] at ha
   split at hf
   ·rename_i cs hb
    simp only[Option.map_eq_some_iff] at hf
    obtain⟨d,hd,rfl⟩:=hf
    obtain⟨v,h1,h2⟩:=oM h hg hsz (.inl ⟨_,hb⟩) hd ha
    exact Out.same h (by simp only[execOp,Sem.run_bind,h1];rfl) h2
   ·rename_i z cs hb
    simp only[Option.map_eq_some_iff] at hf
    obtain⟨d,hd,rfl⟩:=hf
    obtain⟨v,h1,h2⟩:=oM h hg hsz (.inr ⟨z,hb⟩) hd ha
    exact Out.same h (by simp only[execOp,Sem.run_bind,h1];rfl) h2
   ·cases hf
  ·rename_i cs e
   rw[e] at ha
   simp only[Option.map_eq_some_iff] at hf
   obtain⟨d,hd,rfl⟩:=hf
   obtain⟨v,h1,h2⟩:=yT hg hsz hd ha
   exact Out.same h (by simp only[execOp,Sem.run_bind,h1];rfl) h2
  ·cases hf
 |store t a x=>
  simp only[dR,Option.bind_eq_some_iff] at hf
  obtain⟨sz,hsz,vs,hvs,hf⟩:=hf
  have ha:=hρ a
  split at hf
  ·rename_i b off e
   rw[e] at ha
   split at hf
   ·rename_i cs hb
    split at hf <;> simp only[Option.some.injEq,reduceCtorEq] at hf
    rename_i hc
    subst hf
    exact L9 h hsz (.box _) (.inl ⟨_,rfl⟩) hb (hρ x) hvs hc.1 hc.2 ha
   ·rename_i z cs hb
    split at hf <;> simp only[Option.some.injEq,reduceCtorEq] at hf
    rename_i hc
    subst hf
    exact L9 h hsz (.arr z) (.inr ⟨z,rfl⟩) hb (hρ x) hvs hc.1 hc.2 ha
   ·cases hf
  ·cases hf
 |nilCheck x=>
  have hx:=hρ x
  simp only[dR] at hf
  generalize hv:ρv x=v at hx
  split at hf <;> simp only[Option.some.injEq,reduceCtorEq] at hf <;> subst hf <;> rename_i e <;> rw[e] at hx
  ·refine Out.same h (v:=v) ?_ hx
   cases hx with|ref hb=>simp[execOp,hv]
  ·refine Out.same h (v:=v) ?_ hx
   cases hx with|dQ=>simp[execOp,hv]
  ·refine Out.same h (v:=v) ?_ hx
   cases hx with|fn=>simp[execOp,hv]
 |binOp op xt x y yt=>
  simp only[dR] at hf
  obtain⟨r,h1,h2,h3⟩:=Yf hf hs (hρ x) (hρ y) x y (fun h=>h)
  rw[h3]
  exact Out.same h (by simp only[execOp];erw [Sem.run_bind,h1];rfl) h2
 |unOp op xt x=>
  have hx:=hρ x
  simp only[dR,Option.map_eq_some_iff] at hf
  obtain⟨d,hd,rfl⟩:=hf
  unfold Ej at hd
  split at hd <;> simp only[Option.some.injEq,reduceCtorEq] at hd <;> subst hd <;> rename_i e <;> rw[e] at hx
  ·exact Out.same h (by simp[execOp,int_inj hx,Op.unary,Op.intArith]) (.int _ _)
  ·exact Out.same h (by simp[execOp,int_inj hx,Op.unary,Op.intBits]) (.int _ _)
  ·exact Out.same h (by simp[execOp,nO hx,Op.unary]) (.bool _)
 |convert src dst x=>
  simp only[dR,Option.map_eq_some_iff] at hf
  obtain⟨d,hd,rfl⟩:=hf
  obtain⟨r,h1,h2⟩:=Di hd (hρ x)
  exact Out.same h (by simp only[execOp,Sem.run_bind,h1];rfl) h2
 |makeInterface t x=>
  simp only[dR] at hf
  split at hf <;> simp only[Option.some.injEq,reduceCtorEq] at hf
  rename_i hc
  subst hf
  refine Out.same h (v:= .iface t (ρv x)) ?_ (.iface (hρ x))
  unfold Ei at hc
  split at hc
  ·cases hc
  ·rename_i d hd hni
   simp only[execOp,Instr.makeInterface,Sem.run_bind,run_underlying hni,Result.andThen_ok]
   cases d <;> first|rfl|exact absurd hni (hd _)
  ·cases hc
 |makeFunc fn a b=>
  simp only[dR,Option.some.injEq] at hf
  subst hf
  exact Out.same h (v:= .func fn (a.map ρv) (b.map ρv)) rfl (.fn (by simp) (by simp) (Ag hρ a) (Ag hρ b))
 |slice t x lo hi mx=>
  cases mx with
  |some _=>simp[dR] at hf
  |none=>
   have opt:∀(q:Option Operand),((q.map ρ)=none∧(q.map ρv)=none)∨∃a b,q.map ρ=some a∧q.map ρv=some b∧Rep (aC M₀ γ) γ w a b:=by
    intro q;cases q with
    |none=>exact .inl ⟨rfl,rfl⟩
    |some q=>exact .inr ⟨_,_,rfl,rfl,hρ q⟩
   have hx:=hρ x
   simp only[dR] at hf
   split at hf
   ·rename_i s e
    rw[e] at hx
    split at hf
    rotate_left
    ·cases hf
    rename_i hst
    simp only[Option.map_eq_some_iff] at hf
    obtain⟨d,hd,rfl⟩:=hf
    obtain⟨r,h1,h2⟩:=UN hd hx (opt lo) (opt hi) (iC hst)
    exact Out.same h (by simp only[execOp,Sem.run_bind,Option.map_none,h1];rfl) h2
   ·rename_i a b c d e
    rw[e] at hx
    simp only[Option.bind_eq_some_iff] at hf
    obtain⟨⟨el,sz,by'⟩,he,hf⟩:=hf
    simp only[Option.map_eq_some_iff] at hf
    obtain⟨dd,hd,rfl⟩:=hf
    obtain⟨i,q1,q2,q3,_⟩:=fB he
    obtain⟨r,h1,h2⟩:=O7 hd hx (opt lo) (opt hi) q1 q2 q3
    exact Out.same h (by simp only[execOp,Sem.run_bind,Option.map_none,h1];rfl) h2
   ·rename_i a b c e
    rw[e] at hx
    simp only[Option.bind_eq_some_iff] at hf
    obtain⟨⟨el,sz,by'⟩,he,hf⟩:=hf
    simp only[Option.map_eq_some_iff] at hf
    obtain⟨dd,hd,rfl⟩:=hf
    obtain⟨i,q1,q2,q3,_⟩:=fB he
    obtain⟨r,h1,h2⟩:=UQ hd hx (opt lo) (opt hi) q1 q2 q3
    exact Out.same h (by simp only[execOp,Sem.run_bind,Option.map_none,h1];rfl) h2
   ·cases hf
 |fieldAddr s x fi=>
  have hx:=hρ x
  simp only[dR,Option.bind_eq_some_iff] at hf
  obtain⟨⟨off,sz⟩,hfl,hf⟩:=hf
  dsimp only at hf
  split at hf
  ·cases hf
  rename_i hsz
  split at hf <;> simp only[Option.some.injEq,reduceCtorEq] at hf <;> subst hf
  ·rename_i b o e
   rw[e] at hx
   generalize hv:ρv x=v at hx
   cases hx with
   | @ref _ B _ hb=>
    refine Out.same h (v:= .pointer (some ⟨B,o+off,none⟩)) ?_ (.ref hb)
    simp only[execOp,Sem.run_bind,hv,Eo hfl hsz,Addr.add_lit];rfl
  ·rename_i e
   rw[e] at hx
   generalize hv:ρv x=v at hx
   cases hx with
   | @dQ cs a vs hvs hspot hc hr=>
    refine Out.same h (v:= .pointer (some (a.add off))) ?_ ?_
    ·simp only[execOp,Sem.run_bind,hv,Eo hfl hsz];rfl
    ·rw[nM hspot]
     refine .dQ (vs.drop off) (by simp[hvs]) rfl (fun j u hu=>?_) (fun j d u hd hu=>?_)
     ·rw[List.getElem?_drop] at hu
      have:=hc _ u hu
      rw[← Nat.add_assoc] at this
      exact this
     ·rw[List.getElem?_drop] at hd hu
      exact hr _ d u hd hu
 |field t x fi=>
  have hx:=hρ x
  simp only[dR,Option.bind_eq_some_iff] at hf
  obtain⟨⟨off,sz⟩,hfl,hf⟩:=hf
  dsimp only at hf
  split at hf
  rotate_left
  ·cases hf
  rename_i fs cs hfs ex
  rw[ex] at hx
  simp only[Option.bind_eq_some_iff,Option.map_eq_some_iff] at hf
  obtain⟨g,⟨fl,aiq,hg⟩,d,hd,rfl⟩:=hf
  obtain⟨fs',fl',i,q1,q2,q3,q4,q5⟩:=Dj hfl
  rw[hfs] at q1;cases q1
  rw[aiq] at q2;cases q2
  obtain⟨us,hv,hl,hu,h1,hr⟩:=O1 hx
  have hsize:(sizeOf fl.type).run P w= .ok sz w:=by simp[sizeOf,typeInfo,q4,q5]
  have hrun:∀v,(part fl.type us fl.offset).run P w= .ok v w→(execOp ρv { dst:=dst,op:= .field t x fi,type:=ty,pos:=pos,after:=after,guard:=guard }).run P w= .ok (.value v) w:=by
   intro v hp
   simp only[execOp,Instr.field,Sem.run_bind,run_underlying hfs,Result.andThen_ok,aiq,hv,asAgg,Sem.run_pure,hp]
  unfold rZ at hd
  cases g with
  |true=>
   simp only[if_true] at hd
   split at hd <;> simp only[Option.some.injEq,reduceCtorEq] at hd
   rename_i hle
   subst hd
   refine Out.same h (v:= .agg (us.extract off (off+sz))) (hrun _ ?_) (.agg ?_ (fun j u hj=>?_) (fun j d u hdj hj=>?_))
   ·simp[part,vC hg,hsize,q3]
   ·simp at hle ⊢;omega
   ·rw[Array.getElem?_extract] at hj
    split at hj
    ·exact h1 _ u hj
    ·cases hj
   ·rw[Array.getElem?_extract] at hj
    split at hj
    ·rw[List.getElem?_take] at hdj
     split at hdj
     ·rw[List.getElem?_drop] at hdj
      exact hr _ d u hdj hj
     ·cases hdj
    ·cases hj
  |false=>
   simp only[Bool.false_eq_true,if_false,List.head?_drop] at hd
   obtain⟨u,hu1,hu2⟩:=hu _ d hd
   exact Out.same h (v:=u) (hrun _ (by simp[part,vC hg,q3,hu1])) hu2
 |indexAddr t x i=>
  have hx:=hρ x
  simp only[dR,Option.bind_eq_some_iff] at hf
  obtain⟨n,hn,hf⟩:=hf
  obtain⟨k,hk⟩:=xM hn (hρ i)
  split at hf
  ·rename_i z es aS ex
   rw[ex] at hx
   simp only[Option.bind_eq_some_iff] at hf
   obtain⟨⟨e,sz,by'⟩,he,hf⟩:=hf
   obtain⟨ti,q1,q2,q3,_⟩:=fB he
   have hsize:(sizeOf e).run P w= .ok sz w:=by simp[sizeOf,typeInfo,q2,q3]
   dsimp only at hf
   split at hf
   rotate_left
   ·cases hf
   rename_i hz
   subst hz
   simp only[Option.map_eq_some_iff] at hf
   obtain⟨el,hel,rfl⟩:=hf
   have hnlt:n<es.length:=(List.getElem?_eq_some_iff.1 hel).1
   rcases aW hx with⟨_,_,h0⟩ | ⟨a,cap,vs,hv,_,hspot,hvs,hcap,hsz,hcell,hr,_⟩
   ·cases h0
   refine Out.same h (v:= .pointer (some (a.add (n * z)))) ?_ ?_
   ·have:(0:Int)≤(n:Int)∧(n:Int)<(es.length:Int):=by omega
    simp only[execOp,Instr.indexAt,Sem.run_bind,hk,hv,asIntOf,Sem.run_pure,Result.andThen_ok,run_underlying q1]
    simp[this,hsize]
   ·have hlen:el.length=z:=hsz el (List.mem_of_getElem? hel)
    have hle:n * z+z≤vs.length:=by
     rw[hvs]
     calc n * z+z=(n+1) * z:=by rw[Nat.add_mul];omega
      _≤es.length * z:=Nat.mul_le_mul_right _ hnlt
    rw[nM (hspot (List.ne_nil_of_length_pos (by omega)))]
    refine .dQ ((vs.drop (n * z)).take z) (by simp;omega) rfl (fun j u hu=>?_) (fun j d u hd hu=>?_)
    ·rw[List.getElem?_take] at hu
     split at hu
     ·rw[List.getElem?_drop] at hu
      have:=hcell _ u hu
      rw[← Nat.add_assoc] at this
      exact this
     ·cases hu
    ·rw[List.getElem?_take] at hu
     split at hu
     ·rw[List.getElem?_drop] at hu
      exact hr n j el d u hel hd hu
     ·cases hu
  ·rename_i b z m ex
   rw[ex] at hx
   simp only[Option.bind_eq_some_iff] at hf
   obtain⟨⟨e,sz,by'⟩,he,hf⟩:=hf
   obtain⟨ti,q1,q2,q3,_⟩:=fB he
   have hsize:(sizeOf e).run P w= .ok sz w:=by simp[sizeOf,typeInfo,q2,q3]
   dsimp only at hf
   split at hf <;> simp only[Option.some.injEq,reduceCtorEq] at hf
   rename_i hc
   obtain⟨rfl,hlt⟩:=hc
   subst hf
   generalize hv:ρv x=v at hx
   cases hx with
   | @arr _ B _ _ cap hb hle=>
    refine Out.same h (v:= .pointer (some ⟨B,n * z,none⟩)) ?_ (.ref (.inr (.inl ⟨_,_,hb⟩)))
    have:(0:Int)≤(n:Int)∧(n:Int)<(m:Int):=by omega
    simp only[execOp,Instr.indexAt,Sem.run_bind,hk,hv,asIntOf,Sem.run_pure,Result.andThen_ok,run_underlying q1]
    simp[this,hsize,Addr.add_lit]
  ·rename_i b o ex
   rw[ex] at hx
   simp only[Option.bind_eq_some_iff] at hf
   obtain⟨⟨m,sz⟩,he,hf⟩:=hf
   obtain⟨e,ti,q1,q2,q3⟩:=Dh he
   have hsize:(sizeOf e).run P w= .ok sz w:=by simp[sizeOf,typeInfo,q2,q3]
   dsimp only at hf
   split at hf <;> simp only[Option.some.injEq,reduceCtorEq] at hf
   rename_i hlt
   subst hf
   generalize hv:ρv x=v at hx
   cases hx with
   | @ref _ B _ hb=>
    refine Out.same h (v:= .pointer (some ⟨B,o+n * sz,none⟩)) ?_ (.ref hb)
    have:(0:Int)≤(n:Int)∧(n:Int)<(m:Int):=by omega
    simp only[execOp,Instr.indexAt,Sem.run_bind,hk,hv,asIntOf,Sem.run_pure,Result.andThen_ok,run_underlying q1]
    simp[this,hsize,Addr.add_lit,Instr.sureAddr]
  ·rename_i cs0 ex
   rw[ex] at hx
   simp only[Option.bind_eq_some_iff] at hf
   obtain⟨⟨m,sz⟩,he,hf⟩:=hf
   obtain⟨e,ti,q1,q2,q3⟩:=Dh he
   have hsize:(sizeOf e).run P w= .ok sz w:=by simp[sizeOf,typeInfo,q2,q3]
   dsimp only at hf
   split at hf <;> simp only[Option.some.injEq,reduceCtorEq] at hf
   rename_i hlt
   subst hf
   generalize hv:ρv x=v at hx
   cases hx with
   | @dQ cs a vs hvs hspot hc hr=>
    refine Out.same h (v:= .pointer (some (a.add (n * sz)))) ?_ ?_
    ·have:(0:Int)≤(n:Int)∧(n:Int)<(m:Int):=by omega
     simp only[execOp,Instr.indexAt,Sem.run_bind,hk,hv,asIntOf,Sem.run_pure,Result.andThen_ok,run_underlying q1]
     simp[this,hsize,Instr.sureAddr]
    ·rw[nM hspot]
     refine .dQ (vs.drop (n * sz)) (by simp[hvs]) rfl (fun j u hu=>?_) (fun j d u hd hu=>?_)
     ·rw[List.getElem?_drop] at hu
      have:=hc _ u hu
      rw[← Nat.add_assoc] at this
      exact this
     ·rw[List.getElem?_drop] at hd hu
      exact hr _ d u hd hu
  ·cases hf
 |index t x i=>
  have hx:=hρ x
  simp only[dR] at hf
  split at hf
  rotate_left
  ·rename_i cs ex
   rw[ex] at hx
   simp only[Option.bind_eq_some_iff] at hf
   obtain⟨m,hm,n,hn,hf⟩:=hf
   split at hf
   rotate_left
   ·cases hf
   rename_i hlt
   obtain⟨c,hc,rfl⟩:=Option.map_eq_some_iff.1 hf
   obtain⟨k,hk⟩:=xM hn (hρ i)
   obtain⟨e,ti,q1,q2,q3,q4⟩:=Ya hm
   have hsize:(sizeOf e).run P w= .ok 1 w:=by simp[sizeOf,typeInfo,q2,q3]
   generalize hv:ρv x=v at hx
   cases hx with
   | @agg _ vs hl h1 hr=>
    have hlt2:n<vs.size:=by rw[hl];exact (List.getElem?_eq_some_iff.1 hc).1
    have hvn:vs[n]?=some vs[n]:=Array.getElem?_eq_getElem hlt2
    refine Out.same h (v:=vs[n]) ?_ (hr n c _ hc hvn)
    have:(0:Int)≤(n:Int)∧(n:Int)<(m:Int):=by omega
    simp only[execOp,Instr.index,Sem.run_bind,hk,hv,asIntOf,Sem.run_pure,Result.andThen_ok,run_underlying q1]
    simp[this,hsize,part,vC q4,hvn]
  ·cases hf
  rename_i s ex
  rw[ex] at hx
  split at hf
  rotate_left
  ·cases hf
  rename_i hst
  simp only[Option.bind_eq_some_iff,Option.map_eq_some_iff] at hf
  obtain⟨n,hn,c,hc,rfl⟩:=hf
  obtain⟨k,hk⟩:=xM hn (hρ i)
  obtain⟨b,hb,rfl⟩:=str_inj hx
  have hbc:b[n]?=some c:=by
   have hlt:n<b.data.toList.length:=(List.getElem?_eq_some_iff.1 hc).1
   have hlt':n<b.size:=by simpa using hlt
   rw[List.getElem?_eq_getElem hlt] at hc
   rw[getElem?_pos b n hlt']
   simp only[Option.some.injEq] at hc ⊢
   rw[← hc];rfl
  refine Out.same h (v:= .int .u8 c.toNat) ?_ (.int _ _)
  simp only[execOp,Instr.index,Sem.run_bind,hk,hb,asIntOf,Sem.run_pure,Result.andThen_ok,run_underlying (iC hst)]
  simp[hbc]
 |typeAssert x xt dst ok=>
  have hx:=hρ x
  cases ok with
  |false=>simp[dR] at hf
  |true=>
  simp only[dR] at hf
  split at hf
  rotate_left
  ·cases hf
  rename_i t d ex
  rw[ex] at hx
  split at hf
  rotate_left
  ·cases hf
  rename_i hc
  obtain⟨hc,rfl⟩:=hc
  simp only[Option.some.injEq] at hf
  subst hf
  generalize hv:ρv x=v at hx
  cases hx with
  | @iface _ _ u hu=>
   refine Out.same h (v:= .tuple #[u,.bool true]) ?_ ?_
   ·unfold Ei at hc
    cases hq:P.underlying t with
    |none=>rw[hq] at hc;cases hc
    |some ut=>
     rw[hq] at hc
     simp only[execOp,Instr.typeAssert,Sem.run_bind,hv,run_underlying hq,Result.andThen_ok]
     cases ut <;> first|(simp at hc;done)|simp
   ·exact .aJ rfl fun i d' v' q1 q2=>by
     match i with
     | 0=>simp at q1 q2;subst q1;subst q2;exact hu
     | 1=>simp at q1 q2;subst q1;subst q2;exact .bool true
     |i+2=>simp at q1
 |extract x i=>
  have hx:=hρ x
  simp only[dR] at hf
  split at hf
  rotate_left
  ·cases hf
  rename_i vs ex
  rw[ex] at hx
  simp only[Option.map_eq_some_iff] at hf
  obtain⟨d,hd,rfl⟩:=hf
  generalize hv:ρv x=v at hx
  cases hx with
  | @aJ _ us hl hr=>
   have:i<us.size:=by have:=(List.getElem?_eq_some_iff.1 hd).1;omega
   refine Out.same h (v:=us[i]) ?_ (hr i d _ hd (Array.getElem?_eq_getElem this))
   simp[execOp,hv,Instr.extract,Array.getElem?_eq_getElem this]
 |call c=>
  obtain⟨callee,args,argTypes⟩:=c
  cases callee with
  |builtin bi=>
   cases bi with
   |len=>
    simp only[dR] at hf
    split at hf
    rotate_left
    ·cases hf
    rename_i hsz
    simp only[Option.bind_eq_some_iff] at hf
    obtain⟨x,hx,t,ht,hf⟩:=hf
    have e1:args=#[x]:=by
     apply Array.ext' ;obtain⟨l⟩:=args;simp at hsz hx ⊢
     match l,hsz.1,hx with
     | [a],_,hx=>simpa using hx
    have e2:argTypes=#[t]:=by
     apply Array.ext' ;obtain⟨l⟩:=argTypes;simp at hsz ht ⊢
     match l,hsz.2,ht with
     | [a],_,ht=>simpa using ht
    subst e1;subst e2
    have hxr:=hρ x
    split at hf
    ·rename_i b ex
     rw[ex] at hxr
     split at hf
     rotate_left
     ·cases hf
     rename_i es clock hb
     split at hf
     rotate_left
     ·cases hf
     rename_i hm
     simp only[Option.some.injEq] at hf
     subst hf
     obtain⟨e,he⟩:=Option.isSome_iff_exists.1 hm
     have:=Z9 h hb hxr he ty
     simpa only[execOp,resolve,invoke,builtin,Sem.run_bind,Sem.run_pure,Result.andThen_ok,List.map_toArray,List.map_cons,List.map_nil] using this
    ·simp only[Option.map_eq_some_iff] at hf
     obtain⟨d,hd,rfl⟩:=hf
     obtain⟨r,h1,h2⟩:=Yg (ty:=ty) hd (hρ x)
     refine Out.same h (v:=r) ?_ h2
     simp only[execOp,resolve,invoke,builtin,Sem.run_bind,Sem.run_pure,Result.andThen_ok,List.map_toArray,List.map_cons,List.map_nil,h1]
   |delete=>
    simp only[dR] at hf
    split at hf
    rotate_left
    ·cases hf
    rename_i hsz
    simp only[Option.bind_eq_some_iff] at hf
    obtain⟨t,ht,e,he,x,hx,y,hy,hf⟩:=hf
    have e1:args=#[x,y]:=by
     apply Array.ext' ;obtain⟨l⟩:=args;simp at hsz hx hy ⊢
     match l,hsz,hx,hy with
     | [a,b],_,hx,hy=>simp at hx hy;simp[hx,hy]
    subst e1
    have hxr:=hρ x
    have hyr:=hρ y
    split at hf
    rotate_left
    ·cases hf
    rename_i b s ex ey
    rw[ex] at hxr;rw[ey] at hyr
    split at hf
    rotate_left
    ·cases hf
    rename_i es clock hb
    simp only[Option.some.injEq] at hf
    subst hf
    obtain⟨s',hs',rfl⟩:=str_inj hyr
    have:=UZ h hb hxr he s' argTypes ht ty
    simpa only[execOp,resolve,invoke,builtin,Sem.run_bind,Sem.run_pure,Result.andThen_ok,List.map_toArray,List.map_cons,List.map_nil,hs'] using this
   |clear=>
    simp only[dR] at hf
    split at hf
    rotate_left
    ·cases hf
    rename_i hsz
    simp only[Option.bind_eq_some_iff] at hf
    obtain⟨x,hx,t,ht,⟨e,sz,by'⟩,he,zc,hzc,hf⟩:=hf
    split at hf
    rotate_left
    ·cases hf
    rename_i hzl
    have e1:args=#[x]:=by
     apply Array.ext' ;obtain⟨l⟩:=args;simp at hsz hx ⊢
     match l,hsz.1,hx with
     | [a],_,hx=>simpa using hx
    have e2:argTypes=#[t]:=by
     apply Array.ext' ;obtain⟨l⟩:=argTypes;simp at hsz ht ⊢
     match l,hsz.2,ht with
     | [a],_,ht=>simpa using ht
    subst e1;subst e2
    obtain⟨i,q1,q2,q3,_⟩:=fB he
    obtain⟨i',zv,r1,r2,r3⟩:=uf hzc
    obtain⟨s1,s2,s3⟩:=(jy (γ:=γ) (w:=w) (aC M₀ γ) zv).cells r3
    have hzero:(zeroValue e).run P w= .ok zv w:=by simp[zeroValue,typeInfo,r1,r2]
    have key:∀(b B off n cap c:Nat) (cs:List D) (e':TypeId) (av:Value) (a:Addr),σ b=some (.arr e' cs)→γ b=some (.arr B cap sz)→av= .slice (some a) n c→(n=0∨a=⟨B,off,none⟩)→off+n * sz≤cap * sz→
      Out M₀ γ σ w ((do let v ← Builtin.clear_ #[t] ty #[av];pure (Next.value v):Sem Next).run P w) .junk [(b,.arr e' (cs.take off))]:=by
     intro b B off n cap c cs e' av a hb hg hav ha hn
     subst hav
     rcases Nat.eq_zero_or_pos n with h0|h0
     ·subst h0
      have:=WE (P:=P) h hb hg (off:=off) [] (by simp) (by simpa using hn) (.tuple #[])
      simp only[storeCells,Sem.run_bind,Sem.run_pure,Result.andThen_ok] at this
      simpa [Builtin.clear_,run_underlying q1] using this
     ·rcases ha with ha|ha
      ·omega
      subst ha
      obtain⟨n',rfl⟩:∃n',n=n'+1:=⟨n - 1,by omega⟩
      have akS:zv.cells.size=sz:=s1.trans hzl
      have hzs:(Builtin.zeroCells zv.cells (n'+1)).toList.length=(n'+1) * sz:=by simp[Builtin.zeroCells,akS]
      have hzo:∀u∈(Builtin.zeroCells zv.cells (n'+1)).toList,u.oneCell'=true:=by
       intro u hu
       simp only[Builtin.zeroCells,Array.toList_map,List.mem_map,Array.mem_toList_iff,Array.mem_range] at hu
       obtain⟨j,hj,rfl⟩:=hu
       have h0z:0<zv.cells.size:=by
        rcases Nat.eq_zero_or_pos zv.cells.size with hz|hz
        ·rw[hz] at hj;simp at hj
        ·exact hz
       have hlt:=Nat.mod_lt j h0z
       have e0:zv.cells[j % zv.cells.size]! = zv.cells[j % zv.cells.size]:=by simp[hlt]
       rw[e0]
       exact s2 (j % zv.cells.size) _ (by simp[hlt])
      have:=WE (P:=P) h hb hg (off:=off) (Builtin.zeroCells zv.cells (n'+1)).toList hzo (by rw[hzs];exact hn) (.tuple #[])
      have hE:∀r:Result Unit,(r.andThen fun a w'=>Result.ok (Value.tuple #[]) w').andThen (fun a w'=>Result.ok (Next.value a) w')=r.andThen fun a w'=>Result.ok (Next.value (Value.tuple #[])) w':=by intro r;cases r <;> rfl
      simpa [Builtin.clear_,run_underlying q1,hzero,hE] using this
    unfold C9 at hf
    have hxr:=hρ x
    split at hf
    ·rename_i b off z n ex
     rw[ex] at hxr
     split at hf
     rotate_left
     ·cases hf
     rename_i hz
     subst hz
     split at hf
     rotate_left
     ·cases hf
     rename_i e' cs hb
     simp only[Option.some.injEq] at hf
     subst hf
     generalize hv:ρv x=av at hxr
     cases hxr with
     | @view _ B _ _ _ cap c a hg ha hn=>
      have:=key b B off n cap c cs e' _ a hb hg rfl ha hn
      simpa only[execOp,resolve,invoke,builtin,Sem.run_bind,Sem.run_pure,Result.andThen_ok,List.map_toArray,List.map_cons,List.map_nil,hv] using this
    ·rename_i b z n ex
     rw[ex] at hxr
     split at hf
     rotate_left
     ·cases hf
     rename_i hz
     subst hz
     split at hf
     rotate_left
     ·cases hf
     rename_i e' cs hb
     simp only[Option.some.injEq] at hf
     subst hf
     generalize hv:ρv x=av at hxr
     cases hxr with
     | @arr _ B _ _ cap hg hn=>
      have:=key b B 0 n cap cap cs e' _ ⟨B,0,none⟩ hb hg rfl (.inr rfl) (by rw[Nat.zero_add];exact Nat.mul_le_mul_right _ hn)
      rw[List.take_zero] at this
      simpa only[execOp,resolve,invoke,builtin,Sem.run_bind,Sem.run_pure,Result.andThen_ok,List.map_toArray,List.map_cons,List.map_nil,hv] using this
    ·cases hf
   |append=>
    simp only[dR] at hf
    split at hf
    rotate_left
    ·cases hf
    rename_i hsz
    simp only[Option.bind_eq_some_iff] at hf
    obtain⟨x,hx,y,hy,hf⟩:=hf
    have e1:args=#[x,y]:=by
     apply Array.ext' ;obtain⟨l⟩:=args;simp at hsz hx hy ⊢
     match l,hsz,hx,hy with
     | [a,b],_,hx,hy=>simp at hx hy;simp[hx,hy]
    subst e1
    have:=ZY h (hid rfl) hf hs (hρ x) (hρ y) ty
    simpa only[execOp,resolve,invoke,builtin,Sem.run_bind,Sem.run_pure,Result.andThen_ok,List.map_toArray,List.map_cons,List.map_nil] using this
   |min=>
    simp only[dR] at hf
    split at hf
    rotate_left
    ·cases hf
    rename_i hsz
    simp only[Option.bind_eq_some_iff,Option.map_eq_some_iff] at hf
    obtain⟨x,hx,y,hy,d,hd,rfl⟩:=hf
    have e1:args=#[x,y]:=by
     apply Array.ext' ;obtain⟨l⟩:=args;simp at hsz hx hy ⊢
     match l,hsz,hx,hy with
     | [a,b],_,hx,hy=>simp at hx hy;simp[hx,hy]
    subst e1
    obtain⟨r,h1,h2⟩:=Z4 (P:=P) (w:=w) ty argTypes hd (hρ x) (hρ y)
    refine Out.same h (v:=r) ?_ h2
    simp only[execOp,resolve,invoke,builtin,Sem.run_bind,Sem.run_pure,Result.andThen_ok,List.map_toArray,List.map_cons,List.map_nil,h1]
   |max=>
    simp only[dR] at hf
    split at hf
    rotate_left
    ·cases hf
    rename_i hsz
    simp only[Option.bind_eq_some_iff,Option.map_eq_some_iff] at hf
    obtain⟨x,hx,y,hy,d,hd,rfl⟩:=hf
    have e1:args=#[x,y]:=by
     apply Array.ext' ;obtain⟨l⟩:=args;simp at hsz hx hy ⊢
     match l,hsz,hx,hy with
     | [a,b],_,hx,hy=>simp at hx hy;simp[hx,hy]
    subst e1
    obtain⟨r,h1,h2⟩:=Z5 (P:=P) (w:=w) ty argTypes hd (hρ x) (hρ y)
    refine Out.same h (v:=r) ?_ h2
    simp only[execOp,resolve,invoke,builtin,Sem.run_bind,Sem.run_pure,Result.andThen_ok,List.map_toArray,List.map_cons,List.map_nil,h1]
   | _=>simp[dR] at hf
  | _=>simp[dR] at hf
 |range t x=>
  simp only[dR] at hf
  have hx:=hρ x
  split at hf
  ·rename_i s e
   split at hf
   rotate_left
   ·cases hf
   rename_i hst
   simp only[Option.some.injEq] at hf
   subst hf
   rw[e] at hx
   obtain⟨b,hb,rfl⟩:=str_inj hx
   have:=out_range (P:=P) h (hid rfl) (iC hst) b
   simpa only[execOp,hb,Sem.run_bind] using this
  ·rename_i b e
   split at hf
   rotate_left
   ·cases hf
   rename_i es clock hb
   split at hf
   rotate_left
   ·cases hf
   rename_i hm
   simp only[Option.some.injEq] at hf
   subst hf
   rw[e] at hx
   obtain⟨et,he⟩:=Option.isSome_iff_exists.1 hm
   have:=U0 (P:=P) h hb (hid rfl) hx he
   simpa only[execOp,Sem.run_bind] using this
  ·cases hf
 |makeMap t r=>
  cases r with
  |some _=>simp[dR] at hf
  |none=>
   simp only[dR,Option.map_eq_some_iff] at hf
   obtain⟨e,he,rfl⟩:=hf
   have:=QY (P:=P) h (hid rfl) t
   simpa only[execOp,Option.map_none,Sem.run_bind] using this
 |lookup t x i ok=>
  simp only[dR,Option.bind_eq_some_iff] at hf
  obtain⟨e,he,z,hz,hf⟩:=hf
  have hx:=hρ x
  have hi:=hρ i
  split at hf
  ·rename_i s ex ei
   simp only[Option.some.injEq] at hf
   subst hf
   rw[ex] at hx;rw[ei] at hi
   obtain⟨s',hs',rfl⟩:=str_inj hi
   have:=Il (P:=P) h hx he hz s' ok
   simpa only[aH,execOp,Sem.run_bind,hs'] using this
  ·rename_i b s ex ei
   split at hf
   rotate_left
   ·cases hf
   rename_i es clock hb
   simp only[Option.some.injEq] at hf
   subst hf
   rw[ex] at hx;rw[ei] at hi
   obtain⟨s',hs',rfl⟩:=str_inj hi
   have:=UY (P:=P) h hb hx he hz s' ok
   simpa only[execOp,Sem.run_bind,hs'] using this
  ·cases hf
 |mapUpdate t m i x=>
  simp only[dR,Option.bind_eq_some_iff] at hf
  obtain⟨e,he,hf⟩:=hf
  have hm:=hρ m
  have hi:=hρ i
  split at hf
  ·rename_i b s ex ei
   split at hf
   rotate_left
   ·cases hf
   rename_i es clock hb
   simp only[Option.some.injEq] at hf
   subst hf
   rw[ex] at hm;rw[ei] at hi
   obtain⟨s',hs',rfl⟩:=str_inj hi
   have:=Lr (P:=P) h hb hm he s' (hρ x)
   simpa only[execOp,Sem.run_bind,hs'] using this
  ·cases hf
 |next x st=>
  cases st with
  |false=>simp[dR] at hf
  |true=>
   simp only[dR] at hf
   have hx:=hρ x
   split at hf
   rotate_left
   ·cases hf
   rename_i b e
   rw[e] at hx
   split at hf
   rotate_left
   ·cases hf
   rename_i s pos hb
   simp only[Option.some.injEq] at hf
   subst hf
   have:=ZW (P:=P) h hb hx ty
   simpa only[execOp,Sem.run_bind] using this
 | _=>simp[dR] at hf
end
end Go.Id
namespace Go.Id
open Go
inductive cZ (S:Nat→Prop):D→Prop
 |junk:cZ S .junk
 |bool (b:Bool):cZ S (.bool b)
 |int (k:IntKind) (n:Int):cZ S (.int k n)
 |str (s:List UInt8):cZ S (.str s)
 |slice {sz:Nat} {nil:Bool} {es:List (List D)} {aS:Option Nat} (h:∀e∈es,∀d∈e,cZ S d) (ht:∀t,aS=some t→S t):cZ S (.slice sz nil es aS)
 |arr {b sz n:Nat} (h:S b):cZ S (.arr b sz n)
 |view {b off sz n:Nat} (h:S b):cZ S (.view b off sz n)
 |ref {b off:Nat} (h:S b):cZ S (.ref b off)
 |dQ {cs:List D} (h:∀d∈cs,cZ S d):cZ S (.dQ cs)
 |aP:cZ S .aP
 |fn {f:Fn} {a b:List D} (h:∀d∈a,cZ S d) (h':∀d∈b,cZ S d):cZ S (.fn f a b)
 |dD:cZ S .dD
 |agg {cs:List D} (h:∀d∈cs,cZ S d):cZ S (.agg cs)
 |aJ {cs:List D} (h:∀d∈cs,cZ S d):cZ S (.aJ cs)
 |iface {t:TypeId} {d:D} (h:cZ S d):cZ S (.iface t d)
 |aI:cZ S .aI
 |val (v:Value):cZ S (.val v)
 |bG:cZ S .bG
 |map {b:Nat} (h:S b):cZ S (.map b)
section
variable {S:Nat→Prop}
@[simp] theorem air:cZ S .junk:= .junk
@[simp] theorem ais (b:Bool):cZ S (.bool b):= .bool b
@[simp] theorem adu (k:IntKind)(n:Int):cZ S (.int k n):= .int k n
@[simp] theorem akk (s:List UInt8):cZ S (.str s):= .str s
@[simp] theorem mQ (sz:Nat)(nil:Bool)(es:List (List D))(aS:Option Nat):cZ S (.slice sz nil es aS)↔(∀e∈es,∀d∈e,cZ S d)∧∀t,aS=some t→S t:=
 ⟨fun h=>by cases h with|slice h ht=>exact⟨h,ht⟩,fun h=> .slice h.1 h.2⟩
@[simp] theorem adv (b sz n:Nat):cZ S (.arr b sz n)↔S b:=⟨fun h=>by cases h with|arr h=>exact h,.arr⟩
@[simp] theorem Z_ (b off sz n:Nat):cZ S (.view b off sz n)↔S b:=⟨fun h=>by cases h with|view h=>exact h,.view⟩
@[simp] theorem adw (b off:Nat):cZ S (.ref b off)↔S b:=⟨fun h=>by cases h with|ref h=>exact h,.ref⟩
@[simp] theorem aac (cs:List D):cZ S (.dQ cs)↔∀d∈cs,cZ S d:=⟨fun h=>by cases h with|dQ h=>exact h,.dQ⟩
@[simp] theorem ags:cZ S .aP:= .aP
@[simp] theorem agt (f:Fn)(a b:List D):cZ S (.fn f a b)↔(∀d∈a,cZ S d)∧∀d∈b,cZ S d:=⟨fun h=>by cases h with|fn h h'=>exact⟨h,h'⟩,fun h=> .fn h.1 h.2⟩
@[simp] theorem aia:cZ S .dD:= .dD
@[simp] theorem adx (cs:List D):cZ S (.agg cs)↔∀d∈cs,cZ S d:=⟨fun h=>by cases h with|agg h=>exact h,.agg⟩
@[simp] theorem Hr (cs:List D):cZ S (.aJ cs)↔∀d∈cs,cZ S d:=⟨fun h=>by cases h with|aJ h=>exact h,.aJ⟩
@[simp] theorem Yh (t:TypeId)(d:D):cZ S (.iface t d)↔cZ S d:=⟨fun h=>by cases h with|iface h=>exact h,.iface⟩
@[simp] theorem ady:cZ S .aI:= .aI
@[simp] theorem akl (v:Value):cZ S (.val v):= .val v
@[simp] theorem agu:cZ S .bG:= .bG
@[simp] theorem adz (b:Nat):cZ S (.map b)↔S b:=⟨fun h=>by cases h with|map h=>exact h,.map⟩
end
theorem cZ.mono {S S':Nat→Prop}(h:∀b,S b→S' b){d:D}(hd:cZ S d):cZ S' d:=by
 induction hd with
 |slice _ ht ih=>exact .slice ih (fun t e=>h t (ht t e))
 |arr hb=>exact .arr (h _ hb)
 |view hb=>exact .view (h _ hb)
 |ref hb=>exact .ref (h _ hb)
 |dQ _ ih=>exact .dQ ih
 |fn _ _ ih ih'=>exact .fn ih ih'
 |agg _ ih=>exact .agg ih
 |aJ _ ih=>exact .aJ ih
 |iface _ ih=>exact .iface ih
 |junk=>exact .junk
 |bool b=>exact .bool b
 |int k n=>exact .int k n
 |str s=>exact .str s
 |aP=>exact .aP
 |dD=>exact .dD
 |aI=>exact .aI
 |val v=>exact .val v
 |bG=>exact .bG
 |map hb=>exact .map (h _ hb)
theorem Rep.restrict {M:Nat→Nat→Prop}{γ γ':Nat→Option G}{w:World}{S:Nat→Prop}(hS:∀b,S b→γ' b=γ b){d:D}{v:Value}(h:Rep M γ w d v)(hd:cZ S d):Rep M γ' w d v:=by
 have aad:∀{aS:Option Nat} {n:Nat} {v:Value},iK γ aS n v→(∀t,aS=some t→S t)→iK γ' aS n v:=by
  intro aS n v ht hs t e
  obtain⟨sz,el,v',n',h1,h2,h3⟩:=ht t e
  exact⟨sz,el,v',n',(hS t (hs t e)).trans h1,h2,h3⟩
 induction h with
 |junk v=>exact .junk v
 |bool b=>exact .bool b
 |int k n=>exact .int k n
 |str s=>exact .str s
 |nilslice ht=>exact .nilslice (aad ht ((mQ _ _ _ _).1 hd).2)
 |slice vs hsz hvs hspot hc _ hcap ht ih=>
  have hd':=(mQ _ _ _ _).1 hd
  exact .slice vs hsz hvs hspot hc (fun i j e d v he hdd hv=>ih i j e d v he hdd hv (hd'.1 e (List.mem_of_getElem? he) d (List.mem_of_getElem? hdd))) hcap (aad ht hd'.2)
 |arr hb hn=>exact .arr ((hS _ ((adv _ _ _).1 hd)).trans hb) hn
 |view hb ha hn=>exact .view ((hS _ ((Z_ _ _ _ _).1 hd)).trans hb) ha hn
 |ref hb=>
  have e:=hS _ ((adw _ _).1 hd)
  refine .ref ?_
  rcases hb with hb | ⟨c,f,hb⟩|hb
  ·exact .inl (e.trans hb)
  ·exact .inr (.inl ⟨c,f,e.trans hb⟩)
  ·exact .inr (.inr (e.trans hb))
 |dQ vs hvs hspot hc _ ih=>exact .dQ vs hvs hspot hc (fun j d v hdd hv=>ih j d v hdd hv ((aac _).1 hd d (List.mem_of_getElem? hdd)))
 |aP=>exact .aP
 |fn hf hk _ _ ih1 ih2=>
  have hd':=(agt _ _ _).1 hd
  exact .fn hf hk (fun i d v h1 h2=>ih1 i d v h1 h2 (hd'.1 d (List.mem_of_getElem? h1))) (fun i d v h1 h2=>ih2 i d v h1 h2 (hd'.2 d (List.mem_of_getElem? h1)))
 |dD=>exact .dD
 |agg hl h1 _ ih=>exact .agg hl h1 (fun i d v hdd hv=>ih i d v hdd hv ((adx _).1 hd d (List.mem_of_getElem? hdd)))
 |aJ hl _ ih=>exact .aJ hl (fun i d v hdd hv=>ih i d v hdd hv ((Hr _).1 hd d (List.mem_of_getElem? hdd)))
 |iface _ ih=>exact .iface (ih ((Yh _ _).1 hd))
 |aI=>exact .aI
 |val v=>exact .val v
 |bG=>exact .bG
 |map hb=>exact .map ((hS _ ((adz _).1 hd)).trans hb)
def aA (S:Nat→Prop):aU→Prop
 | .box _ cs | .arr _ cs=>∀d∈cs,cZ S d
 | .map es _=>∀e∈es,cZ S e.2.1
 | .dS m _ _ _=>S m
 | _=>True
theorem cO.restrict {M:Nat→Nat→Prop}{γ γ':Nat→Option G}{w:World}{S:Nat→Prop}(hS:∀b,S b→γ' b=γ b){blk:aU}{g:G}(h:cO M γ w blk g)(hd:aA S blk):cO M γ' w blk g:=by
 cases h with
 |box vs e fz hB hl h1 hr=>exact .box vs e fz hB hl h1 (fun i d v h2 h3=>(hr i d v h2 h3).restrict hS (hd d (List.mem_of_getElem? h2)))
 |arr vs e fz hB hl h1 hr hf=>exact .arr vs e fz hB hl h1 (fun i d v h2 h3=>(hr i d v h2 h3).restrict hS (hd d (List.mem_of_getElem? h2))) hf
 |aS xs ho=>exact .aS xs ho
 |iter hB=>exact .iter hB
 |map en hB hl hk=>exact .map en hB hl (fun i e k d n q1 q2=>let ⟨r1,r2,r3⟩:=hk i e k d n q1 q2;⟨r1,r2,r3.restrict hS (hd _ (List.mem_of_getElem? q2))⟩)
 |dS hB hm=>exact .dS hB ((hS _ hd).trans hm)
 |dead hB=>exact .dead hB
theorem Rep.same {M M':Nat→Nat→Prop}{γ:Nat→Option G}{w:World}(hM:∀B off,M' B off↔M B off){d:D}{v:Value}(hr:Rep M γ w d v):Rep M' γ w d v:=hr.sub (fun B off=>(hM B off).1)
theorem cO.same {M M':Nat→Nat→Prop}{γ:Nat→Option G}{w:World}(hM:∀B off,M' B off↔M B off){blk:aU}{g:G}(h:cO M γ w blk g):cO M' γ w blk g:=by
 cases h with
 |box vs e fz hB hl h1 hr=>exact .box vs e fz hB hl h1 (fun i d v h2 h3=>(hr i d v h2 h3).same hM)
 |arr vs e fz hB hl h1 hr hf=>exact .arr vs e fz hB hl h1 (fun i d v h2 h3=>(hr i d v h2 h3).same hM) hf
 |aS xs ho=>exact .aS xs ho
 |iter hB=>exact .iter hB
 |map en hB hl hk=>exact .map en hB hl (fun i e k d n q1 q2=>let ⟨r1,r2,r3⟩:=hk i e k d n q1 q2;⟨r1,r2,r3.same hM⟩)
 |dS hB hm=>exact .dS hB hm
 |dead hB=>exact .dead hB
def oI (P:Program)(k:FuncId):Prop:=∃fn,P.funcs[k]?=some fn∧(fn.name == "runtime.NumGoroutine")=false∧fn.body.isNone=false
structure gy where
 prog:Program
 n:Nat
 I:World→Prop
 stable:∀w w':World,I w→(∀k,k<n→w'.heap[k]?=w.heap[k]?)→I w'
 lit:TypeId→Nat→Array (Nat × Operand)→Bool
 glob:Nat→Option (List D)
 agv:∀w,I w→∀(g:Nat) (cs:List D),glob g=some cs→g<n∧∃vs:List Value,vs.length=cs.length∧(∀(j:Nat) (v:Value),vs[j]?=some v→w.cell? ⟨g,j,none⟩=some v∧v.oneCell'=true)∧∀(j:Nat) (d:D) (v:Value),cs[j]?=some d→vs[j]?=some v→∀(M:Nat→Nat→Prop) (γ:Nat→Option G),Rep M γ w d v
def gy.base (P:gy)(M:Nat→Nat→Prop):Base:=⟨M,P.n,P.I,P.stable⟩
def adA:Option Value→Value→Ending
 |none,v=> .returned v
 |some x,_=> .panicked [{ v:=x,recovered:=false }]
def fU (P:gy)(x:Option Value)(k:FuncId)(args:List D)(ins:List (Nat × aU))(val:D)(outs:List (Nat × aU)):Prop:=
 oI P.prog k∧∀(M:Nat→Nat→Prop) (γ:Nat→Option G) (w:World) (vs:List Value),Store (P.base M) γ (lk ins) w→vs.length=args.length→
  (∀(i:Nat) d v,args[i]?=some d→vs[i]?=some v→Rep (aC (P.base M) γ) γ w d v)→
  Calls P.prog k vs.toArray w fun e w'=>∃v γ',e=adA x v∧Store (P.base M) γ' (lk outs) w'∧aQ (aC (P.base M) γ) γ w (aC (P.base M) γ') γ' w'∧Rep (aC (P.base M) γ') γ' w' val v
def aG (P:gy)(k:FuncId)(args:List D)(ins:List (Nat × aU))(val:D)(outs:List (Nat × aU)):Prop:=
 oI P.prog k∧∀(M:Nat→Nat→Prop) (γ:Nat→Option G) (w:World) (vs:List Value),Store (P.base M) γ (lk ins) w→vs.length=args.length→
  (∀(i:Nat) d v,args[i]?=some d→vs[i]?=some v→Rep (aC (P.base M) γ) γ w d v)→
  Calls P.prog k vs.toArray w fun e w'=>∃v γ',e= .returned v∧Store (P.base M) γ' (lk outs) w'∧aQ (aC (P.base M) γ) γ w (aC (P.base M) γ') γ' w'∧Rep (aC (P.base M) γ') γ' w' val v
def ak (P:gy)(k:FuncId)(args:List D)(val:D):Prop:=aG P k args [] val []
def after (σ:Nat→Option aU)(ins outs:List (Nat × aU)):Nat→Option aU:=fun b=>
 match lk outs b with
 |some blk=>some blk
 |none=>σ b
section
variable {P:gy} {m:Nat→Nat→Prop} {γ:Nat→Option G} {σ:Nat→Option aU} {w:World}
theorem fU.use {x:Option Value}{k:FuncId}{args:List D}{ins outs:List (Nat × aU)}{val:D}(hc:fU P x k args ins val outs)(h:Store (P.base m) γ σ w)
  (hin:∀b blk,lk ins b=some blk→σ b=some blk∧aA (fun i=>(lk ins i).isSome=true) blk)
  (hout:∀b,(lk outs b).isSome=true→(lk ins b).isSome=true∨σ b=none)
  (vs:List Value) (hl:vs.length=args.length) (hr:∀(i:Nat) d v,args[i]?=some d→vs[i]?=some v→Rep (aC (P.base m) γ) γ w d v) (hcl:∀d∈args,cZ (fun i=>(lk ins i).isSome=true) d):
  Calls P.prog k vs.toArray w fun e w'=>∃v γ',e=adA x v∧Store (P.base m) γ' (after σ ins outs) w'∧aQ (aC (P.base m) γ) γ w (aC (P.base m) γ') γ' w'∧Rep (aC (P.base m) γ') γ' w' val v:=by
 let M₀:Base:=P.base m
 let γ₁:Nat→Option G:=fun b=>if (lk ins b).isSome=true then γ b else none
 let m₁:Nat→Nat→Prop:=fun B off=>m B off∨∃b g,(lk ins b).isSome=false∧γ b=some g∧g.wr B off
 let M₁:Base:=P.base m₁
 have hγ₁:∀b g,γ₁ b=some g→(lk ins b).isSome=true∧γ b=some g:=by
  intro b g hg
  simp only[γ₁] at hg
  split at hg
  ·exact⟨by assumption,hg⟩
  ·cases hg
 have hS:∀b,(lk ins b).isSome=true→γ₁ b=γ b:=fun b hb=>by simp only[γ₁,if_pos hb]
 have hM:∀B off,aC M₁ γ₁ B off↔aC M₀ γ B off:=by
  intro B off
  constructor
  ·rintro ((hm | ⟨b,g,h1,h2,h3⟩) | ⟨b,g,h1,h2⟩)
   ·exact .inl hm
   ·exact .inr ⟨b,g,h2,h3⟩
   ·exact .inr ⟨b,g,(hγ₁ b g h1).2,h2⟩
  ·rintro (hm | ⟨b,g,h1,h2⟩)
   ·exact .inl (.inl hm)
   ·cases hb:(lk ins b).isSome with
    |true=>exact .inr ⟨b,g,(hS b hb).trans h1,h2⟩
    |false=>exact .inl (.inr ⟨b,g,hb,h1,h2⟩)
 have hst:Store M₁ γ₁ (lk ins) w:=by
  refine⟨fun b=>?_,fun b b' g g' B h1 h2 h3 h4=>h.dist b b' g g' B (hγ₁ _ _ h1).2 (hγ₁ _ _ h2).2 h3 h4,fun B off hm=>?_,fun b g B off h1 h2 hm=>?_,h.inv,fun b g B h1 h2=>h.low b g B (hγ₁ _ _ h1).2 h2,h.big⟩
  ·cases hb:lk ins b with
   |none=>exact .inr ⟨rfl,by simp[γ₁,hb]⟩
   |some blk=>
    obtain⟨h1,h2⟩:=hin b blk hb
    obtain⟨g,h3,h4⟩:=h.hit h1
    exact .inl ⟨blk,g,rfl,(hS b (by simp[hb])).trans h3,(h4.restrict hS h2).same hM⟩
  ·rcases hm with hm | ⟨b,g,_,h2,h3⟩
   ·exact h.outer B off hm
   ·exact⟨h.low _ _ _ h2 (G.jQ h3),h.lt h2 (G.jQ h3)⟩
  ·obtain⟨q1,q2⟩:=hγ₁ _ _ h1
   rcases hm with hm | ⟨b',g',r1,r2,r3⟩
   ·exact h.apart b g B off q2 h2 hm
   ·have:=h.dist b b' g g' B q2 r2 h2 (G.jQ r3)
    subst this
    rw[q1] at r1;cases r1
 refine (hc.2 m₁ γ₁ w vs hst hl (fun i d v h1 h2=>((hr i d v h1 h2).restrict hS (hcl d (List.mem_of_getElem? h1))).same hM)).mono ?_
 rintro e w' ⟨v,γ₂,rfl,hst2,hev,hval⟩
 let γ₃:Nat→Option G:=fun b=>if (lk outs b).isSome=true then γ₂ b else γ b
 have O9:∀b,(lk ins b).isSome=true→(lk outs b).isSome=true:=by
  intro b hb
  obtain⟨blk,hb'⟩:=Option.isSome_iff_exists.1 hb
  obtain⟨g,h3,_⟩:=hst.hit hb'
  obtain⟨g',h4,_⟩:=hev.names b g h3
  rcases hst2.names b with⟨blk',g'',h5,_⟩ | ⟨_,h5⟩
  ·rw[h5];rfl
  ·rw[h4] at h5;cases h5
 have hγ₂:∀b g,γ₂ b=some g→(lk outs b).isSome=true:=by
  intro b g hg
  rcases hst2.names b with⟨blk',g'',h5,_⟩ | ⟨_,h5⟩
  ·rw[h5];rfl
  ·rw[hg] at h5;cases h5
 have h3a:∀b g,γ₂ b=some g→γ₃ b=some g:=fun b g hg=>by simp only[γ₃,if_pos (hγ₂ b g hg),hg]
 have h3b:∀b g,(lk outs b).isSome=false→γ b=some g→γ₃ b=some g:=fun b g hb hg=>by simp[γ₃,hb,hg]
 have h3c:∀b g,γ₃ b=some g→γ₂ b=some g∨((lk outs b).isSome=false∧γ b=some g):=by
  intro b g hg
  simp only[γ₃] at hg
  split at hg
  ·exact .inl hg
  ·rename_i hb;exact .inr ⟨by simpa using hb,hg⟩
 have hother:∀b g B,(lk outs b).isSome=false→γ b=some g→g.block=some B→w'.heap[B]?=w.heap[B]?:=by
  intro b g B hb hg hB
  refine hev.block B (h.lt hg hB) (fun b' g' h1 h2=>?_)
  obtain⟨q1,q2⟩:=hγ₁ _ _ h1
  have:=h.dist b b' g g' B hg q2 hB h2
  subst this
  rw[O9 b q1] at hb;cases hb
 have hM3:∀B off,aC M₀ γ₃ B off↔aC M₁ γ₂ B off:=by
  intro B off
  constructor
  ·rintro (hm | ⟨b,g,h1,h2⟩)
   ·exact .inl (.inl hm)
   ·rcases h3c b g h1 with h1 | ⟨hb,h1⟩
    ·exact .inr ⟨b,g,h1,h2⟩
    ·refine .inl (.inr ⟨b,g,?_,h1,h2⟩)
     cases hi:(lk ins b).isSome with
     |false=>rfl
     |true=>rw[O9 b hi] at hb;cases hb
  ·rintro ((hm | ⟨b,g,h1,h2,h3⟩) | ⟨b,g,h1,h2⟩)
   ·exact .inl hm
   ·refine .inr ⟨b,g,h3b b g ?_ h2,h3⟩
    cases ho:(lk outs b).isSome with
    |false=>rfl
    |true=>
     rcases hout b ho with hi|hn
     ·rw[h1] at hi;cases hi
     ·rw[h.miss hn] at h2;cases h2
   ·exact .inr ⟨b,g,h3a b g h1,h2⟩
 have ait:aQ (aC M₀ γ) γ w (aC M₀ γ₃) γ₃ w':=by
  refine⟨hev.os,hev.tape,hev.output,hev.size,fun B off u hm hu=>hev.cell B off u (fun hm'=>hm ((hM B off).1 hm')) hu,fun B off hm hlt=>(hM B off).1 (hev.wr B off ((hM3 B off).1 hm) hlt),fun b g hg=>?_,fun B hB hn=>?_,fun b g B hg hB hlt=>?_⟩
  ·cases hi:(lk ins b).isSome with
   |true=>
    obtain⟨g',q1,q2⟩:=hev.names b g ((hS b hi).trans hg)
    exact⟨g',h3a b g' q1,q2⟩
   |false=>
    refine⟨g,h3b b g ?_ hg,G.le_refl g⟩
    cases ho:(lk outs b).isSome with
    |false=>rfl
    |true=>
     rcases hout b ho with hi'|hn
     ·rw[hi] at hi';cases hi'
     ·rw[h.miss hn] at hg;cases hg
  ·exact hev.block B hB (fun b g h1 h2=>hn b g (hγ₁ _ _ h1).2 h2)
  ·rcases h3c b g hg with h1 | ⟨_,h1⟩
   ·obtain⟨b',g',q1,q2⟩:=hev.old b g B h1 hB hlt
    exact⟨b',g',(hγ₁ _ _ q1).2,q2⟩
   ·exact⟨b,g,h1,hB⟩
 have hle:Evo (aC M₁ γ₂) γ₂ w' (aC M₀ γ₃) γ₃ w':=
  ⟨fun _ _ _ _ h=>h,fun B off hm _=>(hM3 B off).1 hm,fun b g hg=>⟨g,h3a b g hg,G.le_refl g⟩⟩
 refine⟨v,γ₃,rfl,?_,ait,hval.Lc hle⟩
 refine⟨fun b=>?_,fun b b' g g' B h1 h2 h3 h4=>?_,fun B off hm=>⟨(h.outer B off hm).1,Nat.lt_of_lt_of_le (h.outer B off hm).2 hev.size⟩,fun b g B off h1 h2 hm=>?_,hst2.inv,fun b g B h1 h2=>?_,hst2.big⟩
 ·cases ho:lk outs b with
  |some blk=>
   obtain⟨g,q1,q2⟩:=hst2.hit ho
   exact .inl ⟨blk,g,by simp[after,ho],h3a b g q1,q2.Lc hle (fun _ _=>rfl)⟩
  |none=>
   rcases h.names b with⟨blk,g,q1,q2,q3⟩ | ⟨q1,q2⟩
   ·exact .inl ⟨blk,g,by simp[after,ho,q1],h3b b g (by simp[ho]) q2,q3.keep ait (fun B hB=>hother b g B (by simp[ho]) q2 hB)⟩
   ·exact .inr ⟨by simp[after,ho,q1],by simp[γ₃,ho,q2]⟩
 ·rcases h3c b g h1 with h1 | ⟨hb,h1⟩ <;> rcases h3c b' g' h2 with h2 | ⟨hb',h2⟩
  ·exact hst2.dist b b' g g' B h1 h2 h3 h4
  ·have hlt:=h.lt h2 h4
   obtain⟨b2,g2,q1,q2⟩:=hev.old b g B h1 h3 hlt
   obtain⟨q3,q4⟩:=hγ₁ _ _ q1
   have:=h.dist b2 b' g2 g' B q4 h2 q2 h4
   subst this
   rw[O9 _ q3] at hb';cases hb'
  ·have hlt:=h.lt h1 h3
   obtain⟨b2,g2,q1,q2⟩:=hev.old b' g' B h2 h4 hlt
   obtain⟨q3,q4⟩:=hγ₁ _ _ q1
   have:=h.dist b2 b g2 g B q4 h1 q2 h3
   subst this
   rw[O9 _ q3] at hb;cases hb
  ·exact h.dist b b' g g' B h1 h2 h3 h4
 ·rcases h3c b g h1 with h1 | ⟨hb,h1⟩
  ·exact hst2.apart b g B off h1 h2 (.inl hm)
  ·exact h.apart b g B off h1 h2 hm
 ·rcases h3c b g h1 with h1 | ⟨hb,h1⟩
  ·exact hst2.low b g B h1 h2
  ·exact h.low b g B h1 h2
theorem aG.use {k:FuncId}{args:List D}{ins outs:List (Nat × aU)}{val:D}(hc:aG P k args ins val outs)(h:Store (P.base m) γ σ w)
  (hin:∀b blk,lk ins b=some blk→σ b=some blk∧aA (fun i=>(lk ins i).isSome=true) blk)
  (hout:∀b,(lk outs b).isSome=true→(lk ins b).isSome=true∨σ b=none)
  (vs:List Value) (hl:vs.length=args.length) (hr:∀(i:Nat) d v,args[i]?=some d→vs[i]?=some v→Rep (aC (P.base m) γ) γ w d v) (hcl:∀d∈args,cZ (fun i=>(lk ins i).isSome=true) d):
  Calls P.prog k vs.toArray w fun e w'=>∃v γ',e= .returned v∧Store (P.base m) γ' (after σ ins outs) w'∧aQ (aC (P.base m) γ) γ w (aC (P.base m) γ') γ' w'∧Rep (aC (P.base m) γ') γ' w' val v:=
 fU.use (x:=none) hc h hin hout vs hl hr hcl
end
end Go.Id
namespace Go.Id
open Go
structure CW (P:gy) where
 m:Nat→Nat→Prop
 γ:Nat→Option G
 w:World
 lo:Nat
 hlo:lo≤max w.heap.size P.n
 tail:List Deferred
inductive mJ:Fence→Prop
 |wide:mJ Fence.wide
 |round (l:Nat):mJ (Fence.wide.inRound l)
theorem mJ.fn {Fe:Fence}(h:mJ Fe)(f:FuncId):Fe.fn f:=by cases h <;> trivial
theorem mJ.depth {Fe:Fence}(h:mJ Fe):Fe.depth.isSome=true→False:=by cases h <;> (intro e;cases e)
theorem mJ.calls {Fe:Fence}(h:mJ Fe){n:Nat}{P:Program}{f:FuncId}{args:Array Value}{w:World}{R:Ending→World→Prop}(hc:Calls P f args w R):CallsIn Fe n P f args w R:=by
 cases h with
 |wide=>exact callsIn_wide.2 hc
 |round l=>exact (callsIn_wide.2 hc).inRound l
def Marks (strict:Prop)(T:List Deferred)(γ:Nat→Option G)(ds:List Deferred)(w:World)(n:Nat):Prop:=
 ∃Ds:List Nat,(ds=Ds.map (fun D=>{ target:= .collected D,args:=#[] })++T∧(strict→Ds=[]))∧Ds.Nodup∧∀D∈Ds,n≤D∧w.heap[D]?=some (.deferred (some []))∧∀b g,γ b=some g→g.block≠some D
theorem Marks.nil {strict:Prop}(T:List Deferred)(γ:Nat→Option G)(w:World)(n:Nat):Marks strict T γ T w n:=⟨[],⟨rfl,fun _=>rfl⟩,.nil,by simp⟩
theorem Marks.mono {s s':Prop}{T ds:List Deferred}{γ:Nat→Option G}{w:World}{n:Nat}(h:Marks s T γ ds w n)(hs:s'→s):Marks s' T γ ds w n:=by
 obtain⟨Ds,⟨h1,h2⟩,h3,h4⟩:=h
 exact⟨Ds,⟨h1,fun q=>h2 (hs q)⟩,h3,h4⟩
abbrev MS:Nat:=1000001
theorem Marks.bZ {M M':Nat→Nat→Prop}{γ γ':Nat→Option G}{w w':World}{strict:Prop}{T ds:List Deferred}{n:Nat}(hv:aQ M γ w M' γ' w')(h:Marks strict T γ ds w n):Marks strict T γ' ds w' n:=by
 obtain⟨Ds,h1,hn,h2⟩:=h
 refine⟨Ds,h1,hn,fun D hD=>?_⟩
 obtain⟨q1,q2,q3⟩:=h2 D hD
 have hlt:D<w.heap.size:=(Array.getElem?_eq_some_iff.1 q2).1
 exact⟨q1,(hv.block D hlt q3).trans q2,fun b g hg hB=>by
  obtain⟨b',g',r1,r2⟩:=hv.old b g D hg hB hlt
  exact q3 b' g' r1 r2⟩
theorem Marks.back {γ γ':Nat→Option G}{w:World}{strict:Prop}{T ds:List Deferred}{n:Nat}(hb:∀b g B,γ' b=some g→g.block=some B→∃b' g',γ b'=some g'∧g'.block=some B)(h:Marks strict T γ ds w n):Marks strict T γ' ds w n:=by
 obtain⟨Ds,h1,hn,h2⟩:=h
 refine⟨Ds,h1,hn,fun D hD=>?_⟩
 obtain⟨q1,q2,q3⟩:=h2 D hD
 exact⟨q1,q2,fun b g hg hB=>by
  obtain⟨b',g',r1,r2⟩:=hb b g D hg hB
  exact q3 b' g' r1 r2⟩
theorem Marks.sub {γ γ':Nat→Option G}{w:World}{strict:Prop}{T ds:List Deferred}{n:Nat}(hb:∀b g,γ' b=some g→γ b=some g)(h:Marks strict T γ ds w n):Marks strict T γ' ds w n:=h.back fun b g B h1 h2=>⟨b,g,hb b g h1,h2⟩
theorem L_ {M₀:Base}{M:Nat→Nat→Prop}{γ γ0:Nat→Option G}{σ:Nat→Option aU}{w w0:World}(h2:Store M₀ γ σ w)(h3:aQ M γ0 w0 (aC M₀ γ) γ w){D:Nat}{o o':Obj}
  (hB:w0.heap.size≤D) (hn:M₀.n≤D) (ho:w.heap[D]?=some o) (hc:o.isCells=false) (hu:∀b g,γ b=some g→g.block≠some D):
  Store M₀ γ σ (w.putObj D o')∧aQ M γ0 w0 (aC M₀ γ) γ (w.putObj D o')∧∀d v,Rep (aC M₀ γ) γ w d v→Rep (aC M₀ γ) γ (w.putObj D o') d v:=by
 have hoth:∀k,k≠D→(w.putObj D o').heap[k]?=w.heap[k]?:=fun k hk=>World.putObj_heap_other hk
 have hcell:∀B off v,w.cell? ⟨B,off,none⟩=some v→B≠D:=by
  intro B off v hv e
  subst e
  simp only[World.cell?,ho] at hv
  cases o <;> simp_all[Obj.isCells]
 have hev:Evo (aC M₀ γ) γ w (aC M₀ γ) γ (w.putObj D o'):=⟨fun B off v _ hv=>by
   rw[World.cell?_of_block (w:=w) (w':=w.putObj D o') (by simpa using hoth B (hcell B off v hv))];exact hv,fun _ _ h _=>h,fun _ g h=>⟨g,h,G.le_refl g⟩⟩
 refine⟨⟨fun b=>?_,h2.dist,fun B off hm=>by rw[World.putObj_size];exact h2.outer B off hm,h2.apart,M₀.stable _ _ h2.inv (fun k hk=>hoth k (by omega)),h2.low,by rw[World.putObj_size];exact h2.big⟩,?_,fun d v h=>h.Lc hev⟩
 ·rcases h2.names b with⟨blk,g,q1,q2,q3⟩|q
  ·exact .inl ⟨blk,g,q1,q2,q3.Lc hev (fun B hBg=>hoth B (fun e=>hu b g q2 (by rw[hBg,e])))⟩
  ·exact .inr q
 ·refine⟨h3.os,h3.tape,h3.output,by rw[World.putObj_size];exact h3.size,fun B off v hm hv=>?_,fun B off hm hlt=>h3.wr B off hm hlt,h3.names,fun B hlt hno=>(hoth B (by omega)).trans (h3.block B hlt hno),h3.old⟩
  have h4:=h3.cell B off v hm hv
  rw[World.cell?_of_block (w:=w) (w':=w.putObj D o') (by simpa using hoth B (hcell B off v h4))];exact h4
def CW.M {P:gy}(E:CW P):Base:=P.base E.m
def Rel {P:gy}(E:CW P)(ent:List Nat)(N:Nat)(F:Nat→D)(σ:Nat→Option aU)(a:Act)(w:World):Prop:=
 ∃ γ,(∀b g,E.γ b=some g→b∈ent)∧Store E.M γ σ w∧aQ (aC E.M E.γ) E.γ E.w (aC E.M γ) γ w∧a.tmps.size=N∧Marks (MS∈ent) E.tail γ a.defers w E.lo∧
  ∀t,Rep (aC E.M γ) γ w (F t) (a.tmps.getD t undef)
def oN (F:Nat→D)(dst:Option Tmp)(d:D):Nat→D:=
 match dst with
 |some t=>upd F t d
 |none=>F
def fg0:D→D
 | .slice sz nil es _=> .slice sz nil es none
 |d=>d
def fg:D→D
 | .slice sz nil es _=> .slice sz nil es none
 | .agg cs=> .agg (cs.map fg0)
 | .aJ cs=> .aJ (cs.map fg0)
 |d=>d
section
variable {M:Nat→Nat→Prop} {γ:Nat→Option G} {w:World}
theorem adB {d:D}{v:Value}(h:Rep M γ w d v):Rep M γ w (fg0 d) v:=by
 cases h with
 |nilslice ht=>exact .nilslice (iK.none _ _ _)
 |slice vs a1 a2 a3 a4 a5 a6 a7=>exact .slice vs a1 a2 a3 a4 a5 a6 (iK.none _ _ _)
 |junk v=>exact .junk v
 |bool b=>exact .bool b
 |int k n=>exact .int k n
 |str s=>exact .str s
 |arr a1 a2=>exact .arr a1 a2
 |view a1 a2 a3=>exact .view a1 a2 a3
 |ref a1=>exact .ref a1
 |dQ vs a1 a2 a3 a4=>exact .dQ vs a1 a2 a3 a4
 |aP=>exact .aP
 |fn a1 a2 a3 a4=>exact .fn a1 a2 a3 a4
 |dD=>exact .dD
 |agg a1 a2 a3=>exact .agg a1 a2 a3
 |aJ a1 a2=>exact .aJ a1 a2
 |iface a1=>exact .iface a1
 |aI=>exact .aI
 |val v=>exact .val v
 |bG=>exact .bG
 |map a1=>exact .map a1
theorem Es {cs:List D}{vs:Array Value}(hr:∀(i:Nat) d v,cs[i]?=some d→vs[i]?=some v→Rep M γ w d v):∀(i:Nat) d v,(cs.map fg0)[i]?=some d→vs[i]?=some v→Rep M γ w d v:=by
 intro i d v hd hv
 rw[List.getElem?_map] at hd
 cases hc:cs[i]? with
 |none=>rw[hc] at hd;cases hd
 |some c=>rw[hc] at hd;simp only[Option.map_some,Option.some.injEq] at hd;subst hd;exact adB (hr i c v hc hv)
theorem aae {d:D}{v:Value}(h:Rep M γ w d v):Rep M γ w (fg d) v:=by
 cases h with
 |agg hl h1 hr=>exact .agg (by simpa using hl) h1 (Es hr)
 |aJ hl hr=>exact .aJ (by simpa using hl) (Es hr)
 |nilslice ht=>exact .nilslice (iK.none _ _ _)
 |slice vs a1 a2 a3 a4 a5 a6 a7=>exact .slice vs a1 a2 a3 a4 a5 a6 (iK.none _ _ _)
 |junk v=>exact .junk v
 |bool b=>exact .bool b
 |int k n=>exact .int k n
 |str s=>exact .str s
 |arr a1 a2=>exact .arr a1 a2
 |view a1 a2 a3=>exact .view a1 a2 a3
 |ref a1=>exact .ref a1
 |dQ vs a1 a2 a3 a4=>exact .dQ vs a1 a2 a3 a4
 |aP=>exact .aP
 |fn a1 a2 a3 a4=>exact .fn a1 a2 a3 a4
 |dD=>exact .dD
 |iface a1=>exact .iface a1
 |aI=>exact .aI
 |val v=>exact .val v
 |bG=>exact .bG
 |map a1=>exact .map a1
end
structure Rec where
 zA:List Nat
 ws:List (Nat × aU)
def qF (P:gy)(ρ:Operand→D):Operand→D
 | .global g=>match P.glob g with
  |some cs=> .dQ cs
  |none=>ρ (.global g)
 |x=>ρ x
theorem QZ {P:gy}{m:Nat→Nat→Prop}{γ:Nat→Option G}{σ:Nat→Option aU}{w:World}{ρ:Operand→D}{ρv:Operand→Value}(h:Store (P.base m) γ σ w)(hg:∀g,ρv (.global g)= .pointer (some ⟨g,0,none⟩))(hρ:∀x,Rep (aC (P.base m) γ) γ w (ρ x) (ρv x)):
  ∀x,Rep (aC (P.base m) γ) γ w (qF P ρ x) (ρv x):=by
 intro x
 unfold qF
 split
 ·rename_i g
  split
  ·rename_i cs hcs
   obtain⟨hlt,vs,h1,h2,h3⟩:=P.agv w h.inv g cs hcs
   rw[hg]
   refine .dQ vs h1 rfl (fun j v hv=>?_) (fun j d v hd hv=>h3 j d v hd hv _ _)
   obtain⟨a,b⟩:=h2 j v hv
   refine⟨by simpa using a,?_,b⟩
   rintro (hm | ⟨c,gc,hc,hw⟩)
   ·have:=(h.outer _ _ hm).1
    exact absurd hlt (Nat.not_lt.2 this)
   ·have:=h.low c gc g hc (G.jQ hw)
    exact absurd hlt (Nat.not_lt.2 this)
  ·exact hρ _
 ·exact hρ _
def Yi (P:gy)(ρ:Operand→D)(σ:Nat→Option aU)(id:Nat)(o:Op):Option Eff:=
 match o with
 | .buildSlice t n ps=>if P.lit t n ps=true then opA P.prog ρ id t n ps else dR P.prog ρ σ id (.buildSlice t n ps)
 | .load t (.global g)=>dR P.prog (qF P ρ) σ id (.load t (.global g))
 | .indexAddr t (.global g) i=>dR P.prog (qF P ρ) σ id (.indexAddr t (.global g) i)
 |o=>dR P.prog ρ σ id o
def Ip (P:gy)(o:Op):Bool:=
 match o with
 | .buildSlice t n ps=>P.lit t n ps
 |o=>OY o
theorem xQ (P:gy)(ρ:Operand→D)(σ:Nat→Option aU)(id:Nat)(o:Op)(h:∀t n ps,o= .buildSlice t n ps→P.lit t n ps=false)(hl:∀t g,o≠ .load t (.global g))(hi:∀t g i,o≠ .indexAddr t (.global g) i):Yi P ρ σ id o=dR P.prog ρ σ id o∧Ip P o=OY o:=by
 cases o with
 |buildSlice t n ps=>have:=h t n ps rfl;simp only[Yi,Ip,this];exact⟨rfl,rfl⟩
 |load t a=>cases a with
  |global g=>exact absurd rfl (hl t g)
  | _=>exact⟨rfl,rfl⟩
 |indexAddr t x i=>cases x with
  |global g=>exact absurd rfl (hi t g i)
  | _=>exact⟨rfl,rfl⟩
 | _=>exact⟨rfl,rfl⟩
theorem Yj {P:gy}{m:Nat→Nat→Prop}{γ:Nat→Option G}{σ:Nat→Option aU}{w:World}{ρ:Operand→D}{ρv:Operand→Value}(h:Store (P.base m) γ σ w){id:Nat}(o:Oper)(hid:Ip P o.op=true→σ id=none)(hg:∀g,ρv (.global g)= .pointer (some ⟨g,0,none⟩))(hρ:∀x,Rep (aC (P.base m) γ) γ w (ρ x) (ρv x)){f:Eff}(hf:Yi P ρ σ id o.op=some f)(hs:f.side):
  Out (P.base m) γ σ w ((execOp ρv o).run P.prog w) f.val f.ws:=by
 by_cases hb:∃t n ps,o.op= .buildSlice t n ps∧P.lit t n ps=true
 ·obtain⟨t,n,ps,ho,hm⟩:=hb
  obtain⟨dst,op,ty,pos,after,guard⟩:=o
  simp only at ho;subst ho
  simp only[Yi,hm,if_true,opA,Option.bind_eq_some_iff] at hf
  obtain⟨⟨e,sz,by'⟩,he,hf⟩:=hf
  dsimp only at hf
  split at hf
  rotate_left
  ·cases hf
  rename_i hc
  simp only[Option.map_eq_some_iff] at hf
  obtain⟨es,hes,rfl⟩:=hf
  exact O8 h hρ (hid (by simp[Ip,hm])) he hc.1 hc.2.1 hc.2.2.1 hc.2.2.2 hes
 ·have hlit:∀t n ps,o.op= .buildSlice t n ps→P.lit t n ps=false:=fun t n ps ho=>by
   cases hm:P.lit t n ps with
   |false=>rfl
   |true=>exact absurd ⟨t,n,ps,ho,hm⟩ hb
  by_cases hl:∃t g,o.op= .load t (.global g)
  ·obtain⟨t,g,ho⟩:=hl
   have e:Yi P ρ σ id o.op=dR P.prog (qF P ρ) σ id o.op:=by rw[ho];rfl
   rw[e] at hf
   exact Dk h o (fun hu=>hid (by rw[ho] at hu ⊢;exact hu)) (QZ h hg hρ) hf hs
  ·by_cases hi:∃t g i,o.op= .indexAddr t (.global g) i
   ·obtain⟨t,g,i,ho⟩:=hi
    have e:Yi P ρ σ id o.op=dR P.prog (qF P ρ) σ id o.op:=by rw[ho];rfl
    rw[e] at hf
    exact Dk h o (fun hu=>hid (by rw[ho] at hu ⊢;exact hu)) (QZ h hg hρ) hf hs
   ·obtain⟨e1,e2⟩:=xQ P ρ σ id o.op hlit (fun t g ho=>hl ⟨t,g,ho⟩) (fun t g i ho=>hi ⟨t,g,i,ho⟩)
    rw[e1] at hf;rw[e2] at hid
    exact Dk h o hid hρ hf hs
def Ah (P:gy)(o:Oper)(ρ:Operand→D)(σ:Nat→Option aU)(d:D)(r:Rec):Prop:=
 (∃id f,(Ip P o.op=true→σ id=none)∧Yi P ρ σ id o.op=some f∧f.side∧d=f.val∧r=⟨if Ip P o.op=true then id::f.zA else f.zA,f.ws⟩)∨
 (∃fo args ts k first cap ins,o.op= .call { callee:= .value fo,args:=args,argTypes:=ts }∧ρ fo= .fn (.func k) first cap∧aG P k ((first++args.toList.map ρ++cap).map fg) ins d r.ws∧
  (∀b blk,lk ins b=some blk→σ b=some blk∧aA (fun i=>(lk ins i).isSome=true) blk)∧(∀b,(lk r.ws b).isSome=true→(lk ins b).isSome=true∨(σ b=none∧b∈r.zA))∧
  (∀d∈(first++args.toList.map ρ++cap).map fg,cZ (fun i=>(lk ins i).isSome=true) d)∧(∀b,(lk ins b).isSome=true→b∈r.zA))
def laid (σ:Nat→Option aU)(ws:List (Nat × aU)):Nat→Option aU:=fun b=>
 match lk ws b with
 |some blk=>some blk
 |none=>σ b
section
variable {P:gy} {E:CW P} {ent:List Nat} {N:Nat} {F:Nat→D} {σ:Nat→Option aU} {a:Act} {w:World}
theorem iF {M:Nat→Nat→Prop}{γ:Nat→Option G}(h:∀t,Rep M γ w (F t) (a.tmps.getD t undef))(x:Operand):Rep M γ w (bQ F x) (a.eval x):=by
 cases x with
 |tmp t=>exact h t
 |const v=>exact jy M v
 |global g=>exact .junk _
 |func f=>exact .fn rfl rfl (by simp) (by simp)
theorem ug {dst:Option Tmp}{v:Value}(hd:∀t,dst=some t→t<a.tmps.size)(t:Nat):(a.put dst v).tmps.getD t undef=if dst=some t then v else a.tmps.getD t undef:=by
 cases dst with
 |none=>simp[Act.put]
 |some d=>
  have hlt:=hd d rfl
  simp only[Act.put,Array.getD_eq_getD_getElem?,Array.getElem?_setIfInBounds,Option.some.injEq]
  by_cases e:d=t
  ·subst e;simp[hlt]
  ·simp[e]
theorem gW {dst:Option Tmp}{v:Value}:(a.put dst v).tmps.size=a.tmps.size:=by cases dst <;> simp[Act.put]
theorem put_defers {dst:Option Tmp}{v:Value}:(a.put dst v).defers=a.defers:=by cases dst <;> simp[Act.put]
theorem jR {M:Nat→Nat→Prop}{γ:Nat→Option G}{dst:Option Tmp}{v:Value}{d:D}(hd:∀t,dst=some t→t<a.tmps.size)(hv:Rep M γ w d v)(h:∀t,Rep M γ w (F t) (a.tmps.getD t undef)):
  ∀t,Rep M γ w (oN F dst d t) ((a.put dst v).tmps.getD t undef):=by
 intro t
 rw[ug hd]
 cases dst with
 |none=>simpa [oN] using h t
 |some d'=>
  simp only[oN,Option.some.injEq]
  by_cases e:d'=t
  ·subst e;simpa [upd_same] using hv
  ·rw[if_neg e,bF _ _ (Ne.symm e)];exact h t
theorem Rel.skip (h:Rel E ent N F σ a w){dst:Option Tmp}(hd:∀t,dst=some t→t<N)   : Rel E ent N (oN F dst (.aJ [])) σ (a.put dst undef) w:=by
 obtain⟨γ,h1,h2,h3,h4,h5,h6⟩:=h
 exact⟨γ,h1,h2,h3,by rw[gW];exact h4,by rw[put_defers];exact h5,jR (by rw[h4];exact hd) (.aJ rfl (by simp)) h6⟩
theorem vJ (σ:Nat→Option aU):∀ws:List (Nat × aU),Df σ ws=laid σ ws
 | []=>rfl
 |(b,blk)::ws=>by
  funext i
  simp only[Df,vJ σ ws,laid,lk,upd]
  split <;> rfl
end
section
variable {P:gy} {E:CW P} {ent:List Nat} {N:Nat} {F:Nat→D} {σ:Nat→Option aU} {a:Act} {w:World}
theorem fU.op {Fe:Fence}(hF:mJ Fe){nf:Nat}(h:Rel E ent N F σ a w){o:Oper}{x:Option Value}{d:D}{ws:List (Nat × aU)}{fo:Operand}{args:Array Operand}{ts:Array TypeId}{k:FuncId}{first cap:List D}{ins:List (Nat × aU)}
  (hop:o.op= .call { callee:= .value fo,args:=args,argTypes:=ts }) (hfo:bQ F fo= .fn (.func k) first cap) (hc:fU P x k ((first++args.toList.map (bQ F)++cap).map fg) ins d ws)
  (hin:∀b blk,lk ins b=some blk→σ b=some blk∧aA (fun i=>(lk ins i).isSome=true) blk) (hout:∀b,(lk ws b).isSome=true→(lk ins b).isSome=true∨σ b=none)
  (aaf:∀d∈(first++args.toList.map (bQ F)++cap).map fg,cZ (fun i=>(lk ins i).isSome=true) d) (hd:∀t,o.dst=some t→t<N) (next:Act→World→Prop) (Q:Exit→Act→World→Prop)
  (hn:x=none→∀v w',Rel E ent N (oN F o.dst d) (laid σ ws) (a.put o.dst v) w'→next (a.put o.dst v) w')
  (hx:∀y,x=some y→∀w',Rel E ent N F (laid σ ws) a w'→Q (.panic [{ v:=y,recovered:=false }]) a w'):o.wpIn Fe nf P.prog a w next Q:=by
 have agw:o.semAt Fe.round a.eval=execOp a.eval o:=Oper.semAt_plain Fe a.eval o fun c hc=>by rw[hc] at hop;cases hop
 refine⟨fun f _=>hF.fn f,?_⟩
 rw[agw]
 obtain⟨γ,h1,h2,h3,h4,h5,h6⟩:=h
 obtain⟨⟨fn,hfn,hname,hbody⟩,hcall⟩:=hc
 have agx:=iF h6 fo
 rw[hfo] at agx
 generalize hv:a.eval fo=fv at agx
 cases agx with
 | @fn _ _ _ first' cap' hl1 hl2 hr1 hr2=>
  have hrun:(execOp a.eval o).run P.prog w= .ok (.enter k (first'++args.map a.eval++cap')) w:=by
   simp only[execOp,hop,resolve,hv,Deferred.ofValue,Sem.run_bind,Sem.run_pure,Result.andThen_ok,invoke,callFunc,run_program,hfn,hname]
   simp[hbody]
  rw[hrun]
  refine⟨fun e=>(hF.depth e).elim,hF.calls ?_⟩
  have hvs:∀(i:Nat) d v,((first++args.toList.map (bQ F)++cap).map fg)[i]?=some d→(first'++args.map a.eval++cap').toList[i]?=some v→Rep (aC E.M γ) γ w d v:=by
   intro i d v hdd hvv
   rw[List.getElem?_map] at hdd
   obtain⟨d',hd',rfl⟩:=Option.map_eq_some_iff.1 hdd
   refine aae ?_
   simp only[Array.toList_append,Array.toList_map] at hvv
   by_cases q1:i<(first++args.toList.map (bQ F)).length
   ·rw[List.getElem?_append_left q1] at hd'
    rw[List.getElem?_append_left (by simp at q1 ⊢;omega)] at hvv
    by_cases q2:i<first.length
    ·rw[List.getElem?_append_left q2] at hd'
     rw[List.getElem?_append_left (by simp;omega)] at hvv
     exact hr1 i d' v hd' (by simpa using hvv)
    ·rw[List.getElem?_append_right (by omega)] at hd'
     rw[List.getElem?_append_right (by simp;omega)] at hvv
     simp only[Array.length_toList,hl1] at hvv
     rw[List.getElem?_map] at hd' hvv
     cases hx:args.toList[i - first.length]? with
     |none=>rw[hx] at hd';cases hd'
     |some x=>
      rw[hx] at hd' hvv
      simp only[Option.map_some,Option.some.injEq] at hd' hvv
      subst hd';subst hvv
      exact iF h6 x
   ·rw[List.getElem?_append_right (by omega)] at hd'
    rw[List.getElem?_append_right (by simp at q1 ⊢;omega)] at hvv
    have e:(first'.toList++args.toList.map a.eval).length=(first++args.toList.map (bQ F)).length:=by simp[hl1]
    rw[e] at hvv
    exact hr2 _ d' v hd' (by simpa using hvv)
  have:=fU.use (P:=P) ⟨⟨fn,hfn,hname,hbody⟩,hcall⟩ h2 hin hout (first'++args.map a.eval++cap').toList (by simp[hl1,hl2]) hvs aaf
  simp only[Array.toArray_toList] at this
  refine this.mono ?_
  rintro e w' ⟨v,γ',rfl,hst,hev,hrep⟩
  cases x with
  |none=>exact hn rfl _ _ ⟨γ',h1,hst,h3.trans hev,by rw[gW];exact h4,by rw[put_defers];exact h5.bZ hev,jR (by rw[h4];exact hd) hrep (fun t=>(h6 t).bZ hev)⟩
  |some y=>exact hx y rfl _ ⟨γ',h1,hst,h3.trans hev,h4,h5.bZ hev,fun t=>(h6 t).bZ hev⟩
theorem Ah.wp {Fe:Fence}(hF:mJ Fe){nf:Nat}(h:Rel E ent N F σ a w){o:Oper}{d:D}{r:Rec}(ho:Ah P o (bQ F) σ d r)(hd:∀t,o.dst=some t→t<N)(next:Act→World→Prop)(Q:Exit→Act→World→Prop)
  (hn:∀v w',Rel E ent N (oN F o.dst d) (laid σ r.ws) (a.put o.dst v) w'→next (a.put o.dst v) w'):o.wpIn Fe nf P.prog a w next Q:=by
 rcases ho with⟨id,f,hid,hf,hs,rfl,rfl⟩ | ⟨fo,args,ts,k,first,cap,ins,hop,hfo,hc,hin,hout,aaf,hrd⟩
 ·have agw:o.semAt Fe.round a.eval=execOp a.eval o:=Oper.semAt_plain Fe a.eval o fun c hc=>by rw[hc] at hf;simp[Yi,dR] at hf
  refine⟨fun f _=>hF.fn f,?_⟩
  rw[agw]
  obtain⟨γ,h1,h2,h3,h4,h5,h6⟩:=h
  obtain⟨v,w',γ',hr,hst,hev,hrep⟩:=Yj h2 o hid (ρv:=a.eval) (fun _=>rfl) (iF h6) hf hs
  have hrel:Rel E ent N (oN F o.dst f.val) (laid σ f.ws) (a.put o.dst v) w':=
   ⟨γ',h1,by rw[← vJ];exact hst,h3.trans hev,by rw[gW];exact h4,by rw[put_defers];exact h5.bZ hev,jR (by rw[h4];exact hd) hrep (fun t=>(h6 t).bZ hev)⟩
  rcases hr with hr | ⟨hr,rfl⟩
  ·rw[hr];exact hn _ _ hrel
  ·rw[hr];exact hn _ _ hrel
 ·exact fU.op (x:=none) hF h hop hfo hc hin (fun b hb=>(hout b hb).imp (fun h=>h) (fun h=>h.1)) aaf hd next Q (fun _=>hn) (fun _ h=>by cases h)
end
section
variable {P:Program} {ρ ρ':Operand→D} {σ σ':Nat→Option aU}
theorem uh {sz:Nat}:∀(ps:List (Nat × Operand)) (i:Nat),(∀p∈ps,ρ' p.2=ρ p.2)→jh ρ' sz i ps=jh ρ sz i ps
 | [],_,_=>rfl
 |(j,x)::ps,i,h=>by
  simp only[jh,h (j,x) (by simp),uh ps (i+1) (fun p hp=>h p (by simp[hp]))]
theorem Et {t:TypeId}:∀(ps:List (Nat × Operand)) (cs:List D),(∀p∈ps,ρ' p.2=ρ p.2)→pV P t ρ' ps cs=pV P t ρ ps cs
 | [],_,_=>rfl
 |(j,x)::ps,cs,h=>by
  simp only[pV,h (j,x) (by simp),fun cs=>Et (t:=t) ps cs (fun p hp=>h p (by simp[hp]))]
theorem U1 {id:Nat}{ts:Array TypeId}{x y:D}{f:Eff}(h:OW P σ id ts x y=some f)(hσ:∀b∈f.zA,σ' b=σ b):OW P σ' id ts x y=some f:=by
 unfold OW at h ⊢
 split at h
 ·unfold CZ at h ⊢
  split at h
  rotate_left
  ·cases h
  split at h
  ·cases h
  rename_i hcc
  simp only[if_neg hcc]
  split at h
  ·rename_i h0;rw[if_pos h0];exact h
  rename_i h0
  rw[if_neg h0]
  split at h
  ·rename_i t
   split at h
   ·rename_i hb
    split at h
    ·rename_i hc3
     simp only[Option.some.injEq] at h
     subst h
     simp only[hσ _ (List.mem_singleton.2 rfl),hb]
     rw[if_pos hc3]
    ·cases h
   ·cases h
  ·exact h
 ·unfold CY at h ⊢
  split at h
  rotate_left
  ·cases h
  split at h
  ·cases h
  rename_i hcc
  simp only[if_neg hcc]
  split at h
  ·rename_i t
   split at h
   ·rename_i hb
    split at h
    ·rename_i hc3
     simp only[Option.some.injEq] at h
     subst h
     simp only[hσ _ (List.mem_singleton.2 rfl),hb]
     rw[if_pos hc3]
    ·cases h
   ·cases h
  ·exact h
theorem Dl {id:Nat}{o:Op}{f:Eff}(h:dR P ρ σ id o=some f)(hρ:∀x∈o.operands,ρ' x=ρ x)(hσ:∀b∈f.zA,σ' b=σ b):dR P ρ' σ' id o=some f:=by
 cases o with
 |load t a=>
  simp only[dR,Option.bind_eq_some_iff] at h ⊢
  obtain⟨g,hg,sz,hsz,h⟩:=h
  refine⟨g,hg,sz,hsz,?_⟩
  rw[hρ a (by simp[Op.operands])]
  split at h
  ·rename_i b off e
   split at h
   ·rename_i cs hb
    obtain⟨d,hd,rfl⟩:=Option.map_eq_some_iff.1 h
    simp only[hσ b (by simp),hb];exact h
   ·rename_i z cs hb
    obtain⟨d,hd,rfl⟩:=Option.map_eq_some_iff.1 h
    simp only[hσ b (by simp),hb];exact h
   ·cases h
  ·exact h
  ·cases h
 |store t a x=>
  simp only[dR,Option.bind_eq_some_iff] at h ⊢
  obtain⟨sz,hsz,vs,hvs,h⟩:=h
  refine⟨sz,hsz,vs,by rw[hρ x (by simp[Op.operands])];exact hvs,?_⟩
  rw[hρ a (by simp[Op.operands])]
  split at h
  ·rename_i b off e
   split at h
   ·rename_i cs hb
    split at h
    ·simp only[Option.some.injEq] at h;subst h
     simp only[hσ b (by simp),hb];rw[if_pos (by assumption)]
    ·cases h
   ·rename_i z cs hb
    split at h
    ·simp only[Option.some.injEq] at h;subst h
     simp only[hσ b (by simp),hb];rw[if_pos (by assumption)]
    ·cases h
   ·cases h
  ·cases h
 |build t parts=>
  have:∀z,pV P t ρ' parts.toList z=pV P t ρ parts.toList z:=fun z=>Et parts.toList z (fun p hp=>hρ p.2 (by simp only[Op.operands,List.mem_toArray,List.mem_map];exact⟨p,hp,rfl⟩))
  simp only[dR,this] at h ⊢
  exact h
 |buildSlice t len parts=>
  have:∀sz,jh ρ' sz 0 parts.toList=jh ρ sz 0 parts.toList:=fun sz=>uh parts.toList 0 (fun p hp=>hρ p.2 (by simp only[Op.operands,List.mem_toArray,List.mem_map];exact⟨p,hp,rfl⟩))
  simp only[dR,this] at h ⊢
  exact h
 |makeFunc fn a b=>
  have h1:a.toList.map ρ'=a.toList.map ρ:=List.map_congr_left fun x hx=>hρ x (by simp only[Op.operands,Array.mem_append];exact .inl (by simpa using hx))
  have h2:b.toList.map ρ'=b.toList.map ρ:=List.map_congr_left fun x hx=>hρ x (by simp only[Op.operands,Array.mem_append];exact .inr (by simpa using hx))
  simp only[dR,h1,h2] at h ⊢
  exact h
 |slice t x lo hi mx=>
  cases mx with
  |some _=>simp[dR] at h
  |none=>
   have h0:ρ' x=ρ x:=hρ x (by simp[Op.operands])
   have h1:lo.map ρ'=lo.map ρ:=by
    cases lo with
    |none=>rfl
    |some l=>simp only[Option.map_some,hρ l (by simp[Op.operands])]
   have h2:hi.map ρ'=hi.map ρ:=by
    cases hi with
    |none=>rfl
    |some l=>simp only[Option.map_some,hρ l (by simp[Op.operands])]
   simp only[dR,h0,h1,h2] at h ⊢
   exact h
 |call c=>
  obtain⟨callee,args,ts⟩:=c
  cases callee with
  |builtin b=>
   have hmem:∀(i:Nat) x,args[i]?=some x→ρ' x=ρ x:=fun i x hx=>hρ x (by
    simp only[Op.operands,Call.operands]
    simpa using Array.mem_of_getElem? hx)
   cases b with
   |len=>
    simp only[dR] at h ⊢
    split at h
    rotate_left
    ·cases h
    rename_i hc
    rw[if_pos hc]
    simp only[Option.bind_eq_some_iff] at h ⊢
    obtain⟨x,hx,t,ht,h⟩:=h
    refine⟨x,hx,t,ht,?_⟩
    rw[hmem 0 x hx]
    split at h
    ·rename_i b e
     split at h
     rotate_left
     ·cases h
     rename_i es clock hb
     split at h
     rotate_left
     ·cases h
     rename_i hm
     simp only[Option.some.injEq] at h
     subst h
     simp only[hσ b (List.mem_singleton.2 rfl),hb,hm,if_true]
    ·exact h
   |delete=>
    simp only[dR] at h ⊢
    split at h
    rotate_left
    ·cases h
    rename_i hc
    rw[if_pos hc]
    simp only[Option.bind_eq_some_iff] at h ⊢
    obtain⟨t,ht,e,he,x,hx,y,hy,h⟩:=h
    refine⟨t,ht,e,he,x,hx,y,hy,?_⟩
    rw[hmem 0 x hx,hmem 1 y hy]
    split at h
    rotate_left
    ·cases h
    rename_i b s ex ey
    split at h
    rotate_left
    ·cases h
    rename_i es clock hb
    simp only[Option.some.injEq] at h
    subst h
    simp only[hσ b (List.mem_singleton.2 rfl),hb]
   |clear=>
    simp only[dR] at h ⊢
    split at h
    rotate_left
    ·cases h
    rename_i hc
    rw[if_pos hc]
    simp only[Option.bind_eq_some_iff] at h ⊢
    obtain⟨x,hx,t,ht,q,hq,z,hz,h⟩:=h
    refine⟨x,hx,t,ht,q,hq,z,hz,?_⟩
    rw[hmem 0 x hx]
    split at h
    rotate_left
    ·cases h
    rename_i hl
    rw[if_pos hl]
    unfold C9 at h ⊢
    split at h
    ·split at h
     rotate_left
     ·cases h
     rename_i hz2
     rw[if_pos hz2]
     split at h
     ·rename_i e cs hb
      simp only[Option.some.injEq] at h
      subst h
      simp only[hσ _ (List.mem_singleton.2 rfl),hb]
     ·cases h
    ·split at h
     rotate_left
     ·cases h
     rename_i hz2
     rw[if_pos hz2]
     split at h
     ·rename_i e cs hb
      simp only[Option.some.injEq] at h
      subst h
      simp only[hσ _ (List.mem_singleton.2 rfl),hb]
     ·cases h
    ·cases h
   |append=>
    simp only[dR] at h ⊢
    split at h
    rotate_left
    ·cases h
    rename_i hc
    rw[if_pos hc]
    simp only[Option.bind_eq_some_iff] at h ⊢
    obtain⟨x,hx,y,hy,h⟩:=h
    refine⟨x,hx,y,hy,?_⟩
    rw[hmem 0 x hx,hmem 1 y hy]
    exact U1 h hσ
   |min=>
    simp only[dR] at h ⊢
    split at h
    rotate_left
    ·cases h
    rename_i hc
    rw[if_pos hc]
    simp only[Option.bind_eq_some_iff] at h ⊢
    obtain⟨x,hx,y,hy,h⟩:=h
    exact⟨x,hx,y,hy,by rw[hmem 0 x hx,hmem 1 y hy];exact h⟩
   |max=>
    simp only[dR] at h ⊢
    split at h
    rotate_left
    ·cases h
    rename_i hc
    rw[if_pos hc]
    simp only[Option.bind_eq_some_iff] at h ⊢
    obtain⟨x,hx,y,hy,h⟩:=h
    exact⟨x,hx,y,hy,by rw[hmem 0 x hx,hmem 1 y hy];exact h⟩
   | _=>simp[dR] at h
  | _=>simp[dR] at h
 |move x=>have:=hρ x (by simp[Op.operands]);simp only[dR,this] at h ⊢;exact h
 |assign x=>have:=hρ x (by simp[Op.operands]);simp only[dR,this] at h ⊢;exact h
 |pick c a b=>
  have h1:=hρ c (by simp[Op.operands]);have h2:=hρ a (by simp[Op.operands]);have h3:=hρ b (by simp[Op.operands])
  simp only[dR,h1,h2,h3] at h ⊢;exact h
 |alloc e=>exact h
 |box e x=>have:=hρ x (by simp[Op.operands]);simp only[dR,this] at h ⊢;exact h
 |nilCheck x=>have:=hρ x (by simp[Op.operands]);simp only[dR,this] at h ⊢;exact h
 |binOp op xt x y yt=>have h1:=hρ x (by simp[Op.operands]);have h2:=hρ y (by simp[Op.operands]);simp only[dR,h1,h2] at h ⊢;exact h
 |unOp op xt x=>have:=hρ x (by simp[Op.operands]);simp only[dR,this] at h ⊢;exact h
 |convert s d x=>have:=hρ x (by simp[Op.operands]);simp only[dR,this] at h ⊢;exact h
 |makeInterface t x=>have:=hρ x (by simp[Op.operands]);simp only[dR,this] at h ⊢;exact h
 |fieldAddr s x fi=>have:=hρ x (by simp[Op.operands]);simp only[dR,this] at h ⊢;exact h
 |field s x fi=>have:=hρ x (by simp[Op.operands]);simp only[dR,this] at h ⊢;exact h
 |indexAddr t x i=>have h1:=hρ x (by simp[Op.operands]);have h2:=hρ i (by simp[Op.operands]);simp only[dR,h1,h2] at h ⊢;exact h
 |index t x i=>have h1:=hρ x (by simp[Op.operands]);have h2:=hρ i (by simp[Op.operands]);simp only[dR,h1,h2] at h ⊢;exact h
 |extract x i=>have:=hρ x (by simp[Op.operands]);simp only[dR,this] at h ⊢;exact h
 |typeAssert x s d ok=>cases ok with
  |false=>simp[dR] at h
  |true=>have:=hρ x (by simp[Op.operands]);simp only[dR,this] at h ⊢;exact h
 |range t x=>
  simp only[dR] at h ⊢
  rw[hρ x (by simp[Op.operands])]
  split at h
  ·exact h
  ·rename_i b e
   split at h
   rotate_left
   ·cases h
   rename_i es clock hb
   split at h
   rotate_left
   ·cases h
   rename_i hm
   simp only[Option.some.injEq] at h
   subst h
   simp only[hσ b (List.mem_singleton.2 rfl),hb,hm,if_true]
  ·cases h
 |makeMap t r=>
  cases r with
  |some _=>simp[dR] at h
  |none=>exact h
 |lookup t x i ok=>
  simp only[dR,Option.bind_eq_some_iff] at h ⊢
  obtain⟨e,he,z,hz,h⟩:=h
  refine⟨e,he,z,hz,?_⟩
  rw[hρ x (by simp[Op.operands]),hρ i (by simp[Op.operands])]
  split at h
  ·exact h
  ·rename_i b s ex ei
   split at h
   rotate_left
   ·cases h
   rename_i es clock hb
   simp only[Option.some.injEq] at h
   subst h
   simp only[hσ b (List.mem_singleton.2 rfl),hb]
  ·cases h
 |mapUpdate t m i x=>
  simp only[dR,Option.bind_eq_some_iff] at h ⊢
  obtain⟨e,he,h⟩:=h
  refine⟨e,he,?_⟩
  rw[hρ m (by simp[Op.operands]),hρ i (by simp[Op.operands]),hρ x (by simp[Op.operands])]
  split at h
  ·rename_i b s ex ei
   split at h
   rotate_left
   ·cases h
   rename_i es clock hb
   simp only[Option.some.injEq] at h
   subst h
   simp only[hσ b (List.mem_singleton.2 rfl),hb]
  ·cases h
 |next x st=>
  cases st with
  |false=>simp[dR] at h
  |true=>
   simp only[dR] at h ⊢
   rw[hρ x (by simp[Op.operands])]
   split at h
   rotate_left
   ·cases h
   rename_i b e
   split at h
   rotate_left
   ·cases h
   rename_i s pos hb
   simp only[Option.some.injEq] at h
   subst h
   simp only[hσ b (List.mem_singleton.2 rfl),hb]
 | _=>simp[dR] at h
theorem Yk {P:gy}{id:Nat}{o:Op}{f:Eff}(h:Yi P ρ σ id o=some f)(hρ:∀x∈o.operands,ρ' x=ρ x)(hσ:∀b∈f.zA,σ' b=σ b):Yi P ρ' σ' id o=some f:=by
 by_cases hb:∃t n ps,o= .buildSlice t n ps∧P.lit t n ps=true
 ·obtain⟨t,n,parts,rfl,hm⟩:=hb
  have:∀sz,jh ρ' sz 0 parts.toList=jh ρ sz 0 parts.toList:=fun sz=>uh parts.toList 0 (fun p hp=>hρ p.2 (by simp only[Op.operands,List.mem_toArray,List.mem_map];exact⟨p,hp,rfl⟩))
  simp only[Yi,hm,if_true,opA,this] at h ⊢
  exact h
 ·have hh:∀t n ps,o= .buildSlice t n ps→P.lit t n ps=false:=fun t n ps ho=>by
   cases hm:P.lit t n ps with
   |false=>rfl
   |true=>exact absurd ⟨t,n,ps,ho,hm⟩ hb
  have hG:∀x∈o.operands,qF P ρ' x=qF P ρ x:=by
   intro x hx
   have:=hρ x hx
   unfold qF
   split
   ·rename_i g
    cases P.glob g with
    |some cs=>rfl
    |none=>exact this
   ·exact this
  by_cases hl:∃t g,o= .load t (.global g)
  ·obtain⟨t,g,rfl⟩:=hl
   exact Dl (ρ:=qF P ρ) (ρ':=qF P ρ') (show dR P.prog (qF P ρ) σ id (.load t (.global g))=some f from h) hG hσ
  ·by_cases hi:∃t g i,o= .indexAddr t (.global g) i
   ·obtain⟨t,g,i,rfl⟩:=hi
    exact Dl (ρ:=qF P ρ) (ρ':=qF P ρ') (show dR P.prog (qF P ρ) σ id (.indexAddr t (.global g) i)=some f from h) hG hσ
   ·have f1:∀t g,o≠ .load t (.global g):=fun t g ho=>hl ⟨t,g,ho⟩
    have f2:∀t g i,o≠ .indexAddr t (.global g) i:=fun t g i ho=>hi ⟨t,g,i,ho⟩
    rw[(xQ P ρ σ id o hh f1 f2).1] at h
    rw[(xQ P ρ' σ' id o hh f1 f2).1]
    exact Dl h hρ hσ
theorem Ah.congr {P:gy}{o:Oper}{d:D}{r:Rec}(h:Ah P o ρ σ d r)(hρ:∀x∈o.op.operands,ρ' x=ρ x)(hσ:∀b∈r.zA,σ' b=σ b):Ah P o ρ' σ' d r:=by
 rcases h with⟨id,f,hid,hf,hs,rfl,rfl⟩ | ⟨fo,args,ts,k,first,cap,ins,hop,hfo,hc,hin,hout,aaf,hrd⟩
 ·refine .inl ⟨id,f,fun hu=>?_,Yk hf hρ (fun b hb=>hσ b ?_),hs,rfl,rfl⟩
  ·rw[hσ id (by simp only[if_pos hu];simp)];exact hid hu
  ·dsimp only;split
   ·exact List.mem_cons_of_mem _ hb
   ·exact hb
 ·have e1:ρ' fo=ρ fo:=hρ fo (by simp[hop,Op.operands,Call.operands])
  have e2:args.toList.map ρ'=args.toList.map ρ:=List.map_congr_left fun x hx=>hρ x (by simp only[hop,Op.operands,Call.operands,Array.mem_append];exact .inr (by simpa using hx))
  refine .inr ⟨fo,args,ts,k,first,cap,ins,hop,e1.trans hfo,by rw[e2];exact hc,fun b blk hb=>?_,fun b hb=>?_,by rw[e2];exact aaf,hrd⟩
  ·obtain⟨q1,q2⟩:=hin b blk hb
   exact⟨by rw[hσ b (hrd b (by simp[hb]))];exact q1,q2⟩
  ·rcases hout b hb with q | ⟨q1,q2⟩
   ·exact .inl q
   ·exact .inr ⟨by rw[hσ b q2];exact q1,q2⟩
end
end Go.Id
namespace Go.Id
open Go
theorem Mc {α:Type}(l:List (Nat × α))(i k:Nat):lk (dl l i) k=if k=i then none else lk l k:=by
 induction l with
 |nil=>simp[dl,lk]
 |cons p l ih=>
  obtain⟨j,v⟩:=p
  simp only[dl]
  split
  ·rename_i h
   subst h
   rw[ih]
   by_cases e:k=i
   ·simp[e]
   ·simp[lk,e]
  ·rename_i h
   simp only[lk,ih]
   by_cases e:k=j
   ·subst e
    have h':¬k=i:=fun e=>h e.symm
    simp[h']
   ·simp[e]
theorem zB {α:Type}(l:List (Nat × α))(i:Nat)(v:α)(k:Nat):lk ((i,v)::dl l i) k=if k=i then some v else lk l k:=by
 simp only[lk,Mc]
 split <;> simp_all
theorem Q5 {α:Type}(l:List (Nat × α)):∀k,fresh l≤k→lk l k=none:=by
 induction l with
 |nil=>intro k _;rfl
 |cons p l ih=>
  obtain⟨j,v⟩:=p
  intro k hk
  simp only[fresh] at hk
  simp only[lk]
  rw[if_neg (by omega)]
  exact ih k (by omega)
theorem get_put (st:St)(dst:Option Tmp)(d:D):(st.put dst d).get=oN st.get dst d:=by
 funext k
 cases dst with
 |none=>rfl
 |some t=>
  simp only[St.put,St.get,oN,upd,zB]
  split <;> rfl
def St.lay (st:St):List (Nat × aU)→St
 | []=>st
 |(b,blk)::ws=>{ st with σ:=(b,blk)::dl (St.lay st ws).σ b }
theorem nD (st:St)(ws:List (Nat × aU)):(st.lay ws).get=st.get:=by cases ws <;> rfl
theorem lay_σ (st:St):∀ws:List (Nat × aU),lk (st.lay ws).σ=laid (lk st.σ) ws
 | []=>rfl
 |(b,blk)::ws=>by
  funext k
  simp only[St.lay,zB,lay_σ st ws,laid,lk]
  split <;> rfl
theorem put_σ (st:St)(dst:Option Tmp)(d:D):(st.put dst d).σ=st.σ:=by cases dst <;> rfl
def jK (ops:Array Oper)(F:Nat→D)(o:Oper):Option Bool:=
 match o.guard with
 |none=>some true
 |some (j,want)=>match (ops[j]?).bind (·.dst) with
  |some t=>match F t with
   | .bool b=>some (b == want)
   | .aJ _=>some false
   | _=>none
  |none=>some false
structure bP where
 ran:Bool
 d:D
 r:Rec
inductive Chain (P:gy) (ops:Array Oper):List Oper→St→List bP→St→Prop
 |nil (st:St):Chain P ops [] st [] st
 | ran {o:Oper} {os:List Oper} {st st':St} {d:D} {r:Rec} {rs:List bP} (hw:jK ops st.get o=some true) (ho:Ah P o (bQ st.get) (lk st.σ) d r)
   (h:Chain P ops os ((st.put o.dst d).lay r.ws) rs st'):Chain P ops (o::os) st (⟨true,d,r⟩::rs) st'
 | skip {o:Oper} {os:List Oper} {st st':St} {rs:List bP} (hw:jK ops st.get o=some false) (h:Chain P ops os (st.put o.dst (.aJ [])) rs st'):
   Chain P ops (o::os) st (⟨false,.aJ [],⟨[],[]⟩⟩::rs) st'
section
variable {P:gy} {E:CW P} {ent:List Nat} {N:Nat} {F:Nat→D} {σ:Nat→Option aU} {a:Act} {w:World}
theorem pz (h:Rel E ent N F σ a w){ops:Array Oper}{o:Oper}{b:Bool}(hw:jK ops F o=some b):Region.wanted o (yielded ops a.tmps)=b:=by
 obtain⟨γ,h1,h2,h3,h4,h5,h6⟩:=h
 unfold jK at hw
 unfold Region.wanted
 split at hw
 ·rename_i hg;simp only[Option.some.injEq] at hw;subst hw;simp[hg]
 ·rename_i j want hg
  simp only[hg]
  split at hw
  ·rename_i t ht
   split at hw
   ·rename_i v hv
    simp only[Option.some.injEq] at hw
    subst hw
    have hr:=h6 t
    rw[hv] at hr
    have e:=nO hr
    rw[Array.getD_eq_getD_getElem?] at e
    have:a.tmps[t]?=some (.bool v):=by
     cases hq:a.tmps[t]? with
     |none=>rw[hq] at e;simp[undef] at e
     |some u=>rw[hq] at e;simp at e;rw[e]
    simp only[yielded,ht,Option.bind_some,this]
    cases v <;> cases want <;> rfl
   ·rename_i vs hv
    simp only[Option.some.injEq] at hw
    subst hw
    have hr:=h6 t
    rw[hv] at hr
    have:∀b,a.tmps[t]?≠some (.bool b):=by
     intro b hq
     rw[Array.getD_eq_getD_getElem?,hq] at hr
     cases hr
    simp only[yielded,ht,Option.bind_some]
    cases hq:a.tmps[t]? with
    |none=>rfl
    |some u=>cases u <;> first|rfl|exact absurd hq (this _)
   ·cases hw
  ·rename_i ht
   simp only[Option.some.injEq] at hw
   subst hw
   simp[yielded,ht]
def dX (N:Nat)(ops:Array Oper):Bool:=ops.all fun o=>match o.dst with|some t=>decide (t<N)|none=>true
theorem dH {ops:Array Oper}(h:dX N ops=true){o:Oper}(ho:o∈ops):∀t,o.dst=some t→t<N:=by
 intro t ht
 have:=(Array.all_eq_true'.1 h) o ho
 simpa [ht] using this
theorem Chain.wpOps {Fe:Fence}(hF:mJ Fe){nf:Nat}{ops:Array Oper}(hd:dX N ops=true)(Q:Exit→Act→World→Prop):∀{os:List Oper} {st st':St} {rs:List bP},Chain P ops os st rs st'→∀(k:Nat),ops.toList.drop k=os→
  ∀(a:Act) (w:World),Rel E ent N st.get (lk st.σ) a w→(∀a' w',Rel E ent N st'.get (lk st'.σ) a' w'→Q .normal a' w')→wpOpsIn Fe nf P.prog ops Q (List.range' k os.length) a w:=by
 intro os st st' rs h
 induction h with
 |nil st=>intro k hk a w hr hq;exact hq a w hr
 | @ran o os st st' d r rs hw ho hc ih=>
  intro k hk a w hr hq
  have hko:ops[k]?=some o:=by
   have:(ops.toList.drop k)[0]?=some o:=by rw[hk];rfl
   simpa [List.getElem?_drop] using this
  have hmem:o∈ops:=Array.mem_of_getElem? hko
  simp only[List.length_cons,List.range'_succ,Go.wpOpsIn,hko,pz hr hw,if_true]
  refine ho.wp hF hr (dH hd hmem) _ _ (fun v w' hr'=>ih (k+1) ?_ _ w' ?_ hq)
  ·have:ops.toList.drop (k+1)=(ops.toList.drop k).drop 1:=by rw[List.drop_drop]
   rw[this,hk];rfl
  ·rw[nD,get_put,lay_σ,put_σ];exact hr'
 | @skip o os st st' rs hw hc ih=>
  intro k hk a w hr hq
  have hko:ops[k]?=some o:=by
   have:(ops.toList.drop k)[0]?=some o:=by rw[hk];rfl
   simpa [List.getElem?_drop] using this
  have hmem:o∈ops:=Array.mem_of_getElem? hko
  simp only[List.length_cons,List.range'_succ,Go.wpOpsIn,hko,pz hr hw,Bool.false_eq_true,if_false]
  refine⟨fun f _=>hF.fn f,ih (k+1) ?_ _ _ ?_ hq⟩
  ·have:ops.toList.drop (k+1)=(ops.toList.drop k).drop 1:=by rw[List.drop_drop]
   rw[this,hk];rfl
  ·rw[get_put,put_σ];exact hr.skip (dH hd hmem)
theorem GX {Fe:Fence}(hF:mJ Fe){nf:Nat}{id:Nat}{ops:Array Oper}(hd:dX N ops=true){Q:Exit→Act→World→Prop}{st st':St}{rs:List bP}(h:Chain P ops ops.toList st rs st')(hr:Rel E ent N st.get (lk st.σ) a w)
  (hq:∀a' w',Rel E ent N st'.get (lk st'.σ) a' w'→Q .normal a' w'):(Code.region id ops false).wpIn Fe nf P.prog Q a w:=by
 refine wpIn_region ?_
 have:=h.wpOps hF (nf:=nf) hd Q 0 rfl a w hr hq
 simpa [List.range_eq_range'] using this
end
def jf (L:Nat→Bool):Nat→List (Oper × bP)→(Nat→D)→Nat→D
 | _,[],F=>F
 |i,(o,r)::l,F=>jf L (i+1) l (if L i=true then oN F o.dst r.d else F)
def foldσ (L:Nat→Bool):Nat→List (Oper × bP)→(Nat→Option aU)→Nat→Option aU
 | _,[],σ=>σ
 |i,(o,r)::l,σ=>foldσ L (i+1) l (if L i=true then laid σ r.r.ws else σ)
theorem nR {L L':Nat→Bool}{t:Nat}:∀(l:List (Oper × bP)) (k:Nat) (F F':Nat→D),(∀i o r,l[i]?=some (o,r)→o.dst=some t→L (k+i)=L' (k+i))→F t=F' t→jf L k l F t=jf L' k l F' t
 | [],_,_,_,_,h=>h
 |(o,r)::l,k,F,F',hl,h=>by
  simp only[jf]
  refine nR l (k+1) _ _ (fun i o' r' hi ho=>?_) ?_
  ·have:=hl (i+1) o' r' (by simpa using hi) ho
   rw[show k+1+i=k+(i+1) from by omega];exact this
  ·by_cases e:o.dst=some t
   ·have:=hl 0 o r rfl e
    simp only[Nat.add_zero] at this
    rw[this]
    split
    ·simp[oN,e,upd]
    ·exact h
   ·have key:∀F:Nat→D,oN F o.dst r.d t=F t:=by
     intro F
     cases hd:o.dst with
     |none=>rfl
     |some t'=>simp only[oN,upd];rw[if_neg (fun q=>e (by rw[hd,q]))]
    split <;> split <;> simp[key,h]
theorem foldσ_agree {L L':Nat→Bool}{b:Nat}:∀(l:List (Oper × bP)) (k:Nat) (σ σ':Nat→Option aU),(∀i o r,l[i]?=some (o,r)→(lk r.r.ws b).isSome=true→L (k+i)=L' (k+i))→σ b=σ' b→foldσ L k l σ b=foldσ L' k l σ' b
 | [],_,_,_,_,h=>h
 |(o,r)::l,k,σ,σ',hl,h=>by
  simp only[foldσ]
  refine foldσ_agree l (k+1) _ _ (fun i o' r' hi ho=>?_) ?_
  ·have:=hl (i+1) o' r' (by simpa using hi) ho
   rw[show k+1+i=k+(i+1) from by omega];exact this
  ·cases e:lk r.r.ws b with
   |some blk=>
    have:=hl 0 o r rfl (by simp[e])
    simp only[Nat.add_zero] at this
    rw[this]
    split
    ·simp[laid,e]
    ·exact h
   |none=>
    have key:∀ σ:Nat→Option aU,laid σ r.r.ws b=σ b:=by intro σ;simp[laid,e]
    split <;> split <;> simp[key,h]
theorem pX {L:Nat→Bool}:∀(l:List (Oper × bP)) (k:Nat) (F:Nat→D),(∀i,k≤i→L i=false)→jf L k l F=F
 | [],_,_,_=>rfl
 |(o,r)::l,k,F,h=>by simp only[jf,h k (Nat.le_refl _)];exact pX l (k+1) F (fun i hi=>h i (by omega))
theorem foldσ_none {L:Nat→Bool}:∀(l:List (Oper × bP)) (k:Nat) (σ:Nat→Option aU),(∀i,k≤i→L i=false)→foldσ L k l σ=σ
 | [],_,_,_=>rfl
 |(o,r)::l,k,F,h=>by simp only[foldσ,h k (Nat.le_refl _)];exact foldσ_none l (k+1) F (fun i hi=>h i (by omega))
def aag (P:gy)(ops:Array Oper)(F:Nat→D)(σ:Nat→Option aU)(o:Oper)(r:bP):Prop:=
 (jK ops F o=some true∧Ah P o (bQ F) σ r.d r.r)∨(jK ops F o=some false∧r.d= .aJ []∧r.r=⟨[],[]⟩)
theorem Q7 (σ:Nat→Option aU):laid σ []=σ:=rfl
theorem Chain.steps {P:gy}{ops:Array Oper}{os:List Oper}{st st':St}{rs:List bP}(h:Chain P ops os st rs st'):
  rs.length=os.length∧(∀k L,(∀i,k≤i→L i=true)→jf L k (os.zip rs) st.get=st'.get∧foldσ L k (os.zip rs) (lk st.σ)=lk st'.σ)∧
  ∀(k j:Nat) o r,(os.zip rs)[j]?=some (o,r)→aag P ops (jf (fun i=>decide (i<k+j)) k (os.zip rs) st.get) (foldσ (fun i=>decide (i<k+j)) k (os.zip rs) (lk st.σ)) o r:=by
 induction h with
 |nil st=>exact⟨rfl,fun k L _=>⟨rfl,rfl⟩,by simp⟩
 | @ran o os st st' d r rs hw ho hc ih=>
  obtain⟨h1,h2,h3⟩:=ih
  refine⟨by simp[h1],fun k L hL=>?_,fun k j o' r' hj=>?_⟩
  ·have:=h2 (k+1) L (fun i hi=>hL i (by omega))
   rw[nD,get_put,lay_σ,put_σ] at this
   simpa [jf,foldσ,hL k (Nat.le_refl _)] using this
  ·cases j with
   |zero=>
    simp only[List.zip_cons_cons,List.getElem?_cons_zero,Option.some.injEq,Prod.mk.injEq] at hj
    obtain⟨rfl,rfl⟩:=hj
    rw[pX _ _ _ (fun i hi=>by simp;omega),foldσ_none _ _ _ (fun i hi=>by simp;omega)]
    exact .inl ⟨hw,ho⟩
   |succ j=>
    have:=h3 (k+1) j o' r' (by simpa using hj)
    rw[nD,get_put,lay_σ,put_σ] at this
    simp only[List.zip_cons_cons,jf,foldσ]
    rw[if_pos (by simp),if_pos (by simp)]
    rw[show k+(j+1)=k+1+j from by omega]
    exact this
 | @skip o os st st' rs hw hc ih=>
  obtain⟨h1,h2,h3⟩:=ih
  refine⟨by simp[h1],fun k L hL=>?_,fun k j o' r' hj=>?_⟩
  ·have:=h2 (k+1) L (fun i hi=>hL i (by omega))
   rw[get_put,put_σ] at this
   simpa [jf,foldσ,hL k (Nat.le_refl _),Q7] using this
  ·cases j with
   |zero=>
    simp only[List.zip_cons_cons,List.getElem?_cons_zero,Option.some.injEq,Prod.mk.injEq] at hj
    obtain⟨rfl,rfl⟩:=hj
    rw[pX _ _ _ (fun i hi=>by simp;omega),foldσ_none _ _ _ (fun i hi=>by simp;omega)]
    exact .inr ⟨hw,rfl,rfl⟩
   |succ j=>
    have:=h3 (k+1) j o' r' (by simpa using hj)
    rw[get_put,put_σ] at this
    simp only[List.zip_cons_cons,jf,foldσ]
    rw[if_pos (by simp),if_pos (by simp)]
    rw[show k+(j+1)=k+1+j from by omega]
    exact this
def pY (ops:Array Oper)(o:Oper):List Tmp:=
 (match o.guard with|some (j,_)=>((ops[j]?).bind (·.dst)).toList|none=>[])++o.op.operands.toList.filterMap fun | .tmp t=>some t | _=>none
def vK (ops:Array Oper)(oi:Oper)(ri:bP)(oj:Oper)(rj:bP):Bool:=
 (match oi.dst with|some t=>!(pY ops oj).contains t && !(match oj.dst with|some t'=>t' == t|none=>false)|none=>true) &&
 (match oj.dst with|some t=>!(pY ops oi).contains t|none=>true) &&
 ri.r.ws.all (fun p=>!rj.r.zA.contains p.1 && !(rj.r.ws.any fun q=>q.1 == p.1)) && rj.r.ws.all (fun p=>!ri.r.zA.contains p.1)
def r_ (ops:Array Oper)(rs:List bP):Bool:=
 let A:=Region.before ops
 (ops.toList.zipIdx.all fun (o,j)=>o.after.all fun e=>!Region.binds .any e || decide (e.on<j)) &&
 (ops.toList.zipIdx.all fun (o,j)=>(List.range j).all fun i=>!(A.getD j 0).testBit i || o.after.any fun e=>Region.binds .any e && (e.on == i || (decide (i<e.on) && (A.getD e.on 0).testBit i))) &&
 ((ops.toList.zip rs).zipIdx.all fun (q,j)=>((ops.toList.zip rs).take j).zipIdx.all fun (p,i)=>(A.getD j 0).testBit i || vK ops p.1 p.2 q.1 q.2)
theorem U2 {α:Type}(l:List (Nat × α))(b:Nat):(lk l b).isSome=l.any fun q=>q.1 == b:=by
 induction l with
 |nil=>rfl
 |cons p l ih=>
  obtain⟨k,v⟩:=p
  simp only[lk,List.any_cons]
  by_cases e:b=k
  ·subst e;simp
  ·have:(k == b)=false:=by simp;exact fun h=>e h.symm
   rw[if_neg e,ih,this,Bool.false_or]
end Go.Id
namespace Go.Id
open Go
theorem Iq {t:Nat}:∀(l:List (Oper × bP)) (j k:Nat) (F:Nat→D) (o:Oper) (r:bP),l[j]?=some (o,r)→o.dst=some t→jf (fun i=>decide (i<k+j+1)) k l F t=r.d
 | [],_,_,_,_,_,h,_=>by simp at h
 |(o',r')::l,0,k,F,o,r,h,hd=>by
  simp only[List.getElem?_cons_zero,Option.some.injEq,Prod.mk.injEq] at h
  obtain⟨rfl,rfl⟩:=h
  simp only[jf]
  rw[pX _ _ _ (fun i hi=>by simp;omega),if_pos (by simp)]
  simp[oN,hd,upd]
 |(o',r')::l,j+1,k,F,o,r,h,hd=>by
  simp only[jf]
  rw[if_pos (by simp;omega)]
  have:=Iq l j (k+1) (oN F o'.dst r'.d) o r (by simpa using h) hd
  rw[show k+(j+1)+1=k+1+j+1 from by omega]
  exact this
theorem foldσ_last {b:Nat}{blk:aU}:∀(l:List (Oper × bP)) (j k:Nat) (σ:Nat→Option aU) (o:Oper) (r:bP),l[j]?=some (o,r)→lk r.r.ws b=some blk→foldσ (fun i=>decide (i<k+j+1)) k l σ b=some blk
 | [],_,_,_,_,_,h,_=>by simp at h
 |(o',r')::l,0,k,σ,o,r,h,hd=>by
  simp only[List.getElem?_cons_zero,Option.some.injEq,Prod.mk.injEq] at h
  obtain⟨rfl,rfl⟩:=h
  simp only[foldσ]
  rw[foldσ_none _ _ _ (fun i hi=>by simp;omega),if_pos (by simp)]
  simp[laid,hd]
 |(o',r')::l,j+1,k,σ,o,r,h,hd=>by
  simp only[foldσ]
  rw[if_pos (by simp;omega)]
  have:=foldσ_last l j (k+1) (laid σ r'.r.ws) o r (by simpa using h) hd
  rw[show k+(j+1)+1=k+1+j+1 from by omega]
  exact this
structure aiu (ops:Array Oper) (z:List (Oper × bP)) (A:Nat→Nat→Bool):Prop where
 edges:∀j o,ops[j]?=some o→∀e∈o.after,Region.binds .any e=true→e.on<j
 anc:∀j o i,ops[j]?=some o→i<j→A i j=true→∃e∈o.after,Region.binds .any e=true∧(e.on=i∨(i<e.on∧A i e.on=true))
 indep:∀i j oi ri oj rj,i<j→z[i]?=some (oi,ri)→z[j]?=some (oj,rj)→A i j=false→vK ops oi ri oj rj=true
theorem adC {ops:Array Oper}{rs:List bP}(h:r_ ops rs=true):aiu ops (ops.toList.zip rs) (fun i j=>((Region.before ops).getD j 0).testBit i):=by
 unfold r_ at h
 simp only[Bool.and_eq_true,List.all_eq_true] at h
 obtain⟨⟨h1,h2⟩,h3⟩:=h
 refine⟨fun j o hj e he hb=>?_,fun j o i hj hij hA=>?_,fun i j oi ri oj rj hij hi hj hA=>?_⟩
 ·have:=h1 (o,j) (by rw[List.mk_mem_zipIdx_iff_getElem?];simpa using hj)
  have:=(Array.all_eq_true'.1 this) e he
  simpa [hb] using this
 ·have:=h2 (o,j) (by rw[List.mk_mem_zipIdx_iff_getElem?];simpa using hj) i (by simpa using hij)
  rw[hA] at this
  simp only[Bool.not_true,Bool.false_or,Array.any_eq_true'] at this
  obtain⟨e,he,hq⟩:=this
  simp only[Bool.and_eq_true,Bool.or_eq_true,beq_iff_eq,decide_eq_true_eq] at hq
  exact⟨e,he,hq.1,hq.2⟩
 ·have h4:=h3 ((oj,rj),j) (by rw[List.mk_mem_zipIdx_iff_getElem?];exact hj) ((oi,ri),i) (by rw[List.mk_mem_zipIdx_iff_getElem?,List.getElem?_take,if_pos hij];exact hi)
  simp only[hA,Bool.false_or] at h4
  exact h4
theorem jo {ops:Array Oper}{oi oj:Oper}{ri rj:bP}(h:vK ops oi ri oj rj=true):
  (∀t,oi.dst=some t→t ∉ pY ops oj∧oj.dst≠some t)∧(∀t,oj.dst=some t→t ∉ pY ops oi)∧
  (∀b,(lk ri.r.ws b).isSome=true→b ∉ rj.r.zA∧(lk rj.r.ws b).isSome=false)∧(∀b,(lk rj.r.ws b).isSome=true→b ∉ ri.r.zA):=by
 unfold vK at h
 simp only[Bool.and_eq_true] at h
 obtain⟨⟨⟨h1,h2⟩,h3⟩,h4⟩:=h
 refine⟨fun t ht=>?_,fun t ht=>?_,fun b hb=>?_,fun b hb=>?_⟩
 ·simp only[ht,Bool.and_eq_true,Bool.not_eq_true'] at h1
  refine⟨by simpa using h1.1,fun e=>?_⟩
  have:=h1.2
  simp[e] at this
 ·simp only[ht,Bool.not_eq_true'] at h2
  simpa using h2
 ·rw[U2,List.any_eq_true] at hb
  obtain⟨q,hq,e⟩:=hb
  have:=(List.all_eq_true.1 h3) q hq
  simp only[beq_iff_eq] at e
  subst e
  simp only[Bool.and_eq_true,Bool.not_eq_true'] at this
  exact⟨by simpa using this.1,by rw[U2];exact this.2⟩
 ·rw[U2,List.any_eq_true] at hb
  obtain⟨q,hq,e⟩:=hb
  have:=(List.all_eq_true.1 h4) q hq
  simp only[beq_iff_eq] at e
  subst e
  simpa using this
section
variable {P:gy} {E:CW P} {ent:List Nat} {N:Nat}
def oO (listed:Array Bool)(i:Nat):Bool:=listed.getD i false
theorem yV {ops:Array Oper}{o:Oper}{F F':Nat→D}(h:∀t∈pY ops o,F' t=F t):jK ops F' o=jK ops F o:=by
 unfold jK
 cases hg:o.guard with
 |none=>rfl
 |some p=>
  obtain⟨j,want⟩:=p
  simp only
  cases hq:(ops[j]?).bind (·.dst) with
  |none=>rfl
  |some t=>simp only[h t (by simp[pY,hg,hq])]
theorem Q8 {ops:Array Oper}{o:Oper}{F F':Nat→D}(h:∀t∈pY ops o,F' t=F t):∀x∈o.op.operands,bQ F' x=bQ F x:=by
 intro x hx
 cases x with
 | tmp t=>exact h t (by
   simp only[pY,List.mem_append,List.mem_filterMap]
   exact .inr ⟨.tmp t,by simpa using hx,rfl⟩)
 | _=>rfl
theorem Q9 {Fe:Fence}(hF:mJ Fe){nf:Nat}{ops:Array Oper}(hd:dX N ops=true){z:List (Oper × bP)}{A:Nat→Nat→Bool}(hz:∀(i:Nat) (o:Oper),ops[i]?=some o→∃r:bP,z[i]?=some (o,r))(hz':∀(i:Nat) (o:Oper) (r:bP),z[i]?=some (o,r)→ops[i]?=some o)(hB:aiu ops z A)
  {F0:Nat→D} {σ0:Nat→Option aU} (hst:∀(j:Nat) (o:Oper) (r:bP),z[j]?=some (o,r)→aag P ops (jf (fun i=>decide (i<j)) 0 z F0) (foldσ (fun i=>decide (i<j)) 0 z σ0) o r)
  (Q:Exit→Act→World→Prop) (hq:∀L,(∀i,i<ops.size→L i=true)→∀a w,Rel E ent N (jf L 0 z F0) (foldσ L 0 z σ0) a w→Q .normal a w):
  ∀(fuel:Nat) (listed:Array Bool),listed.size=ops.size→listed.toList.count false≤fuel→
   (∀(i:Nat) (o:Oper),ops[i]?=some o→oO listed i=true→∀e∈o.after,Region.binds .any e=true→oO listed e.on=true)→
   ∀a w,Rel E ent N (jf (oO listed) 0 z F0) (foldσ (oO listed) 0 z σ0) a w→wpAnyIn Fe nf P.prog .any ops Q fuel listed a w:=by
 have allL:∀(listed:Array Bool),listed.size=ops.size→listed.toList.count false=0→∀i,i<ops.size→oO listed i=true:=by
  intro listed hs hc i hi
  have hlt:i<listed.size:=by omega
  have hne:false ∉ listed.toList:=List.count_eq_zero.1 hc
  cases hv:listed[i] with
  |true=>simp[oO,Array.getD_eq_getD_getElem?,hlt,hv]
  |false=>exact absurd (by rw[← hv];simp) hne
 intro fuel
 induction fuel with
 |zero=>
  intro listed hs hc _ a w hr
  have hall:=allL listed hs (by omega)
  refine⟨?_,hq _ hall a w hr⟩
  simp only[Region.ready,List.filter_eq_nil_iff,List.mem_range]
  intro i hi
  have:=hall i hi
  simp only[oO,Array.getD_eq_getD_getElem?] at this
  have hlt:i<listed.size:=by omega
  simp[Array.getD_eq_getD_getElem?,hlt] at this ⊢
  simp[this]
 |succ fuel ih=>
  intro listed hs hc hcl a w hr
  refine⟨fun hnone=>?_,fun j hj=>?_⟩
  ·-- all listed
   refine hq _ ?_ a w hr
   intro i hi
   induction i using Nat.strongRecOn with
   | _ i ihi=>
    cases hL:oO listed i with
    |true=>rfl
    |false=>
     exfalso
     obtain⟨o,ho⟩:∃o,ops[i]?=some o:=⟨ops[i],Array.getElem?_eq_getElem hi⟩
     have:i∈Region.ready .any ops listed:=by
      simp only[Region.ready,List.mem_filter,List.mem_range]
      refine⟨hi,?_⟩
      have hlt:i<listed.size:=by omega
      have hL':listed.getD i true=false:=by
       simp only[oO,Array.getD_eq_getD_getElem?,Array.getElem?_eq_getElem hlt,Option.getD_some] at hL ⊢
       exact hL
      simp only[hL',Bool.not_false,Bool.true_and,ho,Option.map_some,Option.getD_some,Array.all_eq_true']
      intro e he
      cases hb:Region.binds .any e with
      |false=>rfl
      |true=>
       have hlt':=hB.edges i o ho e he hb
       have:=ihi e.on hlt' (by omega)
       simpa [oO] using this
     rw[hnone] at this
     cases this
  ·-- the next operation
   simp only[Region.ready,List.mem_filter,List.mem_range,Bool.and_eq_true,Bool.not_eq_true'] at hj
   obtain⟨hjlt,hjn,hje⟩:=hj
   obtain⟨o,ho⟩:∃o,ops[j]?=some o:=⟨ops[j],Array.getElem?_eq_getElem hjlt⟩
   obtain⟨r,Z8⟩:=hz j o ho
   have adD:j<listed.size:=by omega
   have hjL:oO listed j=false:=by
    simp only[oO,Array.getD_eq_getD_getElem?,Array.getElem?_eq_getElem adD,Option.getD_some] at hjn ⊢
    exact hjn
   simp only[ho,Option.map_some,Option.getD_some,Array.all_eq_true'] at hje
   have aah:∀e∈o.after,Region.binds .any e=true→oO listed e.on=true:=by
    intro e he hb
    have:=hje e he
    simpa [hb,oO] using this
   have aiw:∀(q:Nat) oq,ops[q]?=some oq→(∀e∈oq.after,Region.binds .any e=true→oO listed e.on=true)→∀i,i<q→A i q=true→oO listed i=true:=by
    intro q
    induction q using Nat.strongRecOn with
    | _ q ihq=>
     intro oq hoq aix i hiq hA
     obtain⟨e,he,hb,hor⟩:=hB.anc q oq i hoq hiq hA
     have aiy:=aix e he hb
     rcases hor with rfl | ⟨hlt,hA'⟩
     ·exact aiy
     ·have heq:=hB.edges q oq hoq e he hb
      obtain⟨oe,hoe⟩:∃oe,ops[e.on]?=some oe:=by
       have:e.on<ops.size:=by have:=(Array.getElem?_eq_some_iff.1 hoq).1;omega
       exact⟨ops[e.on],Array.getElem?_eq_getElem this⟩
      exact ihq e.on heq oe hoe (hcl e.on oe hoe aiy) i hlt hA'
   have before:∀i oi ri,z[i]?=some (oi,ri)→i<j→oO listed i=false→vK ops oi ri o r=true:=by
    intro i oi ri hzi hij hni
    refine hB.indep i j oi ri o r hij hzi Z8 ?_
    cases hA:A i j with
    |false=>rfl
    |true=>rw[aiw j o ho aah i hij hA] at hni;cases hni
   have behind:∀i oi ri,z[i]?=some (oi,ri)→j<i→oO listed i=true→vK ops o r oi ri=true:=by
    intro i oi ri hzi hij hli
    refine hB.indep j i o r oi ri hij Z8 hzi ?_
    cases hA:A j i with
    |false=>rfl
    |true=>
     have:=aiw i oi (hz' i oi ri hzi) (hcl i oi (hz' i oi ri hzi) hli) j hij hA
     rw[hjL] at this;cases this
   have hFr:∀t∈pY ops o,jf (oO listed) 0 z F0 t=jf (fun i=>decide (i<j)) 0 z F0 t:=by
    intro t ht
    refine nR z 0 _ _ (fun i oi ri hzi hdi=>?_) rfl
    simp only[Nat.zero_add]
    rcases Nat.lt_trichotomy i j with h|h|h
    ·rw[decide_eq_true h]
     cases hL:oO listed i with
     |true=>rfl
     |false=>exact absurd ht ((jo (before i oi ri hzi h hL)).1 t hdi).1
    ·subst h;rw[hjL];simp
    ·rw[decide_eq_false (by omega)]
     cases hL:oO listed i with
     |false=>rfl
     |true=>exact absurd ht ((jo (behind i oi ri hzi h hL)).2.1 t hdi)
   have hσr:∀b∈r.r.zA,foldσ (oO listed) 0 z σ0 b=foldσ (fun i=>decide (i<j)) 0 z σ0 b:=by
    intro b hb
    refine foldσ_agree z 0 _ _ (fun i oi ri hzi hdi=>?_) rfl
    simp only[Nat.zero_add]
    rcases Nat.lt_trichotomy i j with h|h|h
    ·rw[decide_eq_true h]
     cases hL:oO listed i with
     |true=>rfl
     |false=>exact absurd hb ((jo (before i oi ri hzi h hL)).2.2.1 b hdi).1
    ·subst h;rw[hjL];simp
    ·rw[decide_eq_false (by omega)]
     cases hL:oO listed i with
     |false=>rfl
     |true=>exact absurd hb ((jo (behind i oi ri hzi h hL)).2.2.2 b hdi)
   have hset:∀i,oO (listed.setIfInBounds j true) i=if i=j then true else oO listed i:=by
    intro i
    simp only[oO,Array.getD_eq_getD_getElem?,Array.getElem?_setIfInBounds]
    by_cases e:j=i
    ·subst e;simp[adD]
    ·rw[if_neg e,if_neg (fun q=>e q.symm)]
   have hcount:(listed.setIfInBounds j true).toList.count false≤fuel:=by
    have hlt:j<listed.toList.length:=by simpa using adD
    have hv:listed.toList[j]=false:=by
     simp only[oO,Array.getD_eq_getD_getElem?,Array.getElem?_eq_getElem adD,Option.getD_some] at hjL
     simpa using hjL
    rw[Array.toList_setIfInBounds,List.count_set hlt,hv]
    have hpos:0<listed.toList.count false:=List.count_pos_iff.2 (by rw[← hv];exact List.getElem_mem hlt)
    rw[if_pos (by rfl),if_neg (by decide)]
    omega
   have afC:oN (jf (oO listed) 0 z F0) o.dst r.d=jf (oO (listed.setIfInBounds j true)) 0 z F0:=by
    funext t
    by_cases hdt:o.dst=some t
    ·have h1:oN (jf (oO listed) 0 z F0) o.dst r.d t=r.d:=by simp[oN,hdt,upd]
     rw[h1,← Iq z j 0 F0 o r Z8 hdt]
     refine (nR z 0 _ _ (fun i oi ri hzi hdi=>?_) rfl).symm
     simp only[Nat.zero_add,hset]
     rcases Nat.lt_trichotomy i j with h|h|h
     ·rw[if_neg (by omega),decide_eq_true (by omega)]
      cases hL:oO listed i with
      |true=>rfl
      |false=>exact absurd hdt ((jo (before i oi ri hzi h hL)).1 t hdi).2
     ·subst h;simp
     ·rw[if_neg (by omega),decide_eq_false (by omega)]
      cases hL:oO listed i with
      |false=>rfl
      |true=>exact absurd hdi ((jo (behind i oi ri hzi h hL)).1 t hdt).2
    ·have h1:oN (jf (oO listed) 0 z F0) o.dst r.d t=jf (oO listed) 0 z F0 t:=by
      cases hod:o.dst with
      |none=>rfl
      |some t'=>simp only[oN,upd];rw[if_neg (fun q=>hdt (by rw[hod,q]))]
     rw[h1]
     refine nR z 0 _ _ (fun i oi ri hzi hdi=>?_) rfl
     simp only[Nat.zero_add,hset]
     by_cases e:i=j
     ·subst e;rw[Z8] at hzi;cases hzi;exact absurd hdi hdt
     ·rw[if_neg e]
   have hnewσ:laid (foldσ (oO listed) 0 z σ0) r.r.ws=foldσ (oO (listed.setIfInBounds j true)) 0 z σ0:=by
    funext b
    cases hlk:lk r.r.ws b with
    |some blk=>
     have h1:laid (foldσ (oO listed) 0 z σ0) r.r.ws b=some blk:=by simp[laid,hlk]
     rw[h1,← foldσ_last z j 0 σ0 o r Z8 hlk]
     refine (foldσ_agree z 0 _ _ (fun i oi ri hzi hdi=>?_) rfl).symm
     simp only[Nat.zero_add,hset]
     rcases Nat.lt_trichotomy i j with h|h|h
     ·rw[if_neg (by omega),decide_eq_true (by omega)]
      cases hL:oO listed i with
      |true=>rfl
      |false=>
       have:=((jo (before i oi ri hzi h hL)).2.2.1 b hdi).2
       rw[hlk] at this;cases this
     ·subst h;simp
     ·rw[if_neg (by omega),decide_eq_false (by omega)]
      cases hL:oO listed i with
      |false=>rfl
      |true=>
       have:=((jo (behind i oi ri hzi h hL)).2.2.1 b (by simp[hlk])).2
       rw[this] at hdi;cases hdi
    |none=>
     have h1:laid (foldσ (oO listed) 0 z σ0) r.r.ws b=foldσ (oO listed) 0 z σ0 b:=by simp[laid,hlk]
     rw[h1]
     refine foldσ_agree z 0 _ _ (fun i oi ri hzi hdi=>?_) rfl
     simp only[Nat.zero_add,hset]
     by_cases e:i=j
     ·subst e;rw[Z8] at hzi;cases hzi;simp[hlk] at hdi
     ·rw[if_neg e]
   have hcl':∀i oi,ops[i]?=some oi→oO (listed.setIfInBounds j true) i=true→∀e∈oi.after,Region.binds .any e=true→oO (listed.setIfInBounds j true) e.on=true:=by
    intro i oi hoi hL e he hb
    rw[hset] at hL ⊢
    split
    ·rfl
    ·split at hL
     ·rename_i h;subst h;rw[ho] at hoi;cases hoi;exact aah e he hb
     ·exact hcl i oi hoi hL e he hb
   have hs':(listed.setIfInBounds j true).size=ops.size:=by simp[hs]
   have hmem:o∈ops:=Array.mem_of_getElem? ho
   unfold wpOpIn
   simp only[ho]
   rcases hst j o r Z8 with⟨hw,hout⟩ | ⟨hw,hdj,hrj⟩
   ·rw[← yV hFr] at hw
    rw[pz hr hw,if_pos rfl]
    have aiz:=hout.congr (ρ':=bQ (jf (oO listed) 0 z F0)) (σ':=foldσ (oO listed) 0 z σ0) (Q8 hFr) hσr
    refine aiz.wp hF hr (dH hd hmem) _ _ (fun v w' hr'=>ih _ hs' hcount hcl' _ w' ?_)
    rw[← afC,← hnewσ];exact hr'
   ·rw[← yV hFr] at hw
    rw[pz hr hw,if_neg (by simp)]
    refine⟨fun f _=>hF.fn f,ih _ hs' hcount hcl' _ _ ?_⟩
    rw[← afC,← hnewσ,hdj,hrj,Q7]
    exact hr.skip (dH hd hmem)
theorem Rel.drew {F:Nat→D}{σ:Nat→Option aU}{a:Act}{w:World}(h:Rel E ent N F σ a w):Rel E ent N F σ a w.drew:=by
 obtain⟨γ,h1,h2,h3,h4,h5,h6⟩:=h
 have hv:aQ (aC E.M γ) γ w (aC E.M γ) γ w.drew:=⟨rfl,rfl,rfl,Nat.le_refl _,fun _ _ _ _ h=>h,fun _ _ h _=>h,fun _ g h=>⟨g,h,G.le_refl g⟩,fun _ _ _=>rfl,fun b g _ h h' _=>⟨b,g,h,h'⟩⟩
 refine⟨γ,h1,⟨fun b=>?_,h2.dist,h2.outer,h2.apart,E.M.stable _ _ h2.inv (fun _ _=>rfl),h2.low,h2.big⟩,h3.trans hv,h4,h5.bZ hv,fun t=>(h6 t).bZ hv⟩
 rcases h2.names b with⟨blk,g,q1,q2,q3⟩|q
 ·exact .inl ⟨blk,g,q1,q2,q3.keep hv (fun _ _=>rfl)⟩
 ·exact .inr q
theorem GY {Fe:Fence}(hF:mJ Fe){nf:Nat}{id:Nat}{ops:Array Oper}(hm:P.prog.follows .mixedOrders=true)(hd:dX N ops=true){Q:Exit→Act→World→Prop}{st st':St}{rs:List bP}(h:Chain P ops ops.toList st rs st')(hb:r_ ops rs=true)
  {a:Act} {w:World} (hr:Rel E ent N st.get (lk st.σ) a w) (hq:∀a' w',Rel E ent N st'.get (lk st'.σ) a' w'→Q .normal a' w'):(Code.region id ops true).wpIn Fe nf P.prog Q a w:=by
 obtain⟨h1,h2,h3⟩:=h.steps
 refine wpIn_region_any hm ?_
 refine Q9 hF (E:=E) (ent:=ent) hd (z:=ops.toList.zip rs) (fun i o ho=>?_) (fun i o r hi=>?_) (adC hb) (F0:=st.get) (σ0:=lk st.σ) (fun j o r hj=>?_) Q (fun L hL a w hr'=>hq a w ?_) ops.size _ (by simp) (by simp) (fun i o ho hL=>?_) a _ ?_
 ·have hlt:i<rs.length:=by have:=(Array.getElem?_eq_some_iff.1 ho).1;simp at h1;omega
  exact⟨rs[i],by rw[List.getElem?_zip_eq_some];exact⟨by simpa using ho,List.getElem?_eq_getElem hlt⟩⟩
 ·rw[List.getElem?_zip_eq_some] at hi;simpa using hi.1
 ·have:=h3 0 j o r hj
  simpa using this
 ·obtain⟨q1,q2⟩:=h2 0 (fun _=>true) (fun _ _=>rfl)
  rw[← q1,← q2]
  have hlen:∀i o r,(ops.toList.zip rs)[i]?=some (o,r)→i<ops.size:=fun i o r hi=>by
   rw[List.getElem?_zip_eq_some] at hi
   have:=(List.getElem?_eq_some_iff.1 hi.1).1
   simpa using this
  have e1:jf L 0 (ops.toList.zip rs) st.get=jf (fun _=>true) 0 (ops.toList.zip rs) st.get:=by
   funext t;exact nR _ 0 _ _ (fun i o r hi _=>by simpa using hL i (hlen i o r hi)) rfl
  have e2:foldσ L 0 (ops.toList.zip rs) (lk st.σ)=foldσ (fun _=>true) 0 (ops.toList.zip rs) (lk st.σ):=by
   funext t;exact foldσ_agree _ 0 _ _ (fun i o r hi _=>by simpa using hL i (hlen i o r hi)) rfl
  rw[← e1,← e2];exact hr'
 ·exfalso
  simp only[oO,Array.getD_eq_getD_getElem?] at hL
  rw[Array.getElem?_replicate] at hL
  split at hL <;> simp at hL
 ·have hno:∀i,0≤i→oO (Array.replicate ops.size false) i=false:=by
   intro i _
   simp only[oO,Array.getD_eq_getD_getElem?,Array.getElem?_replicate]
   split <;> rfl
  rw[pX _ _ _ hno,foldσ_none _ _ _ hno]
  exact hr.drew
end
end Go.Id
namespace Go.Id
open Go
def aj (P:gy)(fo:D)(args:List D)(σ:List (Nat × aU))(K:D→Rec→Prop):Prop:=
 ∃k first cap ins d r,fo= .fn (.func k) first cap∧aG P k ((first++args++cap).map fg) ins d r.ws∧
  (∀b blk,lk ins b=some blk→lk σ b=some blk∧aA (fun i=>(lk ins i).isSome=true) blk)∧(∀b,(lk r.ws b).isSome=true→(lk ins b).isSome=true∨(lk σ b=none∧b∈r.zA))∧
  (∀d∈(first++args++cap).map fg,cZ (fun i=>(lk ins i).isSome=true) d)∧(∀b,(lk ins b).isSome=true→b∈r.zA)∧K d r
def Dn (u:Bool)(n:Nat)(K:D→Rec→Prop):Option Eff→Prop
 |some f=>f.side∧K f.val ⟨if u=true then n::f.zA else f.zA,f.ws⟩
 |none=>False
def ZN (P:gy)(o:Op)(st:St)(K:D→Rec→Prop):Prop:=
 match o with
 | .call { callee:= .value f,args,.. }=>aj P (bQ st.get f) (args.toList.map (bQ st.get)) st.σ K
 | .load t (.global g)=>Dn false (fresh st.σ) K (dR P.prog (qF P (bQ st.get)) (lk st.σ) (fresh st.σ) (.load t (.global g)))
 | .indexAddr t (.global g) i=>Dn false (fresh st.σ) K (dR P.prog (qF P (bQ st.get)) (lk st.σ) (fresh st.σ) (.indexAddr t (.global g) i))
 | .buildSlice t n ps=>Dn (P.lit t n ps) (fresh st.σ) K (if P.lit t n ps=true then opA P.prog (bQ st.get) (fresh st.σ) t n ps else dR P.prog (bQ st.get) (lk st.σ) (fresh st.σ) (.buildSlice t n ps))
 |o=>Dn (OY o) (fresh st.σ) K (dR P.prog (bQ st.get) (lk st.σ) (fresh st.σ) o)
theorem Dn.mono {u:Bool}{n:Nat}{K K':D→Rec→Prop}(hk:∀d r,K d r→K' d r){x:Option Eff}(h:Dn u n K x):Dn u n K' x:=by
 cases x with
 |none=>exact h
 |some f=>exact⟨h.1,hk _ _ h.2⟩
def ah (P:gy)(ops:Array Oper):List Oper→St→List bP→(St→List bP→Prop)→Prop
 | [],st,acc,K=>K st acc
 |o::os,st,acc,K=>match jK ops st.get o with
  |some true=>ZN P o.op st fun d r=>ah P ops os ((st.put o.dst d).lay r.ws) (acc++[⟨true,d,r⟩]) K
  |some false=>ah P ops os (st.put o.dst (.aJ [])) (acc++[⟨false,.aJ [],⟨[],[]⟩⟩]) K
  |none=>False
section
variable {P:gy}
theorem ZN.out {o:Oper}{st:St}{K:D→Rec→Prop}(h:ZN P o.op st K):∃d r,Ah P o (bQ st.get) (lk st.σ) d r∧K d r:=by
 have plain:Dn (Ip P o.op) (fresh st.σ) K (Yi P (bQ st.get) (lk st.σ) (fresh st.σ) o.op)→∃d r,Ah P o (bQ st.get) (lk st.σ) d r∧K d r:=by
  intro h
  cases hf:Yi P (bQ st.get) (lk st.σ) (fresh st.σ) o.op with
  |none=>rw[hf] at h;exact h.elim
  |some f=>
   rw[hf] at h
   exact⟨_,_,.inl ⟨fresh st.σ,f,fun _=>Q5 _ _ (Nat.le_refl _),hf,h.1,rfl,rfl⟩,h.2⟩
 unfold ZN at h
 split at h
 ·rename_i fo args ts heq
  obtain⟨k,first,cap,ins,d,r,h1,h2,h3,h4,h5,h6,h7⟩:=h
  exact⟨d,r,.inr ⟨fo,args,ts,k,first,cap,ins,heq,h1,h2,h3,h4,h5,h6⟩,h7⟩
 ·rename_i t g heq
  refine plain ?_
  rw[heq];exact h
 ·rename_i t g i heq
  refine plain ?_
  rw[heq];exact h
 ·rename_i t n ps heq
  refine plain ?_
  rw[heq];exact h
 ·rename_i hne1 hne2 akT akU
  have e:=xQ P (bQ st.get) (lk st.σ) (fresh st.σ) o.op (fun t n ps ho=>(akU t n ps ho).elim) (fun t g ho=>(hne2 t g ho).elim) (fun t g i ho=>(akT t g i ho).elim)
  rw[← e.1,← e.2] at h
  exact plain h
theorem ah.chain {ops:Array Oper}:∀(os:List Oper) (st:St) (acc:List bP) (K:St→List bP→Prop),ah P ops os st acc K→∃rs st',Chain P ops os st rs st'∧K st' (acc++rs)
 | [],st,acc,K,h=>⟨[],st,.nil st,by simpa [ah] using h⟩
 |o::os,st,acc,K,h=>by
  simp only[ah] at h
  split at h
  ·rename_i hw
   obtain⟨d,r,ho,h⟩:=ZN.out h
   obtain⟨rs,st',hc,hk⟩:=ah.chain os _ _ _ h
   exact⟨_,st',.ran hw ho hc,by simpa using hk⟩
  ·rename_i hw
   obtain⟨rs,st',hc,hk⟩:=ah.chain os _ _ _ h
   exact⟨_,st',.skip hw hc,by simpa using hk⟩
  ·exact h.elim
theorem ZN.mono {o:Op}{st:St}{K K':D→Rec→Prop}(hk:∀d r,K d r→K' d r)(h:ZN P o st K):ZN P o st K':=by
 unfold ZN at h ⊢
 split at h
 ·obtain⟨k,first,cap,ins,d,r,h1,h2,h3,h4,h5,h6,h7⟩:=h
  exact⟨k,first,cap,ins,d,r,h1,h2,h3,h4,h5,h6,hk _ _ h7⟩
 ·exact Dn.mono hk h
 ·exact Dn.mono hk h
 ·exact Dn.mono hk h
 ·exact Dn.mono hk h
theorem ah.mono {ops:Array Oper}:∀(os:List Oper) (st:St) (acc:List bP) (K K':St→List bP→Prop),(∀st rs,K st rs→K' st rs)→ah P ops os st acc K→ah P ops os st acc K'
 | [],st,acc,K,K',hk,h=>hk _ _ h
 |o::os,st,acc,K,K',hk,h=>by
  unfold ah at h ⊢
  cases hw:jK ops st.get o with
  |none=>rw[hw] at h;exact h.elim
  |some b=>
   rw[hw] at h
   cases b with
   |true=>exact ZN.mono (fun d r h=>ah.mono os _ _ _ _ hk h) h
   |false=>exact ah.mono os _ _ _ _ hk h
theorem ah.append {ops:Array Oper}:∀(os os':List Oper) (st:St) (acc:List bP) (K:St→List bP→Prop),ah P ops os st acc (fun st' acc'=>ah P ops os' st' acc' K)→ah P ops (os++os') st acc K
 | [],os',st,acc,K,h=>h
 |o::os,os',st,acc,K,h=>by
  rw[List.cons_append]
  unfold ah at h ⊢
  cases hw:jK ops st.get o with
  |none=>rw[hw] at h;exact h.elim
  |some b=>
   rw[hw] at h
   cases b with
   |true=>exact ZN.mono (fun d r h=>ah.append os os' _ _ _ h) h
   |false=>exact ah.append os os' _ _ _ h
theorem ah.take (n:Nat){ops:Array Oper}{os:List Oper}{st:St}{acc:List bP}{K:St→List bP→Prop}(h:∀K':St→List bP→Prop,(∀st' acc',ah P ops (os.drop n) st' acc' K→K' st' acc')→ah P ops (os.take n) st acc K'):
  ah P ops os st acc K:=by
 have:=ah.append (P:=P) (ops:=ops) (os.take n) (os.drop n) st acc K (h _ (fun _ _ h=>h))
 rwa [List.take_append_drop] at this
end
def MK:Nat:=1000000
def OkF (ent:List Nat)(Fe:Fence):Prop:=mJ Fe∧(Fe.round.isSome=true→MK∈ent)
theorem OkF.wide (ent:List Nat):OkF ent Fence.wide:=⟨.wide,nofun⟩
def WP (P:gy)(ent:List Nat)(N:Nat)(c:Code)(Q:Exit→St→Prop)(st:St):Prop:=
 ∀(Fe:Fence) (nf:Nat),OkF ent Fe→∀(E:CW P) (a:Act) (w:World),Rel E ent N st.get (lk st.σ) a w→c.wpIn Fe nf P.prog (fun e a' w'=>∃st',Q e st'∧Rel E ent N st'.get (lk st'.σ) a' w') a w
def Md (next:St→Prop)(Q:Exit→St→Prop):Exit→St→Prop
 | .normal,st=>next st
 |e,st=>Q e st
def aai (id:Nat)(Q:Exit→St→Prop):Exit→St→Prop
 | .exit i,st=>if i=id then Q .normal st else Q (.exit i) st
 |e,st=>Q e st
section
variable {P:gy} {ent:List Nat} {N:Nat} {Q:Exit→St→Prop} {st:St}
theorem WP.seq {x y:Code}(h:WP P ent N x (Md (fun st'=>WP P ent N y Q st') Q) st):WP P ent N (.seq x y) Q st:=by
 intro Fe nf hF E a w hr
 refine wpIn_seq (wpIn_mono (h Fe nf hF E a w hr) ?_)
 rintro e a' w' ⟨st',hq,hr'⟩
 cases e with
 |normal=>exact hq Fe nf hF E a' w' hr'
 | _=>exact⟨st',hq,hr'⟩
theorem WP.skip (h:Q .normal st):WP P ent N .skip Q st:=fun Fe nf hF E a w hr=>wpIn_skip ⟨st,h,hr⟩
theorem WP.exit {id:Nat}(h:Q (.exit id) st):WP P ent N (.exit id) Q st:=fun Fe nf hF E a w hr=>wpIn_exit ⟨st,h,hr⟩
theorem WP.ret (h:Q .ret st):WP P ent N .ret Q st:=fun Fe nf hF E a w hr=>wpIn_ret ⟨st,h,hr⟩
theorem WP.cond {c:Operand}{x y:Code}{b:Bool}(hc:bQ st.get c= .bool b)(ht:b=true→WP P ent N x Q st)(hf:b=false→WP P ent N y Q st):WP P ent N (.cond c x y) Q st:=by
 intro Fe nf hF E a w hr
 have hr0:=hr
 obtain⟨γ,h1,h2,h3,h4,h5,h6⟩:=hr
 have he:=iF h6 c
 rw[hc] at he
 exact wpIn_cond_split (nO he) (fun e=>ht e Fe nf hF E a w hr0) (fun e=>hf e Fe nf hF E a w hr0)
theorem WP.block {id:Nat}{c:Code}(h:WP P ent N c (aai id Q) st):WP P ent N (.block id c) Q st:=by
 intro Fe nf hF E a w hr
 refine wpIn_block (wpIn_mono (h Fe nf hF E a w hr) ?_)
 rintro e a' w' ⟨st',hq,hr'⟩
 cases e with
 |exit i=>
  simp only[Exit.inBlock,aai] at hq ⊢
  split <;> rename_i hi
  ·rw[if_pos hi] at hq;exact⟨st',hq,hr'⟩
  ·rw[if_neg hi] at hq;exact⟨st',hq,hr'⟩
 | _=>exact⟨st',hq,hr'⟩
theorem WP.region {id:Nat}{ops:Array Oper}(hd:dX N ops=true)(h:∀K:St→List bP→Prop,(∀st' rs,Q .normal st'→K st' rs)→ah P ops ops.toList st [] K):WP P ent N (.region id ops false) Q st:=by
 intro Fe nf hF E a w hr
 obtain⟨rs,st',hc,hk⟩:=ah.chain _ _ _ _ (h (fun st' _=>Q .normal st') (fun _ _ h=>h))
 exact GX hF.1 hd hc hr (fun a' w' hr'=>⟨st',hk,hr'⟩)
theorem WP.drawn {id:Nat}{ops:Array Oper}(hm:P.prog.follows .mixedOrders=true)(hd:dX N ops=true)(h:∀K:St→List bP→Prop,(∀st' rs,r_ ops rs=true→Q .normal st'→K st' rs)→ah P ops ops.toList st [] K):
  WP P ent N (.region id ops true) Q st:=by
 intro Fe nf hF E a w hr
 obtain⟨rs,st',hc,hk⟩:=ah.chain _ _ _ _ (h (fun st' rs=>r_ ops rs=true∧Q .normal st') (fun _ _ h h'=>⟨h,h'⟩))
 exact GY hF.1 hm hd hc (by simpa using hk.1) hr (fun a' w' hr'=>⟨st',hk.2,hr'⟩)
theorem WP.mono {c:Code}{Q':Exit→St→Prop}(h:WP P ent N c Q st)(hq:∀e st,Q e st→Q' e st):WP P ent N c Q' st:=
 fun Fe nf hF E a w hr=>wpIn_mono (h Fe nf hF E a w hr) (fun e a w ⟨st',q,r⟩=>⟨st',hq _ _ q,r⟩)
def Weak (ent:List Nat)(st st':St):Prop:=∀(P:gy) (E:CW P) (N:Nat) (a:Act) (w:World),Rel E ent N st.get (lk st.σ) a w→Rel E ent N st'.get (lk st'.σ) a w
theorem Weak.refl (st:St):Weak ent st st:=fun _ _ _ _ _ h=>h
theorem Weak.trans {a b c:St}(h:Weak ent a b)(k:Weak ent b c):Weak ent a c:=fun P E N x w hr=>k P E N x w (h P E N x w hr)
theorem WP.weak {c:Code}{st':St}(hw:Weak ent st st')(h:WP P ent N c Q st'):WP P ent N c Q st:=fun Fe nf hF E a w hr=>h Fe nf hF E a w (hw P E N a w hr)
def Le (d d':D):Prop:=∀(M:Nat→Nat→Prop) (γ:Nat→Option G) (w:World) (v:Value),Rep M γ w d v→Rep M γ w d' v
theorem Le.refl (d:D):Le d d:=fun _ _ _ _ h=>h
theorem Le.junk (d:D):Le d .junk:=fun _ _ _ v _=> .junk v
theorem Le.fg (d:D):Le d (fg d):=fun _ _ _ _ h=>aae h
theorem Le.trans {a b c:D}(h:Le a b)(k:Le b c):Le a c:=fun M γ w v hr=>k M γ w v (h M γ w v hr)
theorem Le.nil (sz sz':Nat)(aS:Option Nat):Le (.slice sz true [] aS) (.slice sz' true [] aS):=fun M γ w v h=>by
 cases h with
 |nilslice ht=>exact .nilslice ht
theorem Ir {st st':St}(h:∀p∈st'.F,Le (st.get p.1) p.2)(t:Nat):Le (st.get t) (st'.get t):=by
 unfold St.get
 have:∀l:List (Nat × D),(∀p∈l,Le (st.get p.1) p.2)→Le ((lk st.F t).getD .junk) ((lk l t).getD .junk):=by
  intro l
  induction l with
  |nil=>intro _;exact Le.junk _
  |cons p l ih=>
   obtain⟨k,d⟩:=p
   intro hl
   simp only[lk]
   split
   ·rename_i e;subst e;exact hl (t,d) (by simp)
   ·exact ih (fun p hp=>hl p (by simp[hp]))
 exact this st'.F h
theorem Weak.frame {F':List (Nat × D)}(h:∀p∈F',Le (st.get p.1) p.2):Weak ent st ⟨F',st.σ⟩:=by
 rintro P E N a w ⟨γ,h1,h2,h3,h4,h5,h6⟩
 exact⟨γ,h1,h2,h3,h4,h5,fun t=>Ir (st':=⟨F',st.σ⟩) h t _ _ _ _ (h6 t)⟩
theorem iZ {α:Type}:∀(l:List (Nat × α)) (b:Nat) (x:α),lk l b=some x→(b,x)∈l
 | [],_,_,h=>by cases h
 |(k,v)::l,b,x,h=>by
  simp only[lk] at h
  split at h
  ·rename_i e;subst e;cases h;simp
  ·exact List.mem_cons_of_mem _ (iZ l b x h)
theorem Weak.store {st':St}(h:∀p∈st'.F,Le (st.get p.1) p.2)(hs:∀p∈st'.σ,lk st.σ p.1=some p.2)(hcF:∀p∈st'.F,cZ (fun i=>(lk st'.σ i).isSome=true) p.2)(hcσ:∀p∈st'.σ,aA (fun i=>(lk st'.σ i).isSome=true) p.2)
  (hent:∀b∈ent,(lk st'.σ b).isSome=true∨lk st.σ b=none):Weak ent st st':=by
 rintro P E N a w ⟨γ,h1,h2,h3,h4,h5,h6⟩
 let γ':Nat→Option G:=fun b=>if (lk st'.σ b).isSome=true then γ b else none
 have hγ:∀b g,γ' b=some g→(lk st'.σ b).isSome=true∧γ b=some g:=by
  intro b g hg
  simp only[γ'] at hg
  split at hg
  ·exact⟨by assumption,hg⟩
  ·cases hg
 have hS:∀b,(lk st'.σ b).isSome=true→γ' b=γ b:=fun b hb=>by simp only[γ',if_pos hb]
 have hM:∀B off,aC E.M γ' B off→aC E.M γ B off:=by
  rintro B off (hm | ⟨b,g,hg,hw⟩)
  ·exact .inl hm
  ·exact .inr ⟨b,g,(hγ b g hg).2,hw⟩
 refine⟨γ',h1,⟨fun b=>?_,fun b b' g g' B q1 q2 q3 q4=>h2.dist b b' g g' B (hγ _ _ q1).2 (hγ _ _ q2).2 q3 q4,h2.outer,fun b g B off q1 q2=>h2.apart b g B off (hγ _ _ q1).2 q2,h2.inv,fun b g B q1 q2=>h2.low b g B (hγ _ _ q1).2 q2,h2.big⟩,?_,h4,h5.sub (fun b g hg=>(hγ b g hg).2),fun t=>?_⟩
 ·cases hb:lk st'.σ b with
  |none=>exact .inr ⟨rfl,by simp[γ',hb]⟩
  |some blk=>
   have hm:=iZ _ _ _ hb
   obtain⟨g,q1,q2⟩:=h2.hit (hs _ hm)
   refine .inl ⟨blk,g,rfl,(hS b (by simp[hb])).trans q1,?_⟩
   have:=q2.restrict hS (hcσ _ hm)
   exact this.Lc ⟨fun _ _ _ _ h=>h,fun B off h _=>hM B off h,fun _ g h=>⟨g,h,G.le_refl g⟩⟩ (fun _ _=>rfl)
 ·refine⟨h3.os,h3.tape,h3.output,h3.size,h3.cell,fun B off q1 q2=>h3.wr B off (hM B off q1) q2,fun b g hg=>?_,h3.block,fun b g B q1 q2 q3=>h3.old b g B (hγ _ _ q1).2 q2 q3⟩
  obtain⟨g',q1,q2⟩:=h3.names b g hg
  refine⟨g',?_,q2⟩
  rcases hent b (h1 b g hg) with q|q
  ·exact (hS b q).trans q1
  ·rw[h2.miss q] at q1;cases q1
 ·have hle:=Ir (st':=st') h t _ _ _ _ (h6 t)
  have hcl:cZ (fun i=>(lk st'.σ i).isSome=true) (st'.get t):=by
   unfold St.get
   cases hq:lk st'.F t with
   |none=>exact .junk
   |some d=>exact hcF _ (iZ _ _ _ hq)
  exact (hle.restrict hS hcl).sub hM
theorem WP.loop {X:Type}(S:X→St)(μ:X→Nat){c:Code}(h:∀x,WP P ent N c (Md (fun st'=>∃y,μ y < μ x∧Weak ent st' (S y)) Q) (S x))(x:X)(h0:Weak ent st (S x)):WP P ent N (.loop c) Q st:=by
 intro Fe nf hF E a w hr b k cs hro hb hrm
 have key:∀(n:Nat) (x:X) (a:Act) (w:World),μ x=n→Rel E ent N (S x).get (lk (S x).σ) a w→
   ∃e a' w',(∃st',Q e st'∧Rel E ent N st'.get (lk st'.σ) a' w')∧ArrivesIn (Machine.fenced P.prog Fe) P.prog (lone (b.atR a (.code c:: .inLoop c::k)) cs w) b k cs e a' w':=by
  intro n
  induction n using Nat.strongRecOn with
  | _ n ih=>
   intro x a w hn hrx
   obtain⟨e,a₁,w₁,⟨st₁,hq,hr₁⟩,harr⟩:=h x Fe nf hF E a w hrx b (.inLoop c::k) cs hro hb hrm
   cases e with
   |normal=>
    obtain⟨y,hlt,hwk⟩:=hq
    obtain⟨e₂,a₂,w₂,hq₂,harr₂⟩:=ih (μ y) (hn ▸ hlt) y a₁ w₁ rfl (hwk P E N a₁ w₁ hr₁)
    exact⟨e₂,a₂,w₂,hq₂,.of_steps (StepsIn.trans harr (.one (fenced_calm hb hrm rfl) stepR_inLoop)) harr₂⟩
   |exit id=>exact⟨_,a₁,w₁,⟨st₁,hq,hr₁⟩,.pass (x:= .inLoop c) rfl (fun _ _=> .inl (by simp)) harr⟩
   |goto l=>exact⟨_,a₁,w₁,⟨st₁,hq,hr₁⟩,.pass (x:= .inLoop c) rfl (fun _ _=> .inl (by simp)) harr⟩
   |ret=>exact⟨_,a₁,w₁,⟨st₁,hq,hr₁⟩,.pass (x:= .inLoop c) rfl (fun _ _=> .inl (by simp)) harr⟩
   |panic ch=>exact⟨_,a₁,w₁,⟨st₁,hq,hr₁⟩,.pass (x:= .inLoop c) rfl (fun _ _=> .inl (by simp)) harr⟩
   |outgrown=>exact⟨_,a₁,w₁,⟨st₁,hq,hr₁⟩,.pass (x:= .inLoop c) rfl (fun _ _=> .inl (by simp)) harr⟩
 obtain⟨e,a',w',hq,harr⟩:=key _ x a w rfl (h0 P E N a w hr)
 exact⟨e,a',w',hq,.of_steps (.one (fenced_calm hb hrm rfl) stepR_loop) harr⟩
def Iu (P:Program)(st:St):ResultVar→Option D
 | .tmp t=>some (st.get t)
 | .cell t ty=>(dR P (bQ st.get) (lk st.σ) 0 (.load ty (.tmp t))).map (·.val)
def Dp (P:Program)(st:St):List ResultVar→Option (List D)
 | []=>some []
 |r::rs=>(Iu P st r).bind fun d=>(Dp P st rs).map (d::·)
def resD (P:Program)(fn:Func)(st:St):Option D:=
 (Dp P st fn.results.toList).map fun ds=>match ds with| [d]=>d|ds=> .aJ ds
def O_ (a:Act):ResultVar→Sem Value
 | .tmp t=>pure (a.tmps.getD t undef)
 | .cell t ty=>do loadVar ty (← asAddr (a.tmps.getD t undef))
theorem Q_ {P:gy}{E:CW P}{st:St}{γ:Nat→Option G}{a:Act}{w:World}(h2:Store E.M γ (lk st.σ) w)(h6:∀t,Rep (aC E.M γ) γ w (st.get t) (a.tmps.getD t undef)){r:ResultVar}{d:D}(h:Iu P.prog st r=some d):
  ∃v,(O_ a r).run P.prog w= .ok v w∧Rep (aC E.M γ) γ w d v:=by
 cases r with
 |tmp t=>simp only[Iu,Option.some.injEq] at h;subst h;exact⟨_,rfl,h6 t⟩
 |cell t ty=>
  simp only[Iu,dR,Option.map_eq_some_iff,Option.bind_eq_some_iff] at h
  obtain⟨f,⟨g,hg,sz,hsz,hf⟩,rfl⟩:=h
  have ha:=h6 t
  have e0:bQ st.get (.tmp t)=st.get t:=rfl
  rw[e0] at hf
  have glue:∀{d:D},(∃v,(Instr.loadAt ty (a.tmps.getD t undef)).run P.prog w= .ok v w∧Rep (aC E.M γ) γ w d v)→∃v,(do loadVar ty (← asAddr (a.tmps.getD t undef)):Sem Value).run P.prog w= .ok v w∧Rep (aC E.M γ) γ w d v:=by
   rintro d ⟨v,q1,q2⟩
   refine⟨v,?_,q2⟩
   generalize a.tmps.getD t undef=av at *
   unfold Instr.loadAt Instr.sureAddr at q1
   cases av with
   |pointer p=>cases p with
    |some p=>simpa [asAddr] using q1
    |none=>simp at q1
   | _=>simp at q1
  split at hf
  ·rename_i b off e
   rw[e] at ha
   split at hf
   ·rename_i cs hb
    obtain⟨d,hd,rfl⟩:=Option.map_eq_some_iff.1 hf
    exact glue (oM h2 hg hsz (.inl ⟨_,hb⟩) hd ha)
   ·rename_i z cs hb
    obtain⟨d,hd,rfl⟩:=Option.map_eq_some_iff.1 hf
    exact glue (oM h2 hg hsz (.inr ⟨z,hb⟩) hd ha)
   ·cases hf
  ·rename_i cs e
   rw[e] at ha
   obtain⟨d,hd,rfl⟩:=Option.map_eq_some_iff.1 hf
   exact glue (yT hg hsz hd ha)
  ·cases hf
theorem Rf {P:gy}{E:CW P}{st:St}{γ:Nat→Option G}{a:Act}{w:World}(h2:Store E.M γ (lk st.σ) w)(h6:∀t,Rep (aC E.M γ) γ w (st.get t) (a.tmps.getD t undef)):∀(rs:List ResultVar) (ds:List D),Dp P.prog st rs=some ds→
  ∃vs:List Value,(rs.mapM (O_ a)).run P.prog w= .ok vs w∧vs.length=ds.length∧∀(i:Nat) d v,ds[i]?=some d→vs[i]?=some v→Rep (aC E.M γ) γ w d v:=by
 intro rs
 induction rs with
 |nil=>intro ds h;simp only[Dp,Option.some.injEq] at h;subst h;exact⟨[],rfl,rfl,by simp⟩
 |cons r rs ih=>
  intro ds h
  simp only[Dp,Option.bind_eq_some_iff,Option.map_eq_some_iff] at h
  obtain⟨d,hd,ds',hds,rfl⟩:=h
  obtain⟨v,q1,q2⟩:=Q_ h2 h6 hd
  obtain⟨vs,q3,q4,q5⟩:=ih ds' hds
  refine⟨v::vs,?_,by simp[q4],fun i d v h1 h2=>?_⟩
  ·simp only[List.mapM_cons,Sem.run_bind,q1,Result.andThen_ok,q3,Sem.run_pure]
  ·cases i with
   |zero=>simp at h1 h2;subst h1;subst h2;exact q2
   |succ i=>exact q5 i d v (by simpa using h1) (by simpa using h2)
theorem Me {P:gy}{E:CW P}{st:St}{γ:Nat→Option G}{a:Act}{w:World}(h2:Store E.M γ (lk st.σ) w)(h6:∀t,Rep (aC E.M γ) γ w (st.get t) (a.tmps.getD t undef)){fn:Func}{d:D}(h:resD P.prog fn st=some d):
  ∃v,(results fn a.tmps).run P.prog w= .ok v w∧Rep (aC E.M γ) γ w d v:=by
 unfold resD at h
 obtain⟨ds,hds,rfl⟩:=Option.map_eq_some_iff.1 h
 obtain⟨vs,q1,q2,q3⟩:=Rf h2 h6 _ _ hds
 have hrun:∀f:ResultVar→Sem Value,(∀r,f r=O_ a r)→(fn.results.mapM f).run P.prog w= .ok vs.toArray w:=by
  intro f hf
  obtain rfl:f=O_ a:=funext hf
  cases hq:fn.results with
  |mk l=>
   rw[hq] at q1
   simp only[List.mapM_toArray,Sem.run_map,q1,Result.andThen_ok]
 refine⟨if h:vs.toArray.size=1 then vs.toArray[0] else .tuple vs.toArray,?_,?_⟩
 ·unfold results
  rw[Sem.run_bind]
  rw[hrun _ (fun r=>by cases r <;> rfl)]
  rfl
 ·match ds,vs,q2,q3 with
  | [d],[v],_,q3=>simpa using q3 0 d v rfl rfl
  | [],[],_,q3=>simpa using (Rep.aJ (M:=aC E.M γ) (γ:=γ) (w:=w) (cs:=[]) (vs:=#[]) rfl (by simp))
  |d::d'::ds,v::v'::vs,q2,q3=>simpa using (Rep.aJ (M:=aC E.M γ) (γ:=γ) (w:=w) (cs:=d::d'::ds) (vs:=(v::v'::vs).toArray) (by simpa using q2) (fun i d v h1 h2=>q3 i d v h1 (by simpa using h2)))
end
end Go.Id
namespace Go.Id
open Go
theorem Store.forget {M₀:Base}{Mb:Nat→Nat→Prop}{γ γb:Nat→Option G}{σ:Nat→Option aU}{w wb:World}(h2:Store M₀ γ σ w)(h3:aQ Mb γb wb (aC M₀ γ) γ w){l:List (Nat × aU)}
  (hs:∀p∈l,σ p.1=some p.2) (hcσ:∀p∈l,aA (fun i=>(lk l i).isSome=true) p.2) (hent:∀b g,γb b=some g→(lk l b).isSome=true):
  ∃ γ',Store M₀ γ' (lk l) w∧aQ Mb γb wb (aC M₀ γ') γ' w∧∀d v,Rep (aC M₀ γ) γ w d v→cZ (fun i=>(lk l i).isSome=true) d→Rep (aC M₀ γ') γ' w d v:=by
 let γ':Nat→Option G:=fun b=>if (lk l b).isSome=true then γ b else none
 have hγ:∀b g,γ' b=some g→(lk l b).isSome=true∧γ b=some g:=by
  intro b g hg
  simp only[γ'] at hg
  split at hg
  ·exact⟨by assumption,hg⟩
  ·cases hg
 have hS:∀b,(lk l b).isSome=true→γ' b=γ b:=fun b hb=>by simp only[γ',if_pos hb]
 have hM:∀B off,aC M₀ γ' B off→aC M₀ γ B off:=by
  rintro B off (hm | ⟨b,g,hg,hw⟩)
  ·exact .inl hm
  ·exact .inr ⟨b,g,(hγ b g hg).2,hw⟩
 refine⟨γ',⟨fun b=>?_,fun b b' g g' B q1 q2 q3 q4=>h2.dist b b' g g' B (hγ _ _ q1).2 (hγ _ _ q2).2 q3 q4,h2.outer,fun b g B off q1 q2=>h2.apart b g B off (hγ _ _ q1).2 q2,h2.inv,fun b g B q1 q2=>h2.low b g B (hγ _ _ q1).2 q2,h2.big⟩,?_,fun d v hr hcl=>(hr.restrict hS hcl).sub hM⟩
 ·cases hb:lk l b with
  |none=>exact .inr ⟨rfl,by simp[γ',hb]⟩
  |some blk=>
   have hm:=iZ _ _ _ hb
   obtain⟨g,q1,q2⟩:=h2.hit (hs _ hm)
   refine .inl ⟨blk,g,rfl,(hS b (by simp[hb])).trans q1,?_⟩
   have:=q2.restrict hS (hcσ _ hm)
   exact this.Lc ⟨fun _ _ _ _ h=>h,fun B off h _=>hM B off h,fun _ g h=>⟨g,h,G.le_refl g⟩⟩ (fun _ _=>rfl)
 ·refine⟨h3.os,h3.tape,h3.output,h3.size,h3.cell,fun B off q1 q2=>h3.wr B off (hM B off q1) q2,fun b g hg=>?_,h3.block,fun b g B q1 q2 q3=>h3.old b g B (hγ _ _ q1).2 q2 q3⟩
  obtain⟨g',q1,q2⟩:=h3.names b g hg
  exact⟨g',(hS b (hent b g hg)).trans q1,q2⟩
def ay:Nat→List D→List (Nat × D)
 | _,[]=>[]
 |i,d::ds=>(i,d)::ay (i+1) ds
theorem uj:∀(ds:List D) (i t:Nat),lk (ay i ds) t=if i≤t then ds[t - i]? else none
 | [],i,t=>by simp[ay,lk]
 |d::ds,i,t=>by
  simp only[ay,lk,uj ds (i+1) t]
  by_cases h:t=i
  ·subst h;simp
  ·rw[if_neg h]
   by_cases h2:i≤t
   ·rw[if_pos h2,if_pos (by omega)]
    have:t - i=(t - (i+1))+1:=by omega
    rw[this,List.getElem?_cons_succ]
   ·rw[if_neg h2,if_neg (by omega)]
def Ends (P:gy)(fn:Func)(ins:List (Nat × aU))(val:D)(outs:List (Nat × aU))(e:Exit)(st:St):Prop:=
 (e= .normal∨e= .ret)∧∃d,resD P.prog fn st=some d∧Le d val∧cZ (fun i=>(lk outs i).isSome=true) val∧(∀p∈outs,lk st.σ p.1=some p.2∧aA (fun i=>(lk outs i).isSome=true) p.2)∧(∀p∈ins,(lk outs p.1).isSome=true)
theorem um {P:gy}{E:CW P}{γ γ':Nat→Option G}{w:World}{R:Ending→World→Prop}{fn:Func}{tmps:Array Value}{F:Nat→D}{σ:Nat→Option aU}{T:List Deferred}{n:Nat}(hn:P.n≤n){u:FrameMode}(hu:u≠ .run)
  (hend:∀w',Store E.M γ' σ w'→aQ (aC E.M γ) γ w (aC E.M γ') γ' w'→(∀t,Rep (aC E.M γ') γ' w' (F t) (tmps.getD t undef))→LeavesInM Fence.wide 0 P.prog fn tmps R T u w') (hw:w.heap.size≤n):
  ∀(Ds:List Nat) (ds:List Deferred) (w':World),ds=Ds.map (fun D=>{ target:= .collected D,args:=#[] })++T→Ds.Nodup→
   (∀D∈Ds,n≤D∧w'.heap[D]?=some (.deferred (some []))∧∀b g,γ' b=some g→g.block≠some D)→
   Store E.M γ' σ w'→aQ (aC E.M γ) γ w (aC E.M γ') γ' w'→(∀t,Rep (aC E.M γ') γ' w' (F t) (tmps.getD t undef))→LeavesInM Fence.wide 0 P.prog fn tmps R ds u w':=by
 intro Ds
 induction Ds with
 |nil=>
  rintro ds w' rfl _ _ h2 h3 h6
  exact hend w' h2 h3 h6
 |cons D Ds ih=>
  rintro ds w' rfl hnd hD h2 h3 h6
  obtain⟨p1,p2,p3⟩:=hD D (by simp)
  obtain⟨g1,g2,g3⟩:=L_ (o':= .deferred none) h2 h3 (by omega) (by show P.n≤D;omega) p2 rfl p3
  refine⟨hu,.inl ⟨D,_,rfl,run_takeDeferred p2,?_⟩⟩
  refine ih _ _ rfl (List.nodup_cons.1 hnd).2 (fun D' hD'=>?_) g1 g2 (fun t=>g3 _ _ (h6 t))
  obtain⟨r1,r2,r3⟩:=hD D' (by simp[hD'])
  exact⟨r1,(World.putObj_heap_other (fun e=>(List.nodup_cons.1 hnd).1 (by rw[← e];exact hD'))).trans r2,r3⟩
def kE (P:gy)(fn:Func)(ins:List (Nat × aU))(x:Option Value)(val:D)(outs:List (Nat × aU))(e:Exit)(st:St):Prop:=
 match x with
 |none=>Ends P fn ins val outs e st
 |some y=>e= .panic [{ v:=y,recovered:=false }]∧val= .junk∧(∀p∈outs,lk st.σ p.1=some p.2∧aA (fun i=>(lk outs i).isSome=true) p.2)∧(∀p∈ins,(lk outs p.1).isSome=true)
theorem fU.of_wp {P:gy}{x:Option Value}{k:FuncId}{fn:Func}{c:Code}{args:List D}{ins outs:List (Nat × aU)}{val:D}{N:Nat}(hf:P.prog.funcs[k]?=some fn)(hb:fn.body=some c)(hn:(fn.name == "runtime.NumGoroutine")=false)
  (hN:fn.ntmps=N) (hle:args.length≤N) (h:WP P (ins.map (·.1)) N c (kE P fn ins x val outs) ⟨ay 0 args,ins⟩):fU P x k args ins val outs:=by
 refine⟨⟨fn,hf,hn,by simp[hb]⟩,fun M₀ γ w vs hst hl hr=>?_⟩
 refine callsIn_wide.1 (callsIn_of_wp_marks (n:=0) hf hb trivial ?_ rfl)
 let E:CW P:=⟨M₀,γ,w,max w.heap.size P.n,Nat.le_refl _,[]⟩
 have hsz:vs.toArray.size=args.length:=by simpa using hl
 have hrel:Rel E (ins.map (·.1)) N (St.get ⟨ay 0 args,ins⟩) (lk ins) { tmps:=vs.toArray++Array.replicate (fn.ntmps - vs.toArray.size) undef,defers:=[] } w:=by
  refine⟨γ,fun b g hg=>?_,hst,aQ.refl _ _ _,?_,Marks.nil _ _ _ _,fun t=>?_⟩
  ·rcases hst.names b with⟨blk,g',q1,_⟩ | ⟨_,q1⟩
   ·exact List.mem_map.2 ⟨(b,blk),iZ _ _ _ q1,rfl⟩
   ·have hg':γ b=some g:=hg
    rw[hg'] at q1;cases q1
  ·simp[hl];omega
  ·simp only[St.get,uj,Nat.zero_le,if_true,Nat.sub_zero]
   rw[Array.getD_eq_getD_getElem?]
   by_cases ht:t<vs.length
   ·have h1:(vs.toArray++Array.replicate (fn.ntmps - vs.toArray.size) undef)[t]?=vs[t]?:=by
     rw[Array.getElem?_append_left (by simpa using ht)];simp
    have h2:t<args.length:=by omega
    rw[h1,List.getElem?_eq_getElem ht,List.getElem?_eq_getElem h2]
    exact hr t _ _ (List.getElem?_eq_getElem h2) (List.getElem?_eq_getElem ht)
   ·rw[List.getElem?_eq_none (by omega:args.length≤t)]
    exact .junk _
 refine wpIn_mono (h Fence.wide 0 (.wide _) E _ w hrel) ?_
 rintro e a' w' ⟨st',hx,γ',h1,h2,h3,h4,h5,h6⟩
 have fin:∀{w':World},Store E.M γ' (lk st'.σ) w'→aQ (aC E.M γ) γ w (aC E.M γ') γ' w'→(∀p∈outs,lk st'.σ p.1=some p.2∧aA (fun i=>(lk outs i).isSome=true) p.2)→(∀p∈ins,(lk outs p.1).isSome=true)→_:=
  fun {w'} h2 h3 hout hin=>h2.forget h3 (l:=outs) (fun p hp=>(hout p hp).1) (fun p hp=>(hout p hp).2) (fun b g hg=>by
   have:=h1 b g hg
   obtain⟨p,hp,rfl⟩:=List.mem_map.1 this
   exact hin p hp)
 obtain⟨Ds,⟨d1,_⟩,d2,d3⟩:=h5
 cases x with
 |none=>
  obtain⟨he,d,hd,hle,hcl,hout,hin⟩:=hx
  have:=um (E:=E) (fn:=fn) (tmps:=a'.tmps) (F:=st'.get) (σ:=lk st'.σ) (γ:=γ) (w:=w) (T:=[]) (n:=max w.heap.size P.n) (by omega) (u:= .returning) (by simp)
   (R:=fun e w'=>∃v γ',e=adA none v∧Store (P.base M₀) γ' (lk outs) w'∧aQ (aC (P.base M₀) γ) γ w (aC (P.base M₀) γ') γ' w'∧Rep (aC (P.base M₀) γ') γ' w' val v)
   (fun w' h2 h3 h6=>by
    obtain⟨v,q1,q2⟩:=Me h2 h6 hd
    obtain⟨γ'',q3,q4,q5⟩:=fin h2 h3 hout hin
    exact⟨v,q1,v,γ'',rfl,q3,q4,q5 _ _ (hle _ _ _ _ q2) hcl⟩) (by omega) Ds a'.defers w' d1 d2 d3 h2 h3 h6
  rcases he with rfl|rfl <;> exact this
 |some y=>
  obtain⟨rfl,rfl,hout,hin⟩:=hx
  exact um (E:=E) (fn:=fn) (tmps:=a'.tmps) (F:=st'.get) (σ:=lk st'.σ) (γ:=γ) (w:=w) (T:=[]) (n:=max w.heap.size P.n) (by omega) (u:= .panicking [{ v:=y,recovered:=false }]) (by simp)
   (R:=fun e w'=>∃v γ',e=adA (some y) v∧Store (P.base M₀) γ' (lk outs) w'∧aQ (aC (P.base M₀) γ) γ w (aC (P.base M₀) γ') γ' w'∧Rep (aC (P.base M₀) γ') γ' w' .junk v)
   (fun w' h2 h3 h6=>by
    obtain⟨γ'',q3,q4,q5⟩:=fin h2 h3 hout hin
    exact⟨undef,γ'',rfl,q3,q4,.junk _⟩) (by omega) Ds a'.defers w' d1 d2 d3 h2 h3 h6
theorem aG.of_wp {P:gy}{k:FuncId}{fn:Func}{c:Code}{args:List D}{ins outs:List (Nat × aU)}{val:D}{N:Nat}(hf:P.prog.funcs[k]?=some fn)(hb:fn.body=some c)(hn:(fn.name == "runtime.NumGoroutine")=false)
  (hN:fn.ntmps=N) (hle:args.length≤N) (h:WP P (ins.map (·.1)) N c (Ends P fn ins val outs) ⟨ay 0 args,ins⟩):aG P k args ins val outs:=
 fU.of_wp (x:=none) hf hb hn hN hle h
theorem ak.of_wp {P:gy}{k:FuncId}{fn:Func}{c:Code}{args:List D}{val:D}{N:Nat}(hf:P.prog.funcs[k]?=some fn)(hb:fn.body=some c)(hn:(fn.name == "runtime.NumGoroutine")=false)
  (hN:fn.ntmps=N) (hle:args.length≤N) (h:WP P [] N c (Ends P fn [] val []) ⟨ay 0 args,[]⟩):ak P k args val:=aG.of_wp hf hb hn hN hle h
theorem Ends.pure {P:gy}{fn:Func}{val d:D}{e:Exit}{st:St}(he:e= .normal∨e= .ret)(hd:resD P.prog fn st=some d)(hle:Le d val)(hcl:cZ (fun _=>False) val):Ends P fn [] val [] e st:=
 ⟨he,d,hd,hle,hcl.mono (fun _ h=>h.elim),by simp,by simp⟩
theorem aj.pure {P:gy}{fo:D}{args:List D}{σ:List (Nat × aU)}{K:D→Rec→Prop}{k:FuncId}{first cap as:List D}{val:D}(h:ak P k as val)(hfo:fo= .fn (.func k) first cap)(has:as=(first++args++cap).map fg)
  (hcl:∀d∈as,cZ (fun _=>False) d) (hk:K val ⟨[],[]⟩):aj P fo args σ K:=by
 refine⟨k,first,cap,[],val,⟨[],[]⟩,hfo,by rw[← has];exact h,?_,?_,?_,?_,hk⟩
 ·intro b blk hb;cases hb
 ·intro b hb;cases hb
 ·rw[← has];exact fun d hd=>(hcl d hd).mono (fun _ h=>h.elim)
 ·intro b hb;cases hb
theorem ak.run {P:gy}{k:FuncId}{args:List D}{val:D}(h:ak P k args val)(w:World)(hI:P.I w)(hn:P.n≤w.heap.size)(vs:List Value)(hl:vs.length=args.length)(hr:∀(i:Nat) d v,args[i]?=some d→vs[i]?=some v→Rep (fun _ _=>False) (fun _=>none) w d v):
  Calls P.prog k vs.toArray w fun e w'=>∃v,e= .returned v∧Rep (fun _ _=>False) (fun _=>none) w' val v∧RowKit.Below w.heap.size w w':=by
 have hM:∀B off,¬aC (P.base fun _ _=>False) (fun _=>none) B off:=by
  rintro B off (h | ⟨b,g,h,_⟩)
  ·exact h
  ·cases h
 have hst:Store (P.base fun _ _=>False) (fun _=>none) (lk []) w:=⟨fun b=> .inr ⟨rfl,rfl⟩,(fun b b' g g' B h=>by cases h),(fun B off h=>h.elim),(fun b g B off h=>by cases h),hI,(fun b g B h=>by cases h),hn⟩
 refine (h.2 _ _ w vs hst hl (fun i d v h1 h2=>(hr i d v h1 h2).sub (fun B off hm=>(hM B off hm).elim))).mono ?_
 rintro e w' ⟨v,γ',rfl,q1,q2,q3⟩
 have hno:γ'=fun _=>none:=by
  funext b
  rcases q1.names b with⟨blk,g,q4,_⟩ | ⟨_,q4⟩
  ·cases q4
  ·exact q4
 subst hno
 exact⟨v,rfl,q3.sub (fun B off hm=>hm.elim),⟨q2.os,q2.tape,q2.output,q2.size,fun k hk=>q2.block k hk (fun b g hg=>by cases hg)⟩⟩
end Go.Id
namespace Go.Id
open Go
section
variable {P:gy} {ent:List Nat} {N:Nat} {Q:Exit→St→Prop} {st:St}
theorem GZ {ks:List Nat}{k:Nat}(h:ins k ks=true):k∈ks:=by
 induction ks with
 |nil=>cases h
 |cons a l ih=>
  simp only[ins] at h
  split at h
  ·rename_i e;subst e;simp
  ·exact List.mem_cons_of_mem _ (ih h)
theorem WG (ks:List Nat)(F:List (Nat × D))(t:Nat):lk (keep ks F) t=if ins t ks=true then lk F t else none:=by
 induction F with
 |nil=>simp[keep,lk]
 |cons q F ih=>
  obtain⟨k,v⟩:=q
  simp only[keep]
  split
  ·rename_i h
   simp only[lk,ih]
   by_cases e:t=k
   ·subst e;simp only[if_true,h]
   ·simp only[if_neg e]
  ·rename_i h
   simp only[lk,ih]
   by_cases e:t=k
   ·subst e;simp only[if_neg h]
   ·simp only[if_neg e]
theorem Weak.keep (ks:List Nat):Weak ent st ⟨Go.Id.keep ks st.F,st.σ⟩:=by
 rintro P E N a w ⟨γ,h1,h2,h3,h4,h5,h6⟩
 refine⟨γ,h1,h2,h3,h4,h5,fun t=>?_⟩
 simp only[St.get,WG]
 split
 ·exact h6 t
 ·exact .junk _
theorem ah.part {ops:Array Oper}{os:List Oper}{acc:List bP}{K:St→List bP→Prop}(t:Nat){b:Bool}(hb:st.get t= .bool b)(ht:b=true→ah P ops os st acc K)
  (hf:b=false→ah P ops os st acc K):ah P ops os st acc K:=by
 cases b
 ·exact hf rfl
 ·exact ht rfl
theorem Weak.agy {st':St}(hσ:st'.σ=st.σ)(h:∀t,Le (st.get t) (st'.get t)):Weak ent st st':=by
 rintro P E N a w ⟨γ,h1,h2,h3,h4,h5,h6⟩
 exact⟨γ,h1,by rw[hσ];exact h2,h3,h4,h5,fun t=>h t _ _ _ _ (h6 t)⟩
theorem Weak.meet {st0:St}(ks:List Nat)(t:Nat)(d:D)(h1:∀k∈ks,st.get k=st0.get k)(h3:Le (st.get t) d):Weak ent st ⟨(t,d)::Go.Id.keep ks st0.F,st.σ⟩:=by
 refine Weak.agy rfl fun k=>?_
 simp only[St.get,lk]
 split
 ·rename_i e;subst e;exact h3
 ·rw[WG]
  split
  ·rename_i hk
   have:=h1 k (GZ hk)
   simp only[St.get] at this
   rw[this]
   exact Le.refl _
  ·exact Le.junk _
theorem WP.adF {id:Nat}{ops:Array Oper}{y:Code}(ks:List Nat)(t:Nat)(d:D){F':List (Nat × D)}(hd:dX N ops=true)(hF:Go.Id.keep ks st.F=F')
  (h:∀K:St→List bP→Prop,(∀st' rs,(∀k∈ks,st'.get k=st.get k)→st'.σ=st.σ→Le (st'.get t) d→K st' rs)→ah P ops ops.toList st [] K) (hy:WP P ent N y Q ⟨(t,d)::F',st.σ⟩):
  WP P ent N (.seq (.region id ops false) y) Q st:=by
 refine WP.seq (WP.region hd fun K hK=>h K fun st' rs h1 h2 h3=>hK st' rs ?_)
 refine WP.weak (st':=⟨(t,d)::F',st.σ⟩) ?_ hy
 rw[← h2,← hF]
 exact Weak.meet ks t d h1 h3
theorem WP.Ph {id:Nat}{ops:Array Oper}{y:Code}(ks:List Nat)(t:Nat)(d:D){F':List (Nat × D)}(hm:P.prog.follows .mixedOrders=true)(hd:dX N ops=true)(hF:Go.Id.keep ks st.F=F')
  (h:∀K:St→List bP→Prop,(∀st' rs,r_ ops rs=true→(∀k∈ks,st'.get k=st.get k)→st'.σ=st.σ→Le (st'.get t) d→K st' rs)→ah P ops ops.toList st [] K) (hy:WP P ent N y Q ⟨(t,d)::F',st.σ⟩):
  WP P ent N (.seq (.region id ops true) y) Q st:=by
 refine WP.seq (WP.drawn hm hd fun K hK=>h K fun st' rs h0 h1 h2 h3=>hK st' rs h0 ?_)
 refine WP.weak (st':=⟨(t,d)::F',st.σ⟩) ?_ hy
 rw[← h2,← hF]
 exact Weak.meet ks t d h1 h3
theorem Le.of_eq {a b:D}(h:a=b):Le a b:=h ▸ Le.refl a
theorem wrap_i64 {n:Int}(h:-9223372036854775808≤n)(h':n≤9223372036854775807):IntKind.wrap .i64 n=n:=by
 unfold IntKind.wrap
 simp only[IntKind.bits,IntKind.signed,Bool.true_and]
 split <;> rename_i hh <;> simp at hh <;> omega
theorem wrap_u8 {n:Int}(h:0≤n)(h':n≤255):IntKind.wrap .u8 n=n:=by
 unfold IntKind.wrap
 simp only[IntKind.bits,IntKind.signed,Bool.false_and,Bool.false_eq_true,if_false]
 omega
end
def WH (P:gy)(ops:Array Oper)(os:List Oper)(st:St)(acc:List bP)(K:St→List bP→Prop)(dst:Option Tmp)(d:D)(r:Rec):Prop:=ah P ops os ((st.put dst d).lay r.ws) (acc++[⟨true,d,r⟩]) K
def Rh (P:gy)(ops:Array Oper)(os:List Oper)(st:St)(acc:List bP)(K:St→List bP→Prop)(dst:Option Tmp)(u:Bool)(e:Option Eff):Prop:=Dn u (fresh st.σ) (WH P ops os st acc K dst) e
def Iw (P:gy)(ops:Array Oper)(os:List Oper)(st:St)(acc:List bP)(K:St→List bP→Prop)(dst:Option Tmp)(o:Op):Prop:=ZN P o st (WH P ops os st acc K dst)
def stepW (P:gy)(ops:Array Oper)(os:List Oper)(o:Oper)(st:St)(acc:List bP)(K:St→List bP→Prop)(w:Option Bool):Prop:=
 match w with
 |some true=>Iw P ops os st acc K o.dst o.op
 |some false=>ah P ops os (st.put o.dst (.aJ [])) (acc++[⟨false,.aJ [],⟨[],[]⟩⟩]) K
 |none=>False
theorem WJ (a b:TypeId):(#[a,b]≠#[(#[a,b]:Array TypeId).getD 0 0,(#[a,b]:Array TypeId).getD 0 0])↔¬(b=a):=by
 have h:(#[a,b]:Array TypeId).getD 0 0=a:=rfl
 rw[h]
 simp
theorem adG:(∀(P:Program) (σ:Nat→Option aU) (id:Nat) (a b:TypeId) (z0:Nat) (nil:Bool) (es:List (List D)) (sz':Nat) (n':Bool) (es':List (List D)) (t':Option Nat),CY P σ id #[a,b] (.slice z0 nil es none) (.slice sz' n' es' t')=(match bV P a with
 |some (e,sz,by')=>if sz=0∨g_ P e=false∨¬(b=a)∨(¬es=[]∧¬(z0=sz))∨(¬es'=[]∧¬(sz'=sz)) then none else
  if nil=true then (if es'=[] then some (aH (.slice sz true [] none)) else some ⟨es'.length * by'≤140737488355328∧es'.length≤9223372036854775807,.slice sz false es' (some id),[],[(id,.aS e sz es'.length)]⟩) else none
 |none=>none)):=by
 intros P σ id a b z0 nil es sz' n' es' t'
 unfold CY
 have h0:((#[a,b]:Array TypeId)[0]?).bind (bV P)=bV P a:=rfl
 rw[h0]
 cases bV P a with
 |none=>rfl
 |some p=>
  obtain⟨e,sz,by'⟩:=p
  simp only[WJ,ne_eq]
theorem adH:(∀(P:Program) (σ:Nat→Option aU) (id:Nat) (a b:TypeId) (z0:Nat) (nil:Bool) (es:List (List D)) (t:Nat) (sz':Nat) (n':Bool) (es':List (List D)) (t':Option Nat),CY P σ id #[a,b] (.slice z0 nil es (some t)) (.slice sz' n' es' t')=(match bV P a with
 |some (e,sz,by')=>if sz=0∨g_ P e=false∨¬(b=a)∨(¬es=[]∧¬(z0=sz))∨(¬es'=[]∧¬(sz'=sz)) then none else
  (match σ t with
  |some (.aS e' z n)=>if e'=e∧z=sz∧n=es.length then some ⟨(es++es').length * by'≤140737488355328∧(es++es').length≤9223372036854775807,.slice sz (nil && es'.isEmpty) (es++es') (some t),[t],[(t,.aS e sz (es++es').length)]⟩ else none
  | _=>none)
 |none=>none)):=by
 intros P σ id a b z0 nil es t sz' n' es' t'
 unfold CY
 have h0:((#[a,b]:Array TypeId)[0]?).bind (bV P)=bV P a:=rfl
 rw[h0]
 cases bV P a with
 |none=>rfl
 |some p=>
  obtain⟨e,sz,by'⟩:=p
  simp only[WJ,ne_eq,List.length_append]
  try rfl
theorem adI:(∀(P:Program) (σ:Nat→Option aU) (id:Nat) (a b:TypeId) (z0:Nat) (nil:Bool) (es:List (List D)) (s:List UInt8),CZ P σ id #[a,b] (.slice z0 nil es none) s=(match bV P a with
 |some (e,sz,by')=>if byteElem P e=false∨¬(sz=1)∨isStr P b=false∨(¬es=[]∧¬(z0=1)) then none else
  if s=[] then some (aH (.slice z0 nil es none)) else
  if nil=true then some ⟨s.length * by'≤140737488355328∧s.length≤9223372036854775807,.slice 1 false (eY s) (some id),[],[(id,.aS e 1 (eY s).length)]⟩ else none
 |none=>none)):=by
 intros P σ id a b z0 nil es s
 unfold CZ
 have h0:((#[a,b]:Array TypeId)[0]?).bind (bV P)=bV P a:=rfl
 rw[h0]
 cases bV P a with
 |none=>rfl
 |some p=>
  obtain⟨e,sz,by'⟩:=p
  have h1:(#[a,b]:Array TypeId).getD 1 0=b:=rfl
  have h2:(#[a,b]:Array TypeId).getD 0 0=a:=rfl
  simp only[ne_eq,h1,h2,eY,List.length_map,not_true_eq_false,false_or]
theorem adJ:(∀(P:Program) (σ:Nat→Option aU) (id:Nat) (a b:TypeId) (z0:Nat) (nil:Bool) (es:List (List D)) (t:Nat) (s:List UInt8),CZ P σ id #[a,b] (.slice z0 nil es (some t)) s=(match bV P a with
 |some (e,sz,by')=>if byteElem P e=false∨¬(sz=1)∨isStr P b=false∨(¬es=[]∧¬(z0=1)) then none else
  if s=[] then some (aH (.slice z0 nil es (some t))) else
  (match σ t with
  |some (.aS e' z n)=>if e'=e∧z=1∧n=es.length then some ⟨(es++eY s).length * by'≤140737488355328∧(es++eY s).length≤9223372036854775807,.slice 1 false (es++eY s) (some t),[t],[(t,.aS e 1 (es++eY s).length)]⟩ else none
  | _=>none)
 |none=>none)):=by
 intros P σ id a b z0 nil es t s
 unfold CZ
 have h0:((#[a,b]:Array TypeId)[0]?).bind (bV P)=bV P a:=rfl
 rw[h0]
 cases bV P a with
 |none=>rfl
 |some p=>
  obtain⟨e,sz,by'⟩:=p
  have h1:(#[a,b]:Array TypeId).getD 1 0=b:=rfl
  have h2:(#[a,b]:Array TypeId).getD 0 0=a:=rfl
  simp only[ne_eq,List.length_append,h1,h2,eY,List.length_map,not_true_eq_false,false_or]
  try rfl
theorem qO:∀(s:List UInt8),bytesOf? (eY s)=some s
 | []=>rfl
 |c::s=>by
  have ih:=qO s
  unfold eY at ih ⊢
  simp only[List.map_cons,bytesOf?,byteOf?,Option.bind_some,ih,Option.map_some]
  simp
end Go.Id
set_option maxRecDepth 20000
namespace Go.Id
open Go
abbrev gX (o:Op)(u:Bool):Prop:=∀P ops os dst st acc K,Iw P ops os st acc K dst o=Rh P ops os st acc K dst u (dR P.prog (bQ st.get) (lk st.σ) (fresh st.σ) o)
theorem WpS:(∀x,gX (.move x) false)∧(∀x,gX (.assign x) false)∧(∀c a b,gX (.pick c a b) false)∧(∀e,gX (.alloc e) true)∧(∀e x,gX (.box e x) true)∧(∀t ps,gX (.build t ps) false)∧(∀t a,gX (.load t (.tmp a)) false)∧(∀t a x,gX (.store t a x) false)∧(∀x,gX (.nilCheck x) false)∧(∀op t u x y,gX (.binOp op t x y u) false)∧(∀op t x,gX (.unOp op t x) false)∧(∀s d x,gX (.convert s d x) false)∧(∀t x,gX (.makeInterface t x) false)∧(∀f a b,gX (.makeFunc f a b) false)∧(∀t x lo hi mx,gX (.slice t x lo hi mx) false)∧(∀t x f,gX (.fieldAddr t x f) false)∧(∀t x f,gX (.field t x f) false)∧(∀t x i,gX (.indexAddr t (.tmp x) i) false)∧(∀t x i,gX (.index t x i) false)∧(∀x i,gX (.extract x i) false)∧(∀args ts,gX (.call { callee:= .builtin .len,args:=args,argTypes:=ts }) false)∧(∀args ts,gX (.call { callee:= .builtin .append,args:=args,argTypes:=ts }) true)∧(∀t x,gX (.range t x) true)∧(∀b x,gX (.next x b) false)∧(∀args ts,gX (.call { callee:= .builtin .min,args:=args,argTypes:=ts }) false)∧(∀args ts,gX (.call { callee:= .builtin .max,args:=args,argTypes:=ts }) false)∧(∀args ts,gX (.call { callee:= .builtin .clear,args:=args,argTypes:=ts }) false)∧(∀t r,gX (.makeMap t r) true)∧(∀t x i b,gX (.lookup t x i b) false)∧(∀t m i x,gX (.mapUpdate t m i x) false)∧(∀args ts,gX (.call { callee:= .builtin .delete,args:=args,argTypes:=ts }) false)∧(∀x s d b,gX (.typeAssert x s d b) false):=by
 refine⟨?_,?_,?_,?_,?_,?_,?_,?_,?_,?_,?_,?_,?_,?_,?_,?_,?_,?_,?_,?_,?_,?_,?_,?_,?_,?_,?_,?_,?_,?_,?_,?_⟩ <;> (intros;unfold gX;intros;rfl)
theorem W0:(∀(P:gy),(∀(ops:Array Oper),(∀(os:List Oper),(∀(dst:Option Tmp) (st:St) (acc:List bP) (K:St→List bP→Prop),(∀(f:Operand) (args:Array Operand) (ts:Array TypeId),Iw P ops os st acc K dst (.call { callee:= .value f,args:=args,argTypes:=ts })=aj P (bQ st.get f) (args.toList.map (bQ st.get)) st.σ (WH P ops os st acc K dst))∧
 (∀(t:TypeId),(∀(n:Nat) (ps:Array (Nat × Operand)),Iw P ops os st acc K dst (.buildSlice t n ps)=Rh P ops os st acc K dst (P.lit t n ps) (if P.lit t n ps=true then opA P.prog (bQ st.get) (fresh st.σ) t n ps else dR P.prog (bQ st.get) (lk st.σ) (fresh st.σ) (.buildSlice t n ps)))∧
 (∀(g:Nat),(Iw P ops os st acc K dst (.load t (.global g))=Rh P ops os st acc K dst false (dR P.prog (qF P (bQ st.get)) (lk st.σ) (fresh st.σ) (.load t (.global g))))∧
 (∀(i:Operand),Iw P ops os st acc K dst (.indexAddr t (.global g) i)=Rh P ops os st acc K dst false (dR P.prog (qF P (bQ st.get)) (lk st.σ) (fresh st.σ) (.indexAddr t (.global g) i)))))∧
 (∀(u:Bool) (f:Eff),Rh P ops os st acc K dst u (some f)=(f.side∧ah P ops os ((st.put dst f.val).lay f.ws) (acc++[⟨true,f.val,⟨if u=true then fresh st.σ::f.zA else f.zA,f.ws⟩⟩]) K))∧
 (∀(d:D) (r:Rec),WH P ops os st acc K dst d r=ah P ops os ((st.put dst d).lay r.ws) (acc++[⟨true,d,r⟩]) K))∧
 (∀(st:St) (acc:List bP) (K:St→List bP→Prop) (o:Oper),(ah P ops (o::os) st acc K=stepW P ops os o st acc K (jK ops st.get o))∧
 (stepW P ops os o st acc K (some true)=Iw P ops os st acc K o.dst o.op)∧
 (stepW P ops os o st acc K (some false)=ah P ops os (st.put o.dst (.aJ [])) (acc++[⟨false,.aJ [],⟨[],[]⟩⟩]) K)))∧
 (∀(st:St) (acc:List bP) (K:St→List bP→Prop),ah P ops [] st acc K=K st acc))∧
 (∀(ρ:Operand→D),(∀(g:Nat),qF P ρ (.global g)=(match P.glob g with
   |some cs=> .dQ cs
   |none=>ρ (.global g)))∧
 (∀(t:Tmp),qF P ρ (.tmp t)=ρ (.tmp t))∧
 (∀(v:Value),qF P ρ (.const v)=ρ (.const v))))∧
 (∀(P:Program),(∀(ρ:Operand→D),(∀(σ:Nat→Option aU) (id:Nat),(∀(x:Operand),(dR P ρ σ id (.move x)=(some (aH (ρ x))))∧
 (dR P ρ σ id (.assign x)=(some (aH (ρ x))))∧
 (dR P ρ σ id (.nilCheck x)=(match ρ x with
   | .ref b off=>some (aH (.ref b off))
   | .dQ cs=>some (aH (.dQ cs))
   | .fn (.func f) a b=>some (aH (.fn (.func f) a b))
   | _=>none))∧
 (dR P ρ σ id (.next x true)=(match ρ x with
  | .ref b 0=>match σ b with
   |some (.iter s pos)=>some ⟨True,if pos<s.length then .aJ [.bool true,.int .i64 pos,.int .i32 (iy s pos).1] else .aJ [.bool false],[b],if pos<s.length then [(b,.iter s (pos+(iy s pos).2))] else []⟩
   | _=>none
  | _=>none))∧
 (∀(i:Nat),dR P ρ σ id (.extract x i)=(match ρ x with
   | .aJ vs=>(vs[i]?).map aH
   | _=>none))∧
 (∀(s dst:TypeId),dR P ρ σ id (.typeAssert x s dst true)=(match ρ x with
   | .iface t d=>if Ei P dst=true∧t=dst then some (aH (.aJ [d,.bool true])) else none
   | _=>none)))∧
 (∀(c a b:Operand),dR P ρ σ id (.pick c a b)=(match ρ c with
   | .bool true=>some (aH (ρ a))
   | .bool false=>some (aH (ρ b))
   | _=>none))∧
 (∀(e:TypeId),(dR P ρ σ id (.alloc e)=((gV P e).map fun cs=>⟨True,.ref id 0,[],[(id,.box e cs)]⟩))∧
 (∀(x:Operand),dR P ρ σ id (.box e x)=((cells? (ρ x)).map fun cs=>⟨True,.ref id 0,[],[(id,.box e cs)]⟩)))∧
 (∀(t:TypeId),(∀(parts:Array (Nat × Operand)),dR P ρ σ id (.build t parts)=(if eH P t=true then (gV P t).bind fun z=>(pV P t ρ parts.toList z).map fun cs=>aH (.agg cs) else none))∧
 (∀(len:Nat) (parts:Array (Nat × Operand)),dR P ρ σ id (.buildSlice t len parts)=((bV P t).bind fun (e,sz,_)=>if len * sz≤16777216∧parts.size=len∧sz≠0∧g_ P e=true then (jh ρ sz 0 parts.toList).map fun es=>aH (.slice sz false es none) else none))∧
 (∀(a:Operand),(dR P ρ σ id (.load t a)=((jw P t).bind fun g=>(rY P t).bind fun sz=>match ρ a with
   | .ref b off=>match σ b with
    |some (.box _ cs)|some (.arr _ cs)=>(rZ g sz (cs.drop off)).map fun d=>⟨True,d,[b],[]⟩
    | _=>none
   | .dQ cs=>(rZ g sz cs).map aH
   | _=>none))∧
 (∀(x:Operand),dR P ρ σ id (.store t a x)=((rY P t).bind fun sz=>(cells? (ρ x)).bind fun vs=>match ρ a with
   | .ref b off=>match σ b with
    |some (.box t' cs)=>if vs.length=sz∧off+sz≤cs.length then some ⟨True,.junk,[b],[(b,.box t' (cs.take off++vs++cs.drop (off+sz)))]⟩ else none
    |some (.arr z cs)=>if vs.length=sz∧off+sz≤cs.length then some ⟨True,.junk,[b],[(b,.arr z (cs.take off++vs++cs.drop (off+sz)))]⟩ else none
    | _=>none
   | _=>none)))∧
 (∀(x:Operand),(dR P ρ σ id (.makeInterface t x)=(if Ei P t=true then some (aH (.iface t (ρ x))) else none))∧
 (dR P ρ σ id (.range t x)=(match ρ x with
  | .str s=>if isStr P t=true then some ⟨True,.ref id 0,[],[(id,.iter s 0)]⟩ else none
  | .map b=>match σ b with
   |some (.map es clock)=>if (mapD P t).isSome=true then some ⟨True,.ref id 0,[b],[(id,.dS b clock [] clock)]⟩ else none
   | _=>none
  | _=>none))∧
 (∀(lo hi:Option Operand),dR P ρ σ id (.slice t x lo hi none)=(match ρ x with
   | .str s=>if isStr P t then (kS 0 (.str s) (lo.map ρ) (hi.map ρ)).map aH else none
   | .slice a b c d=>(bV P t).bind fun (_,sz,_)=>(kS sz (.slice a b c d) (lo.map ρ) (hi.map ρ)).map aH
   | .arr a b c=>(bV P t).bind fun (_,sz,_)=>(kS sz (.arr a b c) (lo.map ρ) (hi.map ρ)).map aH
   | _=>none))∧
 (∀(f:Nat),dR P ρ σ id (.field t x f)=((dV P t f).bind fun (off,sz)=>match (P.underlying t),ρ x with
   |some (.struct fs),.agg cs=>((fs[f]?).bind fun fl=>jw P fl.type).bind fun g=>(rZ g sz (cs.drop off)).map aH
   | _,_=>none))∧
 (∀(i:Operand),(dR P ρ σ id (.indexAddr t x i)=((Ia (ρ i)).bind fun n=>match ρ x with
   | .slice z false es _=>(bV P t).bind fun (_,sz,_)=>if z=sz then (es[n]?).map fun e=>aH (.dQ e) else none
   | .arr b z m=>(bV P t).bind fun (_,sz,_)=>if z=sz∧n<m then some (aH (.ref b (n * sz))) else none
   | .ref b o=>(Ll P t).bind fun (m,sz)=>if n<m then some (aH (.ref b (o+n * sz))) else none
   | .dQ cs=>(Ll P t).bind fun (m,sz)=>if n<m then some (aH (.dQ (cs.drop (n * sz)))) else none
   | _=>none))∧
 (dR P ρ σ id (.index t x i)=(match ρ x with
   | .str s=>if isStr P t then (Ia (ρ i)).bind fun n=>(s[n]?).map fun c=>aH (.int .u8 c.toNat) else none
   | .agg cs=>(ZQ P t).bind fun m=>(Ia (ρ i)).bind fun n=>if n<m then (cs[n]?).map aH else none
   | _=>none))∧
 (∀(ok:Bool),dR P ρ σ id (.lookup t x i ok)=((mapD P t).bind fun e=>(zeroV P e).bind fun z=>match ρ x,ρ i with
   | .bG,.str _=>some (aH (if ok then .aJ [z,.bool false] else z))
   | .map b,.str s=>match σ b with
    |some (.map es _)=>some ⟨True,if ok then .aJ [(je es s).getD z,.bool (je es s).isSome] else (je es s).getD z,[b],[]⟩
    | _=>none
   | _,_=>none))))∧
 (dR P ρ σ id (.makeMap t none)=((mapD P t).map fun _=>⟨True,.map id,[],[(id,.map [] 0)]⟩))∧
 (∀(m i x:Operand),dR P ρ σ id (.mapUpdate t m i x)=((mapD P t).bind fun _=>match ρ m,ρ i with
   | .map b,.str s=>match σ b with
    |some (.map es clock)=>some ⟨True,.junk,[b],[(b,.map (GR es clock s (ρ x)) (Ic es clock s))]⟩
    | _=>none
   | _,_=>none)))∧
 (∀(op:BinOp) (xt yt:TypeId) (x y:Operand),dR P ρ σ id (.binOp op xt x y yt)=(dW P op xt (iU x || iU y) (ρ x) (ρ y)))∧
 (∀(op:UnOp) (xt:TypeId) (x:Operand),dR P ρ σ id (.unOp op xt x)=((Ej op (ρ x)).map aH))∧
 (∀(src dst:TypeId) (x:Operand),dR P ρ σ id (.convert src dst x)=((Ib P src dst (ρ x)).map aH))∧
 (∀(f:Fn) (a b:Array Operand),dR P ρ σ id (.makeFunc f a b)=(some (aH (.fn f (a.toList.map ρ) (b.toList.map ρ)))))∧
 (∀(s:TypeId) (x:Operand) (f:Nat),dR P ρ σ id (.fieldAddr s x f)=((dV P s f).bind fun (off,sz)=>if sz=0 then none else match ρ x with
   | .ref b o=>some (aH (.ref b (o+off)))
   | .dQ cs=>some (aH (.dQ (cs.drop off)))
   | _=>none))∧
 (∀(args:Array Operand) (argTypes:Array TypeId),(dR P ρ σ id (.call { callee:= .builtin .len,args:=args,argTypes:=argTypes })=(if args.size=1∧argTypes.size=1 then (args[0]?).bind fun x=>(argTypes[0]?).bind fun t=>match ρ x with
   | .map b=>match σ b with
    |some (.map es _)=>if (mapD P t).isSome=true then some ⟨True,.int .i64 es.length,[b],[]⟩ else none
    | _=>none
   | _=>(lenD P t (ρ x)).map aH else none))∧
 (dR P ρ σ id (.call { callee:= .builtin .append,args:=args,argTypes:=argTypes })=(if args.size=2 then (args[0]?).bind fun x=>(args[1]?).bind fun y=>OW P σ id argTypes (ρ x) (ρ y) else none))∧
 (dR P ρ σ id (.call { callee:= .builtin .min,args:=args,argTypes:=argTypes })=(if args.size=2 then (args[0]?).bind fun x=>(args[1]?).bind fun y=>(minD (ρ x) (ρ y)).map aH else none))∧
 (dR P ρ σ id (.call { callee:= .builtin .max,args:=args,argTypes:=argTypes })=(if args.size=2 then (args[0]?).bind fun x=>(args[1]?).bind fun y=>(maxD (ρ x) (ρ y)).map aH else none))∧
 (dR P ρ σ id (.call { callee:= .builtin .clear,args:=args,argTypes:=argTypes })=(if args.size=1∧argTypes.size=1 then (args[0]?).bind fun x=>(argTypes[0]?).bind fun t=>(bV P t).bind fun (e,sz,_)=>(gV P e).bind fun z=>if z.length=sz then C9 σ sz (ρ x) else none else none))∧
 (dR P ρ σ id (.call { callee:= .builtin .delete,args:=args,argTypes:=argTypes })=(if args.size=2 then (argTypes[0]?).bind fun t=>(mapD P t).bind fun _=>(args[0]?).bind fun m=>(args[1]?).bind fun i=>match ρ m,ρ i with
   | .map b,.str s=>match σ b with
    |some (.map es clock)=>some ⟨True,.aJ [],[b],[(b,.map (C_ es s) clock)]⟩
    | _=>none
   | _,_=>none else none))))∧
 (∀(t:TypeId),(∀(cs:List D),pV P t ρ [] cs=some cs)∧
 (∀ (i:Nat) (x:Operand) (ps:List (Nat × Operand)) (cs:List D),pV P t ρ ((i,x)::ps) cs=((dV P t i).bind fun q=>(cells? (ρ x)).bind fun vs=>
    if vs.length=q.2∧q.1+q.2≤cs.length then pV P t ρ ps (cs.take q.1++vs++cs.drop (q.1+q.2)) else none)))∧
 (∀(id:Nat) (t:TypeId) (len:Nat) (parts:Array (Nat × Operand)),opA P ρ id t len parts=((bV P t).bind fun (e,sz,_)=>if len * sz≤16777216∧parts.size=len∧sz≠0∧g_ P e=true then (jh ρ sz 0 parts.toList).map fun es=>⟨True,.slice sz false es (some id),[],[(id,.aS e sz len)]⟩ else none)))∧
 (∀(xt:TypeId) (c:Bool),(∀(k k':IntKind) (a b:Int),(dW P .add xt c (.int k a) (.int k' b)=(if k=k' then (intD .add k a b).map aH else none))∧
 (dW P .sub xt c (.int k a) (.int k' b)=(if k=k' then (intD .sub k a b).map aH else none))∧
 (dW P .mul xt c (.int k a) (.int k' b)=(if k=k' then (intD .mul k a b).map aH else none))∧
 (dW P .quo xt c (.int k a) (.int k' b)=(if k=k' then (intD .quo k a b).map aH else none))∧
 (dW P .rem xt c (.int k a) (.int k' b)=(if k=k' then (intD .rem k a b).map aH else none))∧
 (dW P .and xt c (.int k a) (.int k' b)=(if k=k' then (intD .and k a b).map aH else none))∧
 (dW P .or xt c (.int k a) (.int k' b)=(if k=k' then (intD .or k a b).map aH else none))∧
 (dW P .xor xt c (.int k a) (.int k' b)=(if k=k' then (intD .xor k a b).map aH else none))∧
 (dW P .andNot xt c (.int k a) (.int k' b)=(if k=k' then (intD .andNot k a b).map aH else none))∧
 (dW P .eql xt c (.int k a) (.int k' b)=(if k=k' then (intD .eql k a b).map aH else none))∧
 (dW P .neq xt c (.int k a) (.int k' b)=(if k=k' then (intD .neq k a b).map aH else none))∧
 (dW P .lss xt c (.int k a) (.int k' b)=(if k=k' then (intD .lss k a b).map aH else none))∧
 (dW P .leq xt c (.int k a) (.int k' b)=(if k=k' then (intD .leq k a b).map aH else none))∧
 (dW P .gtr xt c (.int k a) (.int k' b)=(if k=k' then (intD .gtr k a b).map aH else none))∧
 (dW P .geq xt c (.int k a) (.int k' b)=(if k=k' then (intD .geq k a b).map aH else none))∧
 (dW P .shl xt c (.int k a) (.int k' b)=(if 0≤b then some (aH (.int k (k.wrap (a * 2 ^ (min b.toNat k.bits))))) else none))∧
 (dW P .shr xt c (.int k a) (.int k' b)=(if 0≤b then some (aH (.int k (a.fdiv (2 ^ (min b.toNat k.bits))))) else none)))∧
 (∀(a b:List UInt8),(dW P .add xt c (.str a) (.str b)=strD .add a b)∧
 (dW P .eql xt c (.str a) (.str b)=strD .eql a b)∧
 (dW P .neq xt c (.str a) (.str b)=strD .neq a b)∧
 (dW P .lss xt c (.str a) (.str b)=strD .lss a b)∧
 (dW P .leq xt c (.str a) (.str b)=strD .leq a b)∧
 (dW P .gtr xt c (.str a) (.str b)=strD .gtr a b)∧
 (dW P .geq xt c (.str a) (.str b)=strD .geq a b))∧
 (∀(xs ys:List D),(dW P .eql xt c (.agg xs) (.agg ys)=((CX P xt).bind fun ks=>(bY ks xs ys).map fun r=>aH (.bool (r))))∧
 (dW P .neq xt c (.agg xs) (.agg ys)=((CX P xt).bind fun ks=>(bY ks xs ys).map fun r=>aH (.bool (!r)))))∧
 (∀(a:Nat),(∀(a2:Nat) (b b2:Bool) (e e2:List (List D)) (f f2:Option Nat),(dW P .eql xt c (.slice a b e f) (.slice a2 b2 e2 f2)=((if qJ P xt=1∧(b=true∨b2=true) then some (b && b2) else none).map fun r=>aH (.bool (r))))∧
 (dW P .neq xt c (.slice a b e f) (.slice a2 b2 e2 f2)=((if qJ P xt=1∧(b=true∨b2=true) then some (b && b2) else none).map fun r=>aH (.bool (!r)))))∧
 (∀(b:Nat),(dW P .eql xt c (.aP) (.ref a b)=((if qJ P xt=2 then some false else none).map fun r=>aH (.bool (r))))∧
 (dW P .eql xt c (.ref a b) (.aP)=((if qJ P xt=2 then some false else none).map fun r=>aH (.bool (r))))∧
 (dW P .neq xt c (.aP) (.ref a b)=((if qJ P xt=2 then some false else none).map fun r=>aH (.bool (!r))))∧
 (dW P .neq xt c (.ref a b) (.aP)=((if qJ P xt=2 then some false else none).map fun r=>aH (.bool (!r))))))∧
 (dW P .eql xt c (.aP) (.aP)=((if qJ P xt=2 then some true else none).map fun r=>aH (.bool (r))))∧
 (dW P .eql xt c (.dD) (.dD)=((if qJ P xt=3 then some true else none).map fun r=>aH (.bool (r))))∧
 (dW P .eql xt c (.aI) (.aI)=((if qJ P xt=4∧c=true then some true else none).map fun r=>aH (.bool (r))))∧
 (dW P .neq xt c (.aP) (.aP)=((if qJ P xt=2 then some true else none).map fun r=>aH (.bool (!r))))∧
 (dW P .neq xt c (.dD) (.dD)=((if qJ P xt=3 then some true else none).map fun r=>aH (.bool (!r))))∧
 (dW P .neq xt c (.aI) (.aI)=((if qJ P xt=4∧c=true then some true else none).map fun r=>aH (.bool (!r))))∧
 (∀(l:List D),(dW P .eql xt c (.aP) (.dQ l)=((if qJ P xt=2 then some false else none).map fun r=>aH (.bool (r))))∧
 (dW P .eql xt c (.dQ l) (.aP)=((if qJ P xt=2 then some false else none).map fun r=>aH (.bool (r))))∧
 (dW P .neq xt c (.aP) (.dQ l)=((if qJ P xt=2 then some false else none).map fun r=>aH (.bool (!r))))∧
 (dW P .neq xt c (.dQ l) (.aP)=((if qJ P xt=2 then some false else none).map fun r=>aH (.bool (!r)))))∧
 (∀(f:Fn) (a b:List D),(dW P .eql xt c (.dD) (.fn f a b)=((if qJ P xt=3 then some false else none).map fun r=>aH (.bool (r))))∧
 (dW P .eql xt c (.fn f a b) (.dD)=((if qJ P xt=3 then some false else none).map fun r=>aH (.bool (r))))∧
 (dW P .neq xt c (.dD) (.fn f a b)=((if qJ P xt=3 then some false else none).map fun r=>aH (.bool (!r))))∧
 (dW P .neq xt c (.fn f a b) (.dD)=((if qJ P xt=3 then some false else none).map fun r=>aH (.bool (!r)))))∧
 (∀(t:TypeId) (d:D),(dW P .eql xt c (.aI) (.iface t d)=((if qJ P xt=4 then some false else none).map fun r=>aH (.bool (r))))∧
 (dW P .eql xt c (.iface t d) (.aI)=((if qJ P xt=4 then some false else none).map fun r=>aH (.bool (r))))∧
 (dW P .neq xt c (.aI) (.iface t d)=((if qJ P xt=4 then some false else none).map fun r=>aH (.bool (!r))))∧
 (dW P .neq xt c (.iface t d) (.aI)=((if qJ P xt=4 then some false else none).map fun r=>aH (.bool (!r)))))∧
 (∀(a b:Bool),(dW P .eql xt c (.bool a) (.bool b)=((if qJ P xt=5 then some (a == b) else none).map fun r=>aH (.bool (r))))∧
 (dW P .neq xt c (.bool a) (.bool b)=((if qJ P xt=5 then some (a == b) else none).map fun r=>aH (.bool (!r))))))∧
 (∀(k:IntKind) (src dst:TypeId) (n:Int),Ib P src dst (.int k n)=(if (jJ P src).isSome=true then (jJ P dst).map fun k=> .int k (k.wrap n) else none))∧
 (∀(src dst:TypeId),(∀(s:List UInt8),Ib P src dst (.str s)=(if isStr P dst∧isStr P src then some (.str s) else none))∧
 (∀(b:Bool) (es:List (List D)) (t:Option Nat),Ib P src dst (.slice 1 b es t)=(if isStr P dst∧(bV P src).bind (fun e=>jJ P e.1)=some .u8 then (bytesOf? es).map .str else none)))∧
 (∀(t:TypeId),(∀(s:List UInt8),lenD P t (.str s)=(if isStr P t=true then some (.int .i64 s.length) else none))∧
 (∀(a:Nat),(∀(b:Bool) (es:List (List D)) (f:Option Nat),lenD P t (.slice a b es f)=(if fM P t=true then some (.int .i64 es.length) else none))∧
 (∀(b n:Nat),lenD P t (.arr a b n)=(if fM P t=true then some (.int .i64 n) else none))))∧
 (∀(σ:Nat→Option aU) (id:Nat),(∀(ts:Array TypeId) (x:D),(∀(s:List UInt8),OW P σ id ts x (.str s)=CZ P σ id ts x s)∧
 (∀(a:Nat) (b:Bool) (c:List (List D)) (d:Option Nat),OW P σ id ts x (.slice a b c d)=CY P σ id ts x (.slice a b c d)))∧
 (∀(a b:TypeId) (z0:Nat) (nil:Bool) (es:List (List D)),(∀(sz':Nat) (n':Bool) (es':List (List D)) (t':Option Nat),CY P σ id #[a,b] (.slice z0 nil es none) (.slice sz' n' es' t')=(match bV P a with
  |some (e,sz,by')=>if sz=0∨g_ P e=false∨¬(b=a)∨(¬es=[]∧¬(z0=sz))∨(¬es'=[]∧¬(sz'=sz)) then none else
   if nil=true then (if es'=[] then some (aH (.slice sz true [] none)) else some ⟨es'.length * by'≤140737488355328∧es'.length≤9223372036854775807,.slice sz false es' (some id),[],[(id,.aS e sz es'.length)]⟩) else none
  |none=>none))∧
 (∀(t:Nat),(∀(sz':Nat) (n':Bool) (es':List (List D)) (t':Option Nat),CY P σ id #[a,b] (.slice z0 nil es (some t)) (.slice sz' n' es' t')=(match bV P a with
  |some (e,sz,by')=>if sz=0∨g_ P e=false∨¬(b=a)∨(¬es=[]∧¬(z0=sz))∨(¬es'=[]∧¬(sz'=sz)) then none else
   (match σ t with
   |some (.aS e' z n)=>if e'=e∧z=sz∧n=es.length then some ⟨(es++es').length * by'≤140737488355328∧(es++es').length≤9223372036854775807,.slice sz (nil && es'.isEmpty) (es++es') (some t),[t],[(t,.aS e sz (es++es').length)]⟩ else none
   | _=>none)
  |none=>none))∧
 (∀(s:List UInt8),CZ P σ id #[a,b] (.slice z0 nil es (some t)) s=(match bV P a with
  |some (e,sz,by')=>if byteElem P e=false∨¬(sz=1)∨isStr P b=false∨(¬es=[]∧¬(z0=1)) then none else
   if s=[] then some (aH (.slice z0 nil es (some t))) else
   (match σ t with
   |some (.aS e' z n)=>if e'=e∧z=1∧n=es.length then some ⟨(es++eY s).length * by'≤140737488355328∧(es++eY s).length≤9223372036854775807,.slice 1 false (es++eY s) (some t),[t],[(t,.aS e 1 (es++eY s).length)]⟩ else none
   | _=>none)
  |none=>none)))∧
 (∀(s:List UInt8),CZ P σ id #[a,b] (.slice z0 nil es none) s=(match bV P a with
  |some (e,sz,by')=>if byteElem P e=false∨¬(sz=1)∨isStr P b=false∨(¬es=[]∧¬(z0=1)) then none else
   if s=[] then some (aH (.slice z0 nil es none)) else
   if nil=true then some ⟨s.length * by'≤140737488355328∧s.length≤9223372036854775807,.slice 1 false (eY s) (some id),[],[(id,.aS e 1 (eY s).length)]⟩ else none
  |none=>none)))))∧
 (∀(ops:Array Oper) (F:Nat→D) (o:Oper),jK ops F o=(match o.guard with
  |none=>some true
  |some (j,want)=>match (ops[j]?).bind (·.dst) with
   |some t=>match F t with
    | .bool b=>some (b == want)
    | .aJ _=>some false
    | _=>none
   |none=>some false))∧
 (∀(F:Nat→D),(∀(t:Tmp),bQ F (.tmp t)=F t)∧
 (∀(v:Value),bQ F (.const v)=jv v)∧
 (∀(f:FuncId),bQ F (.func f)= .fn (.func f) [] []))∧
 (∀(F:List (Nat × D)) (σ:List (Nat × aU)),(∀(t:Nat),(St.get ⟨F,σ⟩ t=(lk F t).getD .junk)∧
 (∀(d:D),St.put ⟨F,σ⟩ (some t) d=⟨(t,d)::dl F t,σ⟩))∧
 (∀(b:Nat),(∀(blk:aU),St.lay ⟨F,σ⟩ [(b,blk)]=⟨F,(b,blk)::dl σ b⟩)∧
 (∀(c:Nat),(∀(x y:aU),St.lay ⟨F,σ⟩ [(b,x),(c,y)]=⟨F,(b,x)::dl ((c,y)::dl σ c) b⟩)∧
 (∀(d:Nat),(∀(x y z:aU),St.lay ⟨F,σ⟩ [(b,x),(c,y),(d,z)]=⟨F,(b,x)::dl ((c,y)::dl ((d,z)::dl σ d) c) b⟩)∧
 (∀(i:Nat) (x y z u:aU),St.lay ⟨F,σ⟩ [(b,x),(c,y),(d,z),(i,u)]=⟨F,(b,x)::dl ((c,y)::dl ((d,z)::dl ((i,u)::dl σ i) d) c) b⟩)))))∧
 (∀(st:St),(∀(d:D),St.put st none d=st)∧
 (St.lay st []=st))∧
 (∀(α:Type),(∀(i:Nat),((lk ([]:List (Nat × α)) i)=none)∧
 ((dl ([]:List (Nat × α)) i)=[]))∧
 (∀(k:Nat) (v:α) (l:List (Nat × α)),(∀(i:Nat),(lk ((k,v)::l) i=(if i=k then some v else lk l i))∧
 (dl ((k,v)::l) i=(if i=k then dl l i else (k,v)::dl l i)))∧
 (fresh ((k,v)::l)=max (k+1) (fresh l)))∧
 ((fresh ([]:List (Nat × α)))=0)∧
 (([]:List α).length=0)∧
 (([]:List (List α)).flatten=[])∧
 (∀(β:Type),(∀(x:α),(∀(f:α→Option β),(some x).bind f=f x)∧
 (∀(f:α→β),(some x).map f=some (f x)))∧
 (∀(f:α→β),(List.map f []=[])∧
 ((none:Option α).map f=none)∧
 (∀(x:α) (l:List α),List.map f (x::l)=f x::List.map f l)∧
 (∀(l:List α),(l.map f).length=l.length))∧
 (∀(f:α→Option β),(none:Option α).bind f=none))∧
 (∀(x:α),(∀(y:α),(some x).getD y=x)∧
 (∀(l:List α),((x::l)[0]?=some x)∧
 ((x::l).length=l.length+1)∧
 ((x::l).head?=some x)∧
 (∀(n:Nat),((x::l)[n+1]?=l[n]?)∧
 ((x::l).take (n+1)=x::l.take n)∧
 ((x::l).drop (n+1)=l.drop n))∧
 (∀(m:List α),(x::l)++m=x::(l++m))))∧
 (∀(y:α),(none:Option α).getD y=y)∧
 (∀(l:List α),(l.toArray.toList=l)∧
 (l.take 0=[])∧
 (l.drop 0=l)∧
 ([]++l=l)∧
 (l++[]=l)∧
 ((l.toArray.size=l.length))∧
 (∀(i:Nat),(l.toArray[i]?=l[i]?))∧
 (∀(m:List (List α)),(l::m).flatten=l++m.flatten))∧
 (∀(n:Nat),([]:List α).take n=[])∧
 (∀(ks:List Nat),(keep ks ([]:List (Nat × α))=[])∧
 (∀(k:Nat) (v:α) (l:List (Nat × α)),keep ks ((k,v)::l)=(if ins k ks=true then (k,v)::keep ks l else keep ks l)))∧
 (∀(c:Prop) (d:Decidable c) (a:α),@ite α c d a a=a)∧
 (∀(a:α),(∀(b:α),(a≠b)=¬(a=b))∧
 ((some a).isSome=true)))∧
 (∀(b:Bool),(jv (.bool b)= .bool b)∧
 (cells? (.bool b)=some [.bool b])∧
 (Ej .not (.bool b)=some (.bool (!b)))∧
 ((b && true)=b)∧
 ((true && b)=b)∧
 ((b && false)=false)∧
 ((false && b)=false)∧
 ((b || true)=true)∧
 ((true || b)=true)∧
 ((b || false)=b)∧
 ((false || b)=b)∧
 ((b == b)=true))∧
 (∀(k:IntKind),(∀(n:Int),(jv (.int k n)= .int k n)∧
 (cells? (.int k n)=some [.int k n])∧
 (Ia (.int k n)=(if 0≤n then some n.toNat else none))∧
 (Ej .neg (.int k n)=some (.int k (k.wrap (0 - n))))∧
 (Ej .xor (.int k n)=some (.int k (k.wrap (BitVec.ofInt k.bits (if k.signed then -1 else k.max) ^^^ BitVec.ofInt k.bits n).toNat))))∧
 (∀(a b:Int),(intD .add k a b=some (.int k (k.wrap (a+b))))∧
 (intD .sub k a b=some (.int k (k.wrap (a - b))))∧
 (intD .mul k a b=some (.int k (k.wrap (a * b))))∧
 (intD .quo k a b=(if b=0 then none else some (.int k (k.wrap (a.tdiv b)))))∧
 (intD .rem k a b=(if b=0 then none else some (.int k (a.tmod b))))∧
 (intD .and k a b=some (.int k (k.wrap (BitVec.ofInt k.bits a &&& BitVec.ofInt k.bits b).toNat)))∧
 (intD .or k a b=some (.int k (k.wrap (BitVec.ofInt k.bits a ||| BitVec.ofInt k.bits b).toNat)))∧
 (intD .xor k a b=some (.int k (k.wrap (BitVec.ofInt k.bits a ^^^ BitVec.ofInt k.bits b).toNat)))∧
 (intD .andNot k a b=some (.int k (k.wrap (BitVec.ofInt k.bits a &&& ~~~BitVec.ofInt k.bits b).toNat)))∧
 (intD .eql k a b=some (.bool (a == b)))∧
 (intD .neq k a b=some (.bool (a != b)))∧
 (intD .lss k a b=some (.bool (decide (a<b))))∧
 (intD .leq k a b=some (.bool (decide (a≤b))))∧
 (intD .gtr k a b=some (.bool (decide (a>b))))∧
 (intD .geq k a b=some (.bool (decide (a≥b)))))∧
 (∀(ks:List CK) (k':IntKind) (a b:Int) (x y:List D),bY (.i::ks) (.int k a::x) (.int k' b::y)=(if k=k' then (bY ks x y).map fun r=>(a == b) && r else none))∧
 (∀(k':IntKind) (x y:Int),(minD (.int k x) (.int k' y)=some (.int k (if y<x then y else x)))∧
 (maxD (.int k x) (.int k' y)=some (.int k (if y>x then y else x)))))∧
 (∀(s:Array UInt8),jv (.string ⟨s⟩)= .str s.toList)∧
 (∀(cs:List D),(cells? (.agg cs)=some cs)∧
 (cells? (.dQ cs)=some [.dQ cs]))∧
 (∀(s:List UInt8),(cells? (.str s)=some [.str s])∧
 (bytesOf? (eY s)=some s))∧
 (∀(a:Nat),(∀(b:Bool) (c:List (List D)) (e:Option Nat),cells? (.slice a b c e)=some [.slice a b c e])∧
 (∀(b:Nat),(∀(c:Nat),(cells? (.arr a b c)=some [.arr a b c])∧
 (∀(d:Nat),cells? (.view a b c d)=some [.view a b c d]))∧
 (cells? (.ref a b)=some [.ref a b])))∧
 (∀(f:Fn) (a b:List D),cells? (.fn f a b)=some [.fn f a b])∧
 (∀(t:TypeId) (d:D),cells? (.iface t d)=some [.iface t d])∧
 (∀(sz:Nat),(∀(cs:List D),(rZ true sz cs=(if sz≤cs.length then some (.agg (cs.take sz)) else none))∧
 (rZ false sz cs=cs.head?))∧
 (∀(s:List UInt8) (lo hi:Option D),kS sz (.str s) lo hi=((jP 0 lo).bind fun l=>(jP s.length hi).bind fun h=>
   if l≤h∧h≤s.length then some (.str ((s.take h).drop l)) else none))∧
 (∀(z:Nat) (nil:Bool) (es:List (List D)) (aS:Option Nat) (lo hi:Option D),kS sz (.slice z nil es aS) lo hi=((jP 0 lo).bind fun l=>(jP es.length hi).bind fun h=>
   if l≤h∧h≤es.length∧(nil=true∨z=sz) then some (.slice z nil ((es.take h).drop l) (if l=0∧h=es.length then aS else none)) else none))∧
 (∀(b z m:Nat) (lo hi:Option D),kS sz (.arr b z m) lo hi=((jP 0 lo).bind fun l=>(jP m hi).bind fun h=>
   if l≤h∧h≤m∧z=sz then some (if l=0 then .arr b z h else .view b (l * z) z (h - l)) else none)))∧
 (∀(n:Nat),(jP n none=some n)∧
 (((n:Int)).toNat=n)∧
 (((0:Int)≤(n:Int))=True)∧
 (max n 0=n)∧
 (0+n=n)∧
 (n+0=n)∧
 ((0≤n)=True)∧
 ((n≤n)=True)∧
 (∀(d:D),jP n (some d)=Ia d))∧
 (∀(a b:List UInt8),(strD .add a b=some ⟨a.length+b.length≤9223372036854775807,.str (a++b),[],[]⟩)∧
 (strD .eql a b=some (aH (.bool (a == b))))∧
 (strD .neq a b=some (aH (.bool (!(a == b)))))∧
 (strD .lss a b=some (aH (.bool (Op.bytesLess a b))))∧
 (strD .leq a b=some (aH (.bool (Op.bytesLess a b || a == b))))∧
 (strD .gtr a b=some (aH (.bool (!(Op.bytesLess a b || a == b)))))∧
 (strD .geq a b=some (aH (.bool (!(Op.bytesLess a b))))))∧
 (∀(ks:List CK),(∀(a b:Bool) (x y:List D),bY (.b::ks) (.bool a::x) (.bool b::y)=((bY ks x y).map fun r=>(a == b) && r))∧
 (∀(a b:List UInt8) (x y:List D),bY (.s::ks) (.str a::x) (.str b::y)=((bY ks x y).map fun r=>(a == b) && r)))∧
 (∀(ρ:Operand→D) (sz i:Nat),(jh ρ sz i []=some [])∧
 (∀(j:Nat) (x:Operand) (ps:List (Nat × Operand)),jh ρ sz i ((j,x)::ps)=(if i=j then (cells? (ρ x)).bind fun cs=>if cs.length=sz then (jh ρ sz (i+1) ps).map (cs::·) else none else none)))∧
 (∀(d:D),aH d=⟨True,d,[],[]⟩)∧
 (∀(v:Value),iU (.const v)=true)∧
 (∀(t:Tmp),iU (.tmp t)=false)∧
 (∀(f:FuncId),iU (.func f)=false)∧
 (∀(p:Prop),((True∧p)=p)∧
 ((p∧True)=p)∧
 ((True∨p)=True)∧
 ((p∨True)=True)∧
 ((False∨p)=p)∧
 ((p∨False)=p)∧
 ((False∧p)=False)∧
 ((p∧False)=False)∧
 ((p∧p)=p)∧
 ((p∨p)=p))∧
 (∀(k:Nat),(ins k []=false)∧
 (∀(a:Nat) (l:List Nat),ins k (a::l)=(if k=a then true else ins k l)))∧
 (∀(d:Decidable True),@decide True d=true)∧
 (∀(d:Decidable False),@decide False d=false)∧
 (∀(σ:Nat→Option aU) (sz b:Nat),(∀(off z n:Nat),C9 σ sz (.view b off z n)=(if z=sz then (match σ b with
   |some (.arr e cs)=>some ⟨True,.junk,[b],[(b,.arr e (cs.take off))]⟩
   | _=>none) else none))∧
 (∀(z n:Nat),C9 σ sz (.arr b z n)=(if z=sz then (match σ b with
   |some (.arr e cs)=>some ⟨True,.junk,[b],[(b,.arr e [])]⟩
   | _=>none) else none)))∧
 (jv (.pointer none)= .aP)∧
 (jv (.slice none 0 0)= .slice 0 true [] none)∧
 (jv (.map none)= .bG)∧
 (jv (.nilFunc)= .dD)∧
 (jv (.nilIface)= .aI)∧
 (cells? (.aP)=some [.aP])∧
 (cells? (.dD)=some [.dD])∧
 (cells? (.aI)=some [.aI])∧
 (cells? (.bG)=some [.bG])∧
 (bY [] [] []=some true)∧
 ((!true)=false)∧
 ((!false)=true)∧
 ((true == false)=false)∧
 ((false == true)=false)∧
 ((false=true)=False)∧
 ((true=false)=False)∧
 ((¬False)=True)∧
 ((¬True)=False):=by
 (repeat' (first|apply And.intro|intro _)) <;> first|exact rfl|(apply adG;done)|(apply adH;done)|(apply adI;done)|(apply adJ;done)|(apply qO;done)|(intros;rfl)|(intros;simp;done)|(intros;unfold dW strD;rfl)|(intros;simp[CY,CZ,eY];done)|(intros;simp[CY,CZ,eY];(repeat' split) <;> simp_all)
theorem W:type_of% (And.intro WpS W0):=And.intro WpS W0
end Go.Id
