import Derived.Test.YtekopfoidhhedaaGreatDoorG06
set_option linter.unusedVariables false
set_option linter.unusedSimpArgs false
set_option linter.unnecessarySimpa false
namespace Go.Id
open Go
section
variable {P:dF} {ent:List Nat} {N:Nat} {Q:Exit→St→Prop} {st:St}
theorem JD {ks:List Nat}{k:Nat}(h:ins k ks=true):k∈ks:=by
 induction ks with
 |nil=>cases h
 |cons a l ih=>
  simp only[ins] at h
  split at h
  ·rename_i e;subst e;simp
  ·exact ahA _ (ih h)
theorem ZC (ks:List Nat)(F:List (Nat × D))(t:Nat):lk (keep ks F) t=if ins t ks=true then lk F t else none:=by
 induction F with
 |nil=>simp[keep,lk]
 |cons q F ih=>
  obtain⟨k,v⟩:=q
  simp only[keep]
  split
  ·rename_i h
   simp only[lk,ih]
   by_cases e:t=k
   ·subst e;simp only[if_true,h]
   ·simp only[if_neg e]
  ·rename_i h
   simp only[lk,ih]
   by_cases e:t=k
   ·subst e;simp only[if_neg h]
   ·simp only[if_neg e]
theorem Weak.keep (ks:List Nat):Weak ent st ⟨Go.Id.keep ks st.F,st.σ⟩:=by
 rintro P E N a w ⟨γ,h1,h2,h3,h4,h5,h6⟩
 refine⟨γ,h1,h2,h3,h4,h5,fun t=>?_⟩
 simp only[St.get,ZC]
 split
 ·exact h6 t
 ·exact .junk _
theorem ah.part {ops:Array Oper}{os:List Oper}{acc:List bJ}{K:St→List bJ→Prop}(t:Nat){b:Bool}(hb:st.get t= .bool b)(ht:b=true→ah P ops os st acc K)
  (hf:b=false→ah P ops os st acc K):ah P ops os st acc K:=by
 cases b
 ·exact hf rfl
 ·exact ht rfl
theorem Weak.akw {st':St}(hσ:st'.σ=st.σ)(h:∀t,Le (st.get t) (st'.get t)):Weak ent st st':=by
 rintro P E N a w ⟨γ,h1,h2,h3,h4,h5,h6⟩
 exact⟨γ,h1,by rw[hσ];exact h2,h3,h4,h5,fun t=>h t _ _ _ _ (h6 t)⟩
theorem Weak.meet {st0:St}(ks:List Nat)(t:Nat)(d:D)(h1:∀k∈ks,st.get k=st0.get k)(h3:Le (st.get t) d):Weak ent st ⟨(t,d)::Go.Id.keep ks st0.F,st.σ⟩:=by
 refine Weak.akw rfl fun k=>?_
 simp only[St.get,lk]
 split
 ·rename_i e;subst e;exact h3
 ·rw[ZC]
  split
  ·rename_i hk
   have:=h1 k (JD hk)
   simp only[St.get] at this
   rw[this]
   exact Le.refl _
  ·exact Le.junk _
theorem WP.ahk {id:Nat}{ops:Array Oper}{y:Code}(ks:List Nat)(t:Nat)(d:D){F':List (Nat × D)}(hd:dD N ops=true)(hF:Go.Id.keep ks st.F=F')
  (h:∀K:St→List bJ→Prop,(∀st' rs,(∀k∈ks,st'.get k=st.get k)→st'.σ=st.σ→Le (st'.get t) d→K st' rs)→ah P ops ops.toList st [] K) (hy:WP P ent N y Q ⟨(t,d)::F',st.σ⟩):
  WP P ent N (.seq (.region id ops false) y) Q st:=by
 refine WP.seq (WP.region hd fun K hK=>h K fun st' rs h1 h2 h3=>hK st' rs ?_)
 refine WP.weak (st':=⟨(t,d)::F',st.σ⟩) ?_ hy
 rw[← h2,← hF]
 exact Weak.meet ks t d h1 h3
theorem WP.SN {id:Nat}{ops:Array Oper}{y:Code}(ks:List Nat)(t:Nat)(d:D){F':List (Nat × D)}(hm:P.prog.follows .mixedOrders=true)(hd:dD N ops=true)(hF:Go.Id.keep ks st.F=F')
  (h:∀K:St→List bJ→Prop,(∀st' rs,nR ops rs=true→(∀k∈ks,st'.get k=st.get k)→st'.σ=st.σ→Le (st'.get t) d→K st' rs)→ah P ops ops.toList st [] K) (hy:WP P ent N y Q ⟨(t,d)::F',st.σ⟩):
  WP P ent N (.seq (.region id ops true) y) Q st:=by
 refine WP.seq (WP.drawn hm hd fun K hK=>h K fun st' rs h0 h1 h2 h3=>hK st' rs h0 ?_)
 refine WP.weak (st':=⟨(t,d)::F',st.σ⟩) ?_ hy
 rw[← h2,← hF]
 exact Weak.meet ks t d h1 h3
theorem Le.of_eq {a b:D}(h:a=b):Le a b:=h ▸ Le.refl a
theorem wrap_i64 {n:Int}(h:-9223372036854775808≤n)(h':n≤9223372036854775807):IntKind.wrap .i64 n=n:=by
 unfold IntKind.wrap
 simp only[IntKind.bits,IntKind.signed,al5]
 split <;> rename_i hh <;> simp at hh <;> omega
theorem wrap_u8 {n:Int}(h:0≤n)(h':n≤255):IntKind.wrap .u8 n=n:=by
 unfold IntKind.wrap
 simp only[IntKind.bits,IntKind.signed,akD,ag8,if_false]
 omega
end
def ZE (P:dF)(ops:Array Oper)(os:List Oper)(st:St)(acc:List bJ)(K:St→List bJ→Prop)(dst:Option Tmp)(d:D)(r:Rec):Prop:=ah P ops os ((st.put dst d).lay r.ws) (acc++[⟨true,d,r⟩]) K
def U7 (P:dF)(ops:Array Oper)(os:List Oper)(st:St)(acc:List bJ)(K:St→List bJ→Prop)(dst:Option Tmp)(u:Bool)(e:Option Eff):Prop:=Fp u (fresh st.σ) (ZE P ops os st acc K dst) e
def KH (P:dF)(ops:Array Oper)(os:List Oper)(st:St)(acc:List bJ)(K:St→List bJ→Prop)(dst:Option Tmp)(o:Op):Prop:=OpK P o st (ZE P ops os st acc K dst)
def stepW (P:dF)(ops:Array Oper)(os:List Oper)(o:Oper)(st:St)(acc:List bJ)(K:St→List bJ→Prop)(w:Option Bool):Prop:=
 match w with
 |some true=>KH P ops os st acc K o.dst o.op
 |some false=>ah P ops os (st.put o.dst (.aQ [])) (acc++[⟨false,.aQ [],⟨[],[]⟩⟩]) K
 |none=>False
theorem ZF (a b:TypeId):(#[a,b]≠#[(#[a,b]:Array TypeId).getD 0 0,(#[a,b]:Array TypeId).getD 0 0])↔¬(b=a):=by
 have h:(#[a,b]:Array TypeId).getD 0 0=a:=rfl
 rw[h]
 simp
theorem ahl:(∀(P:Program) (σ:Nat→Option bf) (id:Nat) (a b:TypeId) (z0:Nat) (nil:Bool) (es:List (List D)) (sz':Nat) (n':Bool) (es':List (List D)) (t':Option Nat),EW P σ id #[a,b] (.slice z0 nil es none) (.slice sz' n' es' t')=(match cu P a with
 |some (e,sz,by')=>if sz=0∨iK P e=false∨¬(b=a)∨(¬es=[]∧¬(z0=sz))∨(¬es'=[]∧¬(sz'=sz)) then none else
  if nil=true then (if es'=[] then some (aH (.slice sz true [] none)) else some ⟨es'.length * by'≤140737488355328∧es'.length≤9223372036854775807,.slice sz false es' (some id),[],[(id,.aI e sz es'.length)]⟩) else none
 |none=>none)):=by
 intros P σ id a b z0 nil es sz' n' es' t'
 unfold EW
 have h0:((#[a,b]:Array TypeId)[0]?).bind (cu P)=cu P a:=rfl
 rw[h0]
 cases cu P a with
 |none=>rfl
 |some p=>
  obtain⟨e,sz,by'⟩:=p
  simp only[ZF,ne_eq]
theorem ahm:(∀(P:Program) (σ:Nat→Option bf) (id:Nat) (a b:TypeId) (z0:Nat) (nil:Bool) (es:List (List D)) (t:Nat) (sz':Nat) (n':Bool) (es':List (List D)) (t':Option Nat),EW P σ id #[a,b] (.slice z0 nil es (some t)) (.slice sz' n' es' t')=(match cu P a with
 |some (e,sz,by')=>if sz=0∨iK P e=false∨¬(b=a)∨(¬es=[]∧¬(z0=sz))∨(¬es'=[]∧¬(sz'=sz)) then none else
  (match σ t with
  |some (.aI e' z n)=>if e'=e∧z=sz∧n=es.length then some ⟨(es++es').length * by'≤140737488355328∧(es++es').length≤9223372036854775807,.slice sz (nil && es'.isEmpty) (es++es') (some t),[t],[(t,.aI e sz (es++es').length)]⟩ else none
  | _=>none)
 |none=>none)):=by
 intros P σ id a b z0 nil es t sz' n' es' t'
 unfold EW
 have h0:((#[a,b]:Array TypeId)[0]?).bind (cu P)=cu P a:=rfl
 rw[h0]
 cases cu P a with
 |none=>rfl
 |some p=>
  obtain⟨e,sz,by'⟩:=p
  simp only[ZF,ne_eq,abf]
  try rfl
theorem ahn:(∀(P:Program) (σ:Nat→Option bf) (id:Nat) (a b:TypeId) (z0:Nat) (nil:Bool) (es:List (List D)) (s:List UInt8),EX P σ id #[a,b] (.slice z0 nil es none) s=(match cu P a with
 |some (e,sz,by')=>if byteElem P e=false∨¬(sz=1)∨isStr P b=false∨(¬es=[]∧¬(z0=1)) then none else
  if s=[] then some (aH (.slice z0 nil es none)) else
  if nil=true then some ⟨s.length * by'≤140737488355328∧s.length≤9223372036854775807,.slice 1 false (fK s) (some id),[],[(id,.aI e 1 (fK s).length)]⟩ else none
 |none=>none)):=by
 intros P σ id a b z0 nil es s
 unfold EX
 have h0:((#[a,b]:Array TypeId)[0]?).bind (cu P)=cu P a:=rfl
 rw[h0]
 cases cu P a with
 |none=>rfl
 |some p=>
  obtain⟨e,sz,by'⟩:=p
  have h1:(#[a,b]:Array TypeId).getD 1 0=b:=rfl
  have h2:(#[a,b]:Array TypeId).getD 0 0=a:=rfl
  simp only[ne_eq,h1,h2,fK,ac',not_true_eq_false,false_or]
theorem aho:(∀(P:Program) (σ:Nat→Option bf) (id:Nat) (a b:TypeId) (z0:Nat) (nil:Bool) (es:List (List D)) (t:Nat) (s:List UInt8),EX P σ id #[a,b] (.slice z0 nil es (some t)) s=(match cu P a with
 |some (e,sz,by')=>if byteElem P e=false∨¬(sz=1)∨isStr P b=false∨(¬es=[]∧¬(z0=1)) then none else
  if s=[] then some (aH (.slice z0 nil es (some t))) else
  (match σ t with
  |some (.aI e' z n)=>if e'=e∧z=1∧n=es.length then some ⟨(es++fK s).length * by'≤140737488355328∧(es++fK s).length≤9223372036854775807,.slice 1 false (es++fK s) (some t),[t],[(t,.aI e 1 (es++fK s).length)]⟩ else none
  | _=>none)
 |none=>none)):=by
 intros P σ id a b z0 nil es t s
 unfold EX
 have h0:((#[a,b]:Array TypeId)[0]?).bind (cu P)=cu P a:=rfl
 rw[h0]
 cases cu P a with
 |none=>rfl
 |some p=>
  obtain⟨e,sz,by'⟩:=p
  have h1:(#[a,b]:Array TypeId).getD 1 0=b:=rfl
  have h2:(#[a,b]:Array TypeId).getD 0 0=a:=rfl
  simp only[ne_eq,abf,h1,h2,fK,ac',not_true_eq_false,false_or]
  try rfl
theorem tC:∀(s:List UInt8),bytesOf? (fK s)=some s
 | []=>rfl
 |c::s=>by
  have ih:=tC s
  unfold fK at ih ⊢
  simp only[ag1,bytesOf?,byteOf?,adf,ih,aiD]
  simp
end Go.Id
set_option maxRecDepth 20000
namespace Go.Id
open Go
abbrev iF (o:Op)(u:Bool):Prop:=∀P ops os dst st acc K,KH P ops os st acc K dst o=U7 P ops os st acc K dst u (dY P.prog (bT st.get) (lk st.σ) (fresh st.σ) o)
theorem WpS:(∀x,iF (.move x) false)∧(∀x,iF (.assign x) false)∧(∀c a b,iF (.pick c a b) false)∧(∀e,iF (.alloc e) true)∧(∀e x,iF (.box e x) true)∧(∀t ps,iF (.build t ps) false)∧(∀t a,iF (.load t (.tmp a)) false)∧(∀t a x,iF (.store t a x) false)∧(∀x,iF (.nilCheck x) false)∧(∀op t u x y,iF (.binOp op t x y u) false)∧(∀op t x,iF (.unOp op t x) false)∧(∀s d x,iF (.convert s d x) false)∧(∀t x,iF (.makeInterface t x) false)∧(∀f a b,iF (.makeFunc f a b) false)∧(∀t x lo hi mx,iF (.slice t x lo hi mx) false)∧(∀t x f,iF (.fieldAddr t x f) false)∧(∀t x f,iF (.field t x f) false)∧(∀t x i,iF (.indexAddr t (.tmp x) i) false)∧(∀t x i,iF (.index t x i) false)∧(∀x i,iF (.extract x i) false)∧(∀args ts,iF (.call { callee:= .builtin .len,args:=args,argTypes:=ts }) false)∧(∀args ts,iF (.call { callee:= .builtin .append,args:=args,argTypes:=ts }) true)∧(∀t x,iF (.range t x) true)∧(∀b x,iF (.next x b) false)∧(∀args ts,iF (.call { callee:= .builtin .min,args:=args,argTypes:=ts }) false)∧(∀args ts,iF (.call { callee:= .builtin .max,args:=args,argTypes:=ts }) false)∧(∀args ts,iF (.call { callee:= .builtin .clear,args:=args,argTypes:=ts }) false)∧(∀t r,iF (.makeMap t r) true)∧(∀t x i b,iF (.lookup t x i b) false)∧(∀t m i x,iF (.mapUpdate t m i x) false)∧(∀args ts,iF (.call { callee:= .builtin .delete,args:=args,argTypes:=ts }) false)∧(∀x s d b,iF (.typeAssert x s d b) false):=by
 refine⟨?_,?_,?_,?_,?_,?_,?_,?_,?_,?_,?_,?_,?_,?_,?_,?_,?_,?_,?_,?_,?_,?_,?_,?_,?_,?_,?_,?_,?_,?_,?_,?_⟩ <;> (intros;unfold iF;intros;rfl)
theorem W0:(∀(P:dF),(∀(ops:Array Oper),(∀(os:List Oper),(∀(dst:Option Tmp) (st:St) (acc:List bJ) (K:St→List bJ→Prop),(∀(f:Operand) (args:Array Operand) (ts:Array TypeId),KH P ops os st acc K dst (.call { callee:= .value f,args:=args,argTypes:=ts })=aj P (bT st.get f) (args.toList.map (bT st.get)) st.σ (ZE P ops os st acc K dst))∧
 (∀(t:TypeId),(∀(n:Nat) (ps:Array (Nat × Operand)),KH P ops os st acc K dst (.buildSlice t n ps)=U7 P ops os st acc K dst (P.lit t n ps) (if P.lit t n ps=true then opA P.prog (bT st.get) (fresh st.σ) t n ps else dY P.prog (bT st.get) (lk st.σ) (fresh st.σ) (.buildSlice t n ps)))∧
 (∀(g:Nat),(KH P ops os st acc K dst (.load t (.global g))=U7 P ops os st acc K dst false (dY P.prog (sN P (bT st.get)) (lk st.σ) (fresh st.σ) (.load t (.global g))))∧
 (∀(i:Operand),KH P ops os st acc K dst (.indexAddr t (.global g) i)=U7 P ops os st acc K dst false (dY P.prog (sN P (bT st.get)) (lk st.σ) (fresh st.σ) (.indexAddr t (.global g) i)))))∧
 (∀(u:Bool) (f:Eff),U7 P ops os st acc K dst u (some f)=(f.side∧ah P ops os ((st.put dst f.val).lay f.ws) (acc++[⟨true,f.val,⟨if u=true then fresh st.σ::f.BH else f.BH,f.ws⟩⟩]) K))∧
 (∀(d:D) (r:Rec),ZE P ops os st acc K dst d r=ah P ops os ((st.put dst d).lay r.ws) (acc++[⟨true,d,r⟩]) K))∧
 (∀(st:St) (acc:List bJ) (K:St→List bJ→Prop) (o:Oper),(ah P ops (o::os) st acc K=stepW P ops os o st acc K (kT ops st.get o))∧
 (stepW P ops os o st acc K (some true)=KH P ops os st acc K o.dst o.op)∧
 (stepW P ops os o st acc K (some false)=ah P ops os (st.put o.dst (.aQ [])) (acc++[⟨false,.aQ [],⟨[],[]⟩⟩]) K)))∧
 (∀(st:St) (acc:List bJ) (K:St→List bJ→Prop),ah P ops [] st acc K=K st acc))∧
 (∀(ρ:Operand→D),(∀(g:Nat),sN P ρ (.global g)=(match P.glob g with
   |some cs=> .dV cs
   |none=>ρ (.global g)))∧
 (∀(t:Tmp),sN P ρ (.tmp t)=ρ (.tmp t))∧
 (∀(v:Value),sN P ρ (.const v)=ρ (.const v))))∧
 (∀(P:Program),(∀(ρ:Operand→D),(∀(σ:Nat→Option bf) (id:Nat),(∀(x:Operand),(dY P ρ σ id (.move x)=(some (aH (ρ x))))∧
 (dY P ρ σ id (.assign x)=(some (aH (ρ x))))∧
 (dY P ρ σ id (.nilCheck x)=(match ρ x with
   | .ref b off=>some (aH (.ref b off))
   | .dV cs=>some (aH (.dV cs))
   | .fn (.func f) a b=>some (aH (.fn (.func f) a b))
   | _=>none))∧
 (dY P ρ σ id (.next x true)=(match ρ x with
  | .ref b 0=>match σ b with
   |some (.iter s pos)=>some ⟨True,if pos<s.length then .aQ [.bool true,.int .i64 pos,.int .i32 (jw s pos).1] else .aQ [.bool false],[b],if pos<s.length then [(b,.iter s (pos+(jw s pos).2))] else []⟩
   | _=>none
  | _=>none))∧
 (∀(i:Nat),dY P ρ σ id (.extract x i)=(match ρ x with
   | .aQ vs=>(vs[i]?).map aH
   | _=>none))∧
 (∀(s dst:TypeId),dY P ρ σ id (.typeAssert x s dst true)=(match ρ x with
   | .iface t d=>if GR P dst=true∧t=dst then some (aH (.aQ [d,.bool true])) else none
   | _=>none)))∧
 (∀(c a b:Operand),dY P ρ σ id (.pick c a b)=(match ρ c with
   | .bool true=>some (aH (ρ a))
   | .bool false=>some (aH (ρ b))
   | _=>none))∧
 (∀(e:TypeId),(dY P ρ σ id (.alloc e)=((iC P e).map fun cs=>⟨True,.ref id 0,[],[(id,.box e cs)]⟩))∧
 (∀(x:Operand),dY P ρ σ id (.box e x)=((cells? (ρ x)).map fun cs=>⟨True,.ref id 0,[],[(id,.box e cs)]⟩)))∧
 (∀(t:TypeId),(∀(parts:Array (Nat × Operand)),dY P ρ σ id (.build t parts)=(if eY P t=true then (iC P t).bind fun z=>(rG P t ρ parts.toList z).map fun cs=>aH (.agg cs) else none))∧
 (∀(len:Nat) (parts:Array (Nat × Operand)),dY P ρ σ id (.buildSlice t len parts)=((cu P t).bind fun (e,sz,_)=>if len * sz≤16777216∧parts.size=len∧sz≠0∧iK P e=true then (jQ ρ sz 0 parts.toList).map fun es=>aH (.slice sz false es none) else none))∧
 (∀(a:Operand),(dY P ρ σ id (.load t a)=((j_ P t).bind fun g=>(uP P t).bind fun sz=>match ρ a with
   | .ref b off=>match σ b with
    |some (.box _ cs)|some (.arr _ cs)=>(uQ g sz (cs.drop off)).map fun d=>⟨True,d,[b],[]⟩
    | _=>none
   | .dV cs=>(uQ g sz cs).map aH
   | _=>none))∧
 (∀(x:Operand),dY P ρ σ id (.store t a x)=((uP P t).bind fun sz=>(cells? (ρ x)).bind fun vs=>match ρ a with
   | .ref b off=>match σ b with
    |some (.box t' cs)=>if vs.length=sz∧off+sz≤cs.length then some ⟨True,.junk,[b],[(b,.box t' (cs.take off++vs++cs.drop (off+sz)))]⟩ else none
    |some (.arr z cs)=>if vs.length=sz∧off+sz≤cs.length then some ⟨True,.junk,[b],[(b,.arr z (cs.take off++vs++cs.drop (off+sz)))]⟩ else none
    | _=>none
   | _=>none)))∧
 (∀(x:Operand),(dY P ρ σ id (.makeInterface t x)=(if GR P t=true then some (aH (.iface t (ρ x))) else none))∧
 (dY P ρ σ id (.range t x)=(match ρ x with
  | .str s=>if isStr P t=true then some ⟨True,.ref id 0,[],[(id,.iter s 0)]⟩ else none
  | .map b=>match σ b with
   |some (.map es clock)=>if (mapD P t).isSome=true then some ⟨True,.ref id 0,[b],[(id,.dZ b clock [] clock)]⟩ else none
   | _=>none
  | _=>none))∧
 (∀(lo hi:Option Operand),dY P ρ σ id (.slice t x lo hi none)=(match ρ x with
   | .str s=>if isStr P t then (mG 0 (.str s) (lo.map ρ) (hi.map ρ)).map aH else none
   | .slice a b c d=>(cu P t).bind fun (_,sz,_)=>(mG sz (.slice a b c d) (lo.map ρ) (hi.map ρ)).map aH
   | .arr a b c=>(cu P t).bind fun (_,sz,_)=>(mG sz (.arr a b c) (lo.map ρ) (hi.map ρ)).map aH
   | _=>none))∧
 (∀(f:Nat),dY P ρ σ id (.field t x f)=((eu P t f).bind fun (off,sz)=>match (P.underlying t),ρ x with
   |some (.struct fs),.agg cs=>((fs[f]?).bind fun fl=>j_ P fl.type).bind fun g=>(uQ g sz (cs.drop off)).map aH
   | _,_=>none))∧
 (∀(i:Operand),(dY P ρ σ id (.indexAddr t x i)=((Kq (ρ i)).bind fun n=>match ρ x with
   | .slice z false es _=>(cu P t).bind fun (_,sz,_)=>if z=sz then (es[n]?).map fun e=>aH (.dV e) else none
   | .arr b z m=>(cu P t).bind fun (_,sz,_)=>if z=sz∧n<m then some (aH (.ref b (n * sz))) else none
   | .ref b o=>(OJ P t).bind fun (m,sz)=>if n<m then some (aH (.ref b (o+n * sz))) else none
   | .dV cs=>(OJ P t).bind fun (m,sz)=>if n<m then some (aH (.dV (cs.drop (n * sz)))) else none
   | _=>none))∧
 (dY P ρ σ id (.index t x i)=(match ρ x with
   | .str s=>if isStr P t then (Kq (ρ i)).bind fun n=>(s[n]?).map fun c=>aH (.int .u8 c.toNat) else none
   | .agg cs=>(adi P t).bind fun m=>(Kq (ρ i)).bind fun n=>if n<m then (cs[n]?).map aH else none
   | _=>none))∧
 (∀(ok:Bool),dY P ρ σ id (.lookup t x i ok)=((mapD P t).bind fun e=>(zeroV P e).bind fun z=>match ρ x,ρ i with
   | .bI,.str _=>some (aH (if ok then .aQ [z,.bool false] else z))
   | .map b,.str s=>match σ b with
    |some (.map es _)=>some ⟨True,if ok then .aQ [(jL es s).getD z,.bool (jL es s).isSome] else (jL es s).getD z,[b],[]⟩
    | _=>none
   | _,_=>none))))∧
 (dY P ρ σ id (.makeMap t none)=((mapD P t).map fun _=>⟨True,.map id,[],[(id,.map [] 0)]⟩))∧
 (∀(m i x:Operand),dY P ρ σ id (.mapUpdate t m i x)=((mapD P t).bind fun _=>match ρ m,ρ i with
   | .map b,.str s=>match σ b with
    |some (.map es clock)=>some ⟨True,.junk,[b],[(b,.map (Jy es clock s (ρ x)) (Kt es clock s))]⟩
    | _=>none
   | _,_=>none)))∧
 (∀(op:BinOp) (xt yt:TypeId) (x y:Operand),dY P ρ σ id (.binOp op xt x y yt)=(eG P op xt (jy x || jy y) (ρ x) (ρ y)))∧
 (∀(op:UnOp) (xt:TypeId) (x:Operand),dY P ρ σ id (.unOp op xt x)=((GU op (ρ x)).map aH))∧
 (∀(src dst:TypeId) (x:Operand),dY P ρ σ id (.convert src dst x)=((Kr P src dst (ρ x)).map aH))∧
 (∀(f:Fn) (a b:Array Operand),dY P ρ σ id (.makeFunc f a b)=(some (aH (.fn f (a.toList.map ρ) (b.toList.map ρ)))))∧
 (∀(s:TypeId) (x:Operand) (f:Nat),dY P ρ σ id (.fieldAddr s x f)=((eu P s f).bind fun (off,sz)=>if sz=0 then none else match ρ x with
   | .ref b o=>some (aH (.ref b (o+off)))
   | .dV cs=>some (aH (.dV (cs.drop off)))
   | _=>none))∧
 (∀(args:Array Operand) (argTypes:Array TypeId),(dY P ρ σ id (.call { callee:= .builtin .len,args:=args,argTypes:=argTypes })=(if args.size=1∧argTypes.size=1 then (args[0]?).bind fun x=>(argTypes[0]?).bind fun t=>match ρ x with
   | .map b=>match σ b with
    |some (.map es _)=>if (mapD P t).isSome=true then some ⟨True,.int .i64 es.length,[b],[]⟩ else none
    | _=>none
   | _=>(lenD P t (ρ x)).map aH else none))∧
 (dY P ρ σ id (.call { callee:= .builtin .append,args:=args,argTypes:=argTypes })=(if args.size=2 then (args[0]?).bind fun x=>(args[1]?).bind fun y=>Sm P σ id argTypes (ρ x) (ρ y) else none))∧
 (dY P ρ σ id (.call { callee:= .builtin .min,args:=args,argTypes:=argTypes })=(if args.size=2 then (args[0]?).bind fun x=>(args[1]?).bind fun y=>(minD (ρ x) (ρ y)).map aH else none))∧
 (dY P ρ σ id (.call { callee:= .builtin .max,args:=args,argTypes:=argTypes })=(if args.size=2 then (args[0]?).bind fun x=>(args[1]?).bind fun y=>(maxD (ρ x) (ρ y)).map aH else none))∧
 (dY P ρ σ id (.call { callee:= .builtin .clear,args:=args,argTypes:=argTypes })=(if args.size=1∧argTypes.size=1 then (args[0]?).bind fun x=>(argTypes[0]?).bind fun t=>(cu P t).bind fun (e,sz,_)=>(iC P e).bind fun z=>if z.length=sz then EY σ sz (ρ x) else none else none))∧
 (dY P ρ σ id (.call { callee:= .builtin .delete,args:=args,argTypes:=argTypes })=(if args.size=2 then (argTypes[0]?).bind fun t=>(mapD P t).bind fun _=>(args[0]?).bind fun m=>(args[1]?).bind fun i=>match ρ m,ρ i with
   | .map b,.str s=>match σ b with
    |some (.map es clock)=>some ⟨True,.aQ [],[b],[(b,.map (EZ es s) clock)]⟩
    | _=>none
   | _,_=>none else none))))∧
 (∀(t:TypeId),(∀(cs:List D),rG P t ρ [] cs=some cs)∧
 (∀ (i:Nat) (x:Operand) (ps:List (Nat × Operand)) (cs:List D),rG P t ρ ((i,x)::ps) cs=((eu P t i).bind fun q=>(cells? (ρ x)).bind fun vs=>
    if vs.length=q.2∧q.1+q.2≤cs.length then rG P t ρ ps (cs.take q.1++vs++cs.drop (q.1+q.2)) else none)))∧
 (∀(id:Nat) (t:TypeId) (len:Nat) (parts:Array (Nat × Operand)),opA P ρ id t len parts=((cu P t).bind fun (e,sz,_)=>if len * sz≤16777216∧parts.size=len∧sz≠0∧iK P e=true then (jQ ρ sz 0 parts.toList).map fun es=>⟨True,.slice sz false es (some id),[],[(id,.aI e sz len)]⟩ else none)))∧
 (∀(xt:TypeId) (c:Bool),(∀(k k':IntKind) (a b:Int),(eG P .add xt c (.int k a) (.int k' b)=(if k=k' then (intD .add k a b).map aH else none))∧
 (eG P .sub xt c (.int k a) (.int k' b)=(if k=k' then (intD .sub k a b).map aH else none))∧
 (eG P .mul xt c (.int k a) (.int k' b)=(if k=k' then (intD .mul k a b).map aH else none))∧
 (eG P .quo xt c (.int k a) (.int k' b)=(if k=k' then (intD .quo k a b).map aH else none))∧
 (eG P .rem xt c (.int k a) (.int k' b)=(if k=k' then (intD .rem k a b).map aH else none))∧
 (eG P .and xt c (.int k a) (.int k' b)=(if k=k' then (intD .and k a b).map aH else none))∧
 (eG P .or xt c (.int k a) (.int k' b)=(if k=k' then (intD .or k a b).map aH else none))∧
 (eG P .xor xt c (.int k a) (.int k' b)=(if k=k' then (intD .xor k a b).map aH else none))∧
 (eG P .andNot xt c (.int k a) (.int k' b)=(if k=k' then (intD .andNot k a b).map aH else none))∧
 (eG P .eql xt c (.int k a) (.int k' b)=(if k=k' then (intD .eql k a b).map aH else none))∧
 (eG P .neq xt c (.int k a) (.int k' b)=(if k=k' then (intD .neq k a b).map aH else none))∧
 (eG P .lss xt c (.int k a) (.int k' b)=(if k=k' then (intD .lss k a b).map aH else none))∧
 (eG P .leq xt c (.int k a) (.int k' b)=(if k=k' then (intD .leq k a b).map aH else none))∧
 (eG P .gtr xt c (.int k a) (.int k' b)=(if k=k' then (intD .gtr k a b).map aH else none))∧
 (eG P .geq xt c (.int k a) (.int k' b)=(if k=k' then (intD .geq k a b).map aH else none))∧
 (eG P .shl xt c (.int k a) (.int k' b)=(if 0≤b then some (aH (.int k (k.wrap (a * 2 ^ (min b.toNat k.bits))))) else none))∧
 (eG P .shr xt c (.int k a) (.int k' b)=(if 0≤b then some (aH (.int k (a.fdiv (2 ^ (min b.toNat k.bits))))) else none)))∧
 (∀(a b:List UInt8),(eG P .add xt c (.str a) (.str b)=strD .add a b)∧
 (eG P .eql xt c (.str a) (.str b)=strD .eql a b)∧
 (eG P .neq xt c (.str a) (.str b)=strD .neq a b)∧
 (eG P .lss xt c (.str a) (.str b)=strD .lss a b)∧
 (eG P .leq xt c (.str a) (.str b)=strD .leq a b)∧
 (eG P .gtr xt c (.str a) (.str b)=strD .gtr a b)∧
 (eG P .geq xt c (.str a) (.str b)=strD .geq a b))∧
 (∀(xs ys:List D),(eG P .eql xt c (.agg xs) (.agg ys)=((EU P xt).bind fun ks=>(cZ ks xs ys).map fun r=>aH (.bool (r))))∧
 (eG P .neq xt c (.agg xs) (.agg ys)=((EU P xt).bind fun ks=>(cZ ks xs ys).map fun r=>aH (.bool (!r)))))∧
 (∀(a:Nat),(∀(a2:Nat) (b b2:Bool) (e e2:List (List D)) (f f2:Option Nat),(eG P .eql xt c (.slice a b e f) (.slice a2 b2 e2 f2)=((if sV P xt=1∧(b=true∨b2=true) then some (b && b2) else none).map fun r=>aH (.bool (r))))∧
 (eG P .neq xt c (.slice a b e f) (.slice a2 b2 e2 f2)=((if sV P xt=1∧(b=true∨b2=true) then some (b && b2) else none).map fun r=>aH (.bool (!r)))))∧
 (∀(b:Nat),(eG P .eql xt c (.aV) (.ref a b)=((if sV P xt=2 then some false else none).map fun r=>aH (.bool (r))))∧
 (eG P .eql xt c (.ref a b) (.aV)=((if sV P xt=2 then some false else none).map fun r=>aH (.bool (r))))∧
 (eG P .neq xt c (.aV) (.ref a b)=((if sV P xt=2 then some false else none).map fun r=>aH (.bool (!r))))∧
 (eG P .neq xt c (.ref a b) (.aV)=((if sV P xt=2 then some false else none).map fun r=>aH (.bool (!r))))))∧
 (eG P .eql xt c (.aV) (.aV)=((if sV P xt=2 then some true else none).map fun r=>aH (.bool (r))))∧
 (eG P .eql xt c (.dK) (.dK)=((if sV P xt=3 then some true else none).map fun r=>aH (.bool (r))))∧
 (eG P .eql xt c (.aK) (.aK)=((if sV P xt=4∧c=true then some true else none).map fun r=>aH (.bool (r))))∧
 (eG P .neq xt c (.aV) (.aV)=((if sV P xt=2 then some true else none).map fun r=>aH (.bool (!r))))∧
 (eG P .neq xt c (.dK) (.dK)=((if sV P xt=3 then some true else none).map fun r=>aH (.bool (!r))))∧
 (eG P .neq xt c (.aK) (.aK)=((if sV P xt=4∧c=true then some true else none).map fun r=>aH (.bool (!r))))∧
 (∀(l:List D),(eG P .eql xt c (.aV) (.dV l)=((if sV P xt=2 then some false else none).map fun r=>aH (.bool (r))))∧
 (eG P .eql xt c (.dV l) (.aV)=((if sV P xt=2 then some false else none).map fun r=>aH (.bool (r))))∧
 (eG P .neq xt c (.aV) (.dV l)=((if sV P xt=2 then some false else none).map fun r=>aH (.bool (!r))))∧
 (eG P .neq xt c (.dV l) (.aV)=((if sV P xt=2 then some false else none).map fun r=>aH (.bool (!r)))))∧
 (∀(f:Fn) (a b:List D),(eG P .eql xt c (.dK) (.fn f a b)=((if sV P xt=3 then some false else none).map fun r=>aH (.bool (r))))∧
 (eG P .eql xt c (.fn f a b) (.dK)=((if sV P xt=3 then some false else none).map fun r=>aH (.bool (r))))∧
 (eG P .neq xt c (.dK) (.fn f a b)=((if sV P xt=3 then some false else none).map fun r=>aH (.bool (!r))))∧
 (eG P .neq xt c (.fn f a b) (.dK)=((if sV P xt=3 then some false else none).map fun r=>aH (.bool (!r)))))∧
 (∀(t:TypeId) (d:D),(eG P .eql xt c (.aK) (.iface t d)=((if sV P xt=4 then some false else none).map fun r=>aH (.bool (r))))∧
 (eG P .eql xt c (.iface t d) (.aK)=((if sV P xt=4 then some false else none).map fun r=>aH (.bool (r))))∧
 (eG P .neq xt c (.aK) (.iface t d)=((if sV P xt=4 then some false else none).map fun r=>aH (.bool (!r))))∧
 (eG P .neq xt c (.iface t d) (.aK)=((if sV P xt=4 then some false else none).map fun r=>aH (.bool (!r)))))∧
 (∀(a b:Bool),(eG P .eql xt c (.bool a) (.bool b)=((if sV P xt=5 then some (a == b) else none).map fun r=>aH (.bool (r))))∧
 (eG P .neq xt c (.bool a) (.bool b)=((if sV P xt=5 then some (a == b) else none).map fun r=>aH (.bool (!r))))))∧
 (∀(k:IntKind) (src dst:TypeId) (n:Int),Kr P src dst (.int k n)=(if (kS P src).isSome=true then (kS P dst).map fun k=> .int k (k.wrap n) else none))∧
 (∀(src dst:TypeId),(∀(s:List UInt8),Kr P src dst (.str s)=(if isStr P dst∧isStr P src then some (.str s) else none))∧
 (∀(b:Bool) (es:List (List D)) (t:Option Nat),Kr P src dst (.slice 1 b es t)=(if isStr P dst∧(cu P src).bind (fun e=>kS P e.1)=some .u8 then (bytesOf? es).map .str else none)))∧
 (∀(t:TypeId),(∀(s:List UInt8),lenD P t (.str s)=(if isStr P t=true then some (.int .i64 s.length) else none))∧
 (∀(a:Nat),(∀(b:Bool) (es:List (List D)) (f:Option Nat),lenD P t (.slice a b es f)=(if gI P t=true then some (.int .i64 es.length) else none))∧
 (∀(b n:Nat),lenD P t (.arr a b n)=(if gI P t=true then some (.int .i64 n) else none))))∧
 (∀(σ:Nat→Option bf) (id:Nat),(∀(ts:Array TypeId) (x:D),(∀(s:List UInt8),Sm P σ id ts x (.str s)=EX P σ id ts x s)∧
 (∀(a:Nat) (b:Bool) (c:List (List D)) (d:Option Nat),Sm P σ id ts x (.slice a b c d)=EW P σ id ts x (.slice a b c d)))∧
 (∀(a b:TypeId) (z0:Nat) (nil:Bool) (es:List (List D)),(∀(sz':Nat) (n':Bool) (es':List (List D)) (t':Option Nat),EW P σ id #[a,b] (.slice z0 nil es none) (.slice sz' n' es' t')=(match cu P a with
  |some (e,sz,by')=>if sz=0∨iK P e=false∨¬(b=a)∨(¬es=[]∧¬(z0=sz))∨(¬es'=[]∧¬(sz'=sz)) then none else
   if nil=true then (if es'=[] then some (aH (.slice sz true [] none)) else some ⟨es'.length * by'≤140737488355328∧es'.length≤9223372036854775807,.slice sz false es' (some id),[],[(id,.aI e sz es'.length)]⟩) else none
  |none=>none))∧
 (∀(t:Nat),(∀(sz':Nat) (n':Bool) (es':List (List D)) (t':Option Nat),EW P σ id #[a,b] (.slice z0 nil es (some t)) (.slice sz' n' es' t')=(match cu P a with
  |some (e,sz,by')=>if sz=0∨iK P e=false∨¬(b=a)∨(¬es=[]∧¬(z0=sz))∨(¬es'=[]∧¬(sz'=sz)) then none else
   (match σ t with
   |some (.aI e' z n)=>if e'=e∧z=sz∧n=es.length then some ⟨(es++es').length * by'≤140737488355328∧(es++es').length≤9223372036854775807,.slice sz (nil && es'.isEmpty) (es++es') (some t),[t],[(t,.aI e sz (es++es').length)]⟩ else none
   | _=>none)
  |none=>none))∧
 (∀(s:List UInt8),EX P σ id #[a,b] (.slice z0 nil es (some t)) s=(match cu P a with
  |some (e,sz,by')=>if byteElem P e=false∨¬(sz=1)∨isStr P b=false∨(¬es=[]∧¬(z0=1)) then none else
   if s=[] then some (aH (.slice z0 nil es (some t))) else
   (match σ t with
   |some (.aI e' z n)=>if e'=e∧z=1∧n=es.length then some ⟨(es++fK s).length * by'≤140737488355328∧(es++fK s).length≤9223372036854775807,.slice 1 false (es++fK s) (some t),[t],[(t,.aI e 1 (es++fK s).length)]⟩ else none
   | _=>none)
  |none=>none)))∧
 (∀(s:List UInt8),EX P σ id #[a,b] (.slice z0 nil es none) s=(match cu P a with
  |some (e,sz,by')=>if byteElem P e=false∨¬(sz=1)∨isStr P b=false∨(¬es=[]∧¬(z0=1)) then none else
   if s=[] then some (aH (.slice z0 nil es none)) else
   if nil=true then some ⟨s.length * by'≤140737488355328∧s.length≤9223372036854775807,.slice 1 false (fK s) (some id),[],[(id,.aI e 1 (fK s).length)]⟩ else none
  |none=>none)))))∧
 (∀(ops:Array Oper) (F:Nat→D) (o:Oper),kT ops F o=(match o.guard with
  |none=>some true
  |some (j,want)=>match (ops[j]?).bind (·.dst) with
   |some t=>match F t with
    | .bool b=>some (b == want)
    | .aQ _=>some false
    | _=>none
   |none=>some false))∧
 (∀(F:Nat→D),(∀(t:Tmp),bT F (.tmp t)=F t)∧
 (∀(v:Value),bT F (.const v)=jZ v)∧
 (∀(f:FuncId),bT F (.func f)= .fn (.func f) [] []))∧
 (∀(F:List (Nat × D)) (σ:List (Nat × bf)),(∀(t:Nat),(St.get ⟨F,σ⟩ t=(lk F t).getD .junk)∧
 (∀(d:D),St.put ⟨F,σ⟩ (some t) d=⟨(t,d)::dl F t,σ⟩))∧
 (∀(b:Nat),(∀(blk:bf),St.lay ⟨F,σ⟩ [(b,blk)]=⟨F,(b,blk)::dl σ b⟩)∧
 (∀(c:Nat),(∀(x y:bf),St.lay ⟨F,σ⟩ [(b,x),(c,y)]=⟨F,(b,x)::dl ((c,y)::dl σ c) b⟩)∧
 (∀(d:Nat),(∀(x y z:bf),St.lay ⟨F,σ⟩ [(b,x),(c,y),(d,z)]=⟨F,(b,x)::dl ((c,y)::dl ((d,z)::dl σ d) c) b⟩)∧
 (∀(i:Nat) (x y z u:bf),St.lay ⟨F,σ⟩ [(b,x),(c,y),(d,z),(i,u)]=⟨F,(b,x)::dl ((c,y)::dl ((d,z)::dl ((i,u)::dl σ i) d) c) b⟩)))))∧
 (∀(st:St),(∀(d:D),St.put st none d=st)∧
 (St.lay st []=st))∧
 (∀(α:Type),(∀(i:Nat),((lk ([]:List (Nat × α)) i)=none)∧
 ((dl ([]:List (Nat × α)) i)=[]))∧
 (∀(k:Nat) (v:α) (l:List (Nat × α)),(∀(i:Nat),(lk ((k,v)::l) i=(if i=k then some v else lk l i))∧
 (dl ((k,v)::l) i=(if i=k then dl l i else (k,v)::dl l i)))∧
 (fresh ((k,v)::l)=max (k+1) (fresh l)))∧
 ((fresh ([]:List (Nat × α)))=0)∧
 (([]:List α).length=0)∧
 (([]:List (List α)).flatten=[])∧
 (∀(β:Type),(∀(x:α),(∀(f:α→Option β),(some x).bind f=f x)∧
 (∀(f:α→β),(some x).map f=some (f x)))∧
 (∀(f:α→β),(List.map f []=[])∧
 ((none:Option α).map f=none)∧
 (∀(x:α) (l:List α),List.map f (x::l)=f x::List.map f l)∧
 (∀(l:List α),(l.map f).length=l.length))∧
 (∀(f:α→Option β),(none:Option α).bind f=none))∧
 (∀(x:α),(∀(y:α),(some x).getD y=x)∧
 (∀(l:List α),((x::l)[0]?=some x)∧
 ((x::l).length=l.length+1)∧
 ((x::l).head?=some x)∧
 (∀(n:Nat),((x::l)[n+1]?=l[n]?)∧
 ((x::l).take (n+1)=x::l.take n)∧
 ((x::l).drop (n+1)=l.drop n))∧
 (∀(m:List α),(x::l)++m=x::(l++m))))∧
 (∀(y:α),(none:Option α).getD y=y)∧
 (∀(l:List α),(l.toArray.toList=l)∧
 (l.take 0=[])∧
 (l.drop 0=l)∧
 ([]++l=l)∧
 (l++[]=l)∧
 ((l.toArray.size=l.length))∧
 (∀(i:Nat),(l.toArray[i]?=l[i]?))∧
 (∀(m:List (List α)),(l::m).flatten=l++m.flatten))∧
 (∀(n:Nat),([]:List α).take n=[])∧
 (∀(ks:List Nat),(keep ks ([]:List (Nat × α))=[])∧
 (∀(k:Nat) (v:α) (l:List (Nat × α)),keep ks ((k,v)::l)=(if ins k ks=true then (k,v)::keep ks l else keep ks l)))∧
 (∀(c:Prop) (d:Decidable c) (a:α),@ite α c d a a=a)∧
 (∀(a:α),(∀(b:α),(a≠b)=¬(a=b))∧
 ((some a).isSome=true)))∧
 (∀(b:Bool),(jZ (.bool b)= .bool b)∧
 (cells? (.bool b)=some [.bool b])∧
 (GU .not (.bool b)=some (.bool (!b)))∧
 ((b && true)=b)∧
 ((true && b)=b)∧
 ((b && false)=false)∧
 ((false && b)=false)∧
 ((b || true)=true)∧
 ((true || b)=true)∧
 ((b || false)=b)∧
 ((false || b)=b)∧
 ((b == b)=true))∧
 (∀(k:IntKind),(∀(n:Int),(jZ (.int k n)= .int k n)∧
 (cells? (.int k n)=some [.int k n])∧
 (Kq (.int k n)=(if 0≤n then some n.toNat else none))∧
 (GU .neg (.int k n)=some (.int k (k.wrap (0 - n))))∧
 (GU .xor (.int k n)=some (.int k (k.wrap (BitVec.ofInt k.bits (if k.signed then -1 else k.max) ^^^ BitVec.ofInt k.bits n).toNat))))∧
 (∀(a b:Int),(intD .add k a b=some (.int k (k.wrap (a+b))))∧
 (intD .sub k a b=some (.int k (k.wrap (a - b))))∧
 (intD .mul k a b=some (.int k (k.wrap (a * b))))∧
 (intD .quo k a b=(if b=0 then none else some (.int k (k.wrap (a.tdiv b)))))∧
 (intD .rem k a b=(if b=0 then none else some (.int k (a.tmod b))))∧
 (intD .and k a b=some (.int k (k.wrap (BitVec.ofInt k.bits a &&& BitVec.ofInt k.bits b).toNat)))∧
 (intD .or k a b=some (.int k (k.wrap (BitVec.ofInt k.bits a ||| BitVec.ofInt k.bits b).toNat)))∧
 (intD .xor k a b=some (.int k (k.wrap (BitVec.ofInt k.bits a ^^^ BitVec.ofInt k.bits b).toNat)))∧
 (intD .andNot k a b=some (.int k (k.wrap (BitVec.ofInt k.bits a &&& ~~~BitVec.ofInt k.bits b).toNat)))∧
 (intD .eql k a b=some (.bool (a == b)))∧
 (intD .neq k a b=some (.bool (a != b)))∧
 (intD .lss k a b=some (.bool (decide (a<b))))∧
 (intD .leq k a b=some (.bool (decide (a≤b))))∧
 (intD .gtr k a b=some (.bool (decide (a>b))))∧
 (intD .geq k a b=some (.bool (decide (a≥b)))))∧
 (∀(ks:List CK) (k':IntKind) (a b:Int) (x y:List D),cZ (.i::ks) (.int k a::x) (.int k' b::y)=(if k=k' then (cZ ks x y).map fun r=>(a == b) && r else none))∧
 (∀(k':IntKind) (x y:Int),(minD (.int k x) (.int k' y)=some (.int k (if y<x then y else x)))∧
 (maxD (.int k x) (.int k' y)=some (.int k (if y>x then y else x)))))∧
 (∀(s:Array UInt8),jZ (.string ⟨s⟩)= .str s.toList)∧
 (∀(cs:List D),(cells? (.agg cs)=some cs)∧
 (cells? (.dV cs)=some [.dV cs]))∧
 (∀(s:List UInt8),(cells? (.str s)=some [.str s])∧
 (bytesOf? (fK s)=some s))∧
 (∀(a:Nat),(∀(b:Bool) (c:List (List D)) (e:Option Nat),cells? (.slice a b c e)=some [.slice a b c e])∧
 (∀(b:Nat),(∀(c:Nat),(cells? (.arr a b c)=some [.arr a b c])∧
 (∀(d:Nat),cells? (.view a b c d)=some [.view a b c d]))∧
 (cells? (.ref a b)=some [.ref a b])))∧
 (∀(f:Fn) (a b:List D),cells? (.fn f a b)=some [.fn f a b])∧
 (∀(t:TypeId) (d:D),cells? (.iface t d)=some [.iface t d])∧
 (∀(sz:Nat),(∀(cs:List D),(uQ true sz cs=(if sz≤cs.length then some (.agg (cs.take sz)) else none))∧
 (uQ false sz cs=cs.head?))∧
 (∀(s:List UInt8) (lo hi:Option D),mG sz (.str s) lo hi=((kY 0 lo).bind fun l=>(kY s.length hi).bind fun h=>
   if l≤h∧h≤s.length then some (.str ((s.take h).drop l)) else none))∧
 (∀(z:Nat) (nil:Bool) (es:List (List D)) (aI:Option Nat) (lo hi:Option D),mG sz (.slice z nil es aI) lo hi=((kY 0 lo).bind fun l=>(kY es.length hi).bind fun h=>
   if l≤h∧h≤es.length∧(nil=true∨z=sz) then some (.slice z nil ((es.take h).drop l) (if l=0∧h=es.length then aI else none)) else none))∧
 (∀(b z m:Nat) (lo hi:Option D),mG sz (.arr b z m) lo hi=((kY 0 lo).bind fun l=>(kY m hi).bind fun h=>
   if l≤h∧h≤m∧z=sz then some (if l=0 then .arr b z h else .view b (l * z) z (h - l)) else none)))∧
 (∀(n:Nat),(kY n none=some n)∧
 (((n:Int)).toNat=n)∧
 (((0:Int)≤(n:Int))=True)∧
 (max n 0=n)∧
 (0+n=n)∧
 (n+0=n)∧
 ((0≤n)=True)∧
 ((n≤n)=True)∧
 (∀(d:D),kY n (some d)=Kq d))∧
 (∀(a b:List UInt8),(strD .add a b=some ⟨a.length+b.length≤9223372036854775807,.str (a++b),[],[]⟩)∧
 (strD .eql a b=some (aH (.bool (a == b))))∧
 (strD .neq a b=some (aH (.bool (!(a == b)))))∧
 (strD .lss a b=some (aH (.bool (Op.bytesLess a b))))∧
 (strD .leq a b=some (aH (.bool (Op.bytesLess a b || a == b))))∧
 (strD .gtr a b=some (aH (.bool (!(Op.bytesLess a b || a == b)))))∧
 (strD .geq a b=some (aH (.bool (!(Op.bytesLess a b))))))∧
 (∀(ks:List CK),(∀(a b:Bool) (x y:List D),cZ (.b::ks) (.bool a::x) (.bool b::y)=((cZ ks x y).map fun r=>(a == b) && r))∧
 (∀(a b:List UInt8) (x y:List D),cZ (.s::ks) (.str a::x) (.str b::y)=((cZ ks x y).map fun r=>(a == b) && r)))∧
 (∀(ρ:Operand→D) (sz i:Nat),(jQ ρ sz i []=some [])∧
 (∀(j:Nat) (x:Operand) (ps:List (Nat × Operand)),jQ ρ sz i ((j,x)::ps)=(if i=j then (cells? (ρ x)).bind fun cs=>if cs.length=sz then (jQ ρ sz (i+1) ps).map (cs::·) else none else none)))∧
 (∀(d:D),aH d=⟨True,d,[],[]⟩)∧
 (∀(v:Value),jy (.const v)=true)∧
 (∀(t:Tmp),jy (.tmp t)=false)∧
 (∀(f:FuncId),jy (.func f)=false)∧
 (∀(p:Prop),((True∧p)=p)∧
 ((p∧True)=p)∧
 ((True∨p)=True)∧
 ((p∨True)=True)∧
 ((False∨p)=p)∧
 ((p∨False)=p)∧
 ((False∧p)=False)∧
 ((p∧False)=False)∧
 ((p∧p)=p)∧
 ((p∨p)=p))∧
 (∀(k:Nat),(ins k []=false)∧
 (∀(a:Nat) (l:List Nat),ins k (a::l)=(if k=a then true else ins k l)))∧
 (∀(d:Decidable True),@decide True d=true)∧
 (∀(d:Decidable False),@decide False d=false)∧
 (∀(σ:Nat→Option bf) (sz b:Nat),(∀(off z n:Nat),EY σ sz (.view b off z n)=(if z=sz then (match σ b with
   |some (.arr e cs)=>some ⟨True,.junk,[b],[(b,.arr e (cs.take off))]⟩
   | _=>none) else none))∧
 (∀(z n:Nat),EY σ sz (.arr b z n)=(if z=sz then (match σ b with
   |some (.arr e cs)=>some ⟨True,.junk,[b],[(b,.arr e [])]⟩
   | _=>none) else none)))∧
 (jZ (.pointer none)= .aV)∧
 (jZ (.slice none 0 0)= .slice 0 true [] none)∧
 (jZ (.map none)= .bI)∧
 (jZ (.nilFunc)= .dK)∧
 (jZ (.nilIface)= .aK)∧
 (cells? (.aV)=some [.aV])∧
 (cells? (.dK)=some [.dK])∧
 (cells? (.aK)=some [.aK])∧
 (cells? (.bI)=some [.bI])∧
 (cZ [] [] []=some true)∧
 ((!true)=false)∧
 ((!false)=true)∧
 ((true == false)=false)∧
 ((false == true)=false)∧
 ((false=true)=False)∧
 ((true=false)=False)∧
 ((¬False)=True)∧
 ((¬True)=False):=by
 (repeat' (first|apply And.intro|intro _)) <;> first|exact rfl|(apply ahl;done)|(apply ahm;done)|(apply ahn;done)|(apply aho;done)|(apply tC;done)|(intros;rfl)|(intros;simp;done)|(intros;unfold eG strD;rfl)|(intros;simp[EW,EX,fK];done)|(intros;simp[EW,EX,fK];(repeat' split) <;> simp_all)
theorem W:type_of% (And.intro WpS W0):=And.intro WpS W0
end Go.Id
namespace Go.Id
open Go
theorem ay.quiet {P:dF}{k:FuncId}{args:List D}{val:D}(hb:oJ P.prog k)
  (h:∀(M:Nat→Nat→Prop) (w:World) (vs:List Value),P.I w→P.n≤w.heap.size→vs.length=args.length→(∀B off,M B off→B<w.heap.size)→
   (∀(i:Nat) d v,args[i]?=some d→vs[i]?=some v→Rep M (fun _=>none) w d v)→
   Calls P.prog k vs.toArray w fun e w'=>∃v,e= .returned v∧RowKit.Below w.heap.size w w'∧Rep M (fun _=>none) w' val v):ay P k args val:=by
 refine⟨hb,fun M γ w vs hst hl hr=>?_⟩
 have hno:γ=fun _=>none:=by
  funext b
  rcases hst.names b with⟨blk,g,q4,_⟩ | ⟨_,q4⟩
  ·cases q4
  ·exact q4
 subst hno
 have hM:∀B off,aA (P.base M) (fun _=>none) B off↔M B off:=by
  intro B off
  constructor
  ·rintro (h | ⟨b,g,h,_⟩)
   ·exact h
   ·cases h
  ·exact .inl
 refine (h M w vs hst.inv hst.big hl (fun B off hm=>(hst.outer B off hm).2) (fun i d v h1 h2=>(hr i d v h1 h2).sub (fun B off hm=>(hM B off).2 hm))).mono ?_
 rintro e w' ⟨v,rfl,hbl,hv⟩
 refine⟨v,fun _=>none,rfl,⟨fun b=> .inr ⟨rfl,rfl⟩,(fun b b' g g' B h=>by cases h),fun B off hm=>⟨(hst.outer B off hm).1,aj0 (hst.outer B off hm).2 hbl.size⟩,(fun b g B off h=>by cases h),?_,(fun b g B h=>by cases h),ag9 hst.big hbl.size⟩,⟨hbl.os,hbl.tape,hbl.output,hbl.size,?_,fun B off hm _=>hm,(fun b g h=>by cases h),fun B hB _=>hbl.block B hB,(fun b g B h=>by cases h)⟩,hv.sub (fun B off hm=>(hM B off).1 hm)⟩
 ·exact P.stable w w' hst.inv (fun k hk=>hbl.block k (aj0 hk hst.big))
 ·intro B off v hm hc
  exact (hbl.cell (p:=⟨B,off,none⟩) (cell_lt hc)).trans hc
section
variable {M:Nat→Nat→Prop} {γ:Nat→Option G} {w:World}
theorem tH {s:List UInt8}{v:Value}(h:Rep M γ w (.str s) v):∃b:ByteArray,v= .string b∧b.data.toList=s:=by
 cases h with
 |str b=>exact⟨b,rfl,rfl⟩
theorem SQ {k:IntKind}{n:Int}{v:Value}(h:Rep M γ w (.int k n) v):v= .int k n:=by
 cases h;rfl
theorem jS (l:List UInt8):Rep M γ w (.str l) (.string ⟨l.toArray⟩):=Rep.str (M:=M) (γ:=γ) (w:=w) ⟨l.toArray⟩
theorem abj (b:ByteArray):b.size=b.data.toList.length:=rfl
end
theorem ay.str1 {P:dF}{k:FuncId}{s:List UInt8}{val:D}(hb:oJ P.prog k)
  (h:∀(M:Nat→Nat→Prop) (w:World) (b:ByteArray),b.data.toList=s→P.I w→P.n≤w.heap.size→(∀B off,M B off→B<w.heap.size)→
   Calls P.prog k #[.string b] w fun e w'=>∃v,e= .returned v∧RowKit.Below w.heap.size w w'∧Rep M (fun _=>none) w' val v):ay P k [.str s] val:=by
 refine .quiet hb fun M w vs hI hn hl hM hr=>?_
 match vs,hl with
 | [v],_=>
  obtain⟨b,rfl,hb⟩:=tH (hr 0 _ _ rfl rfl)
  exact h M w b hb hI hn hM
theorem ay.str2 {P:dF}{k:FuncId}{s t:List UInt8}{val:D}(hb:oJ P.prog k)
  (h:∀(M:Nat→Nat→Prop) (w:World) (b c:ByteArray),b.data.toList=s→c.data.toList=t→P.I w→P.n≤w.heap.size→(∀B off,M B off→B<w.heap.size)→
   Calls P.prog k #[.string b,.string c] w fun e w'=>∃v,e= .returned v∧RowKit.Below w.heap.size w w'∧Rep M (fun _=>none) w' val v):ay P k [.str s,.str t] val:=by
 refine .quiet hb fun M w vs hI hn hl hM hr=>?_
 match vs,hl with
 | [v,v'],_=>
  obtain⟨b,rfl,hb⟩:=tH (hr 0 _ _ rfl rfl)
  obtain⟨c,rfl,hc⟩:=tH (hr 1 _ _ rfl rfl)
  exact h M w b c hb hc hI hn hM
theorem ay.X4 {P:dF}{k:FuncId}{s:List UInt8}{kk:IntKind}{n:Int}{val:D}(hb:oJ P.prog k)
  (h:∀(M:Nat→Nat→Prop) (w:World) (b:ByteArray),b.data.toList=s→P.I w→P.n≤w.heap.size→(∀B off,M B off→B<w.heap.size)→
   Calls P.prog k #[.string b,.int kk n] w fun e w'=>∃v,e= .returned v∧RowKit.Below w.heap.size w w'∧Rep M (fun _=>none) w' val v):ay P k [.str s,.int kk n] val:=by
 refine .quiet hb fun M w vs hI hn hl hM hr=>?_
 match vs,hl with
 | [v,v'],_=>
  obtain⟨b,rfl,hb⟩:=tH (hr 0 _ _ rfl rfl)
  obtain rfl:=SQ (hr 1 _ _ rfl rfl)
  exact h M w b hb hI hn hM
theorem ay.amB {P:dF}{k:FuncId}{kk:IntKind}{n:Int}{val:D}(hb:oJ P.prog k)
  (h:∀(M:Nat→Nat→Prop) (w:World),P.I w→P.n≤w.heap.size→(∀B off,M B off→B<w.heap.size)→
   Calls P.prog k #[.int kk n] w fun e w'=>∃v,e= .returned v∧RowKit.Below w.heap.size w w'∧Rep M (fun _=>none) w' val v):ay P k [.int kk n] val:=by
 refine .quiet hb fun M w vs hI hn hl hM hr=>?_
 match vs,hl with
 | [v],_=>
  obtain rfl:=SQ (hr 0 _ _ rfl rfl)
  exact h M w hI hn hM
theorem adG {M:Nat→Nat→Prop}{γ:Nat→Option G}{w:World}{B n:Nat}{l:List (List UInt8)}{e:TypeId}{fz:Nat × Nat}{vs:List Value}(hB:w.heap[B]?=some (.cells vs.toArray e fz))(hM:∀off,¬M B off)
  (hv:vs=l.map fun s=>Value.string ⟨s.toArray⟩) (hn:n=l.length):Rep M γ w (.slice 1 false (l.map fun s=>[.str s]) none) (.slice (some ⟨B,0,none⟩) n n):=by
 have key:=@Rep.slice M γ w 1 (l.map fun s=>[D.str s]) none ⟨B,0,none⟩ (l.map fun s=>[D.str s]).length vs (by simp) (by simp[hv]) (fun _=>rfl) (fun j v hj=>⟨by
   have hj':=hj
   simp[World.cell?,hB,hj'],hM _,by
   rw[hv] at hj
   simp only[adw,abR] at hj
   obtain⟨s,_,rfl⟩:=hj
   rfl⟩) (fun i j e d v h1 h2 h3=>by
   simp only[adw,abR] at h1
   obtain⟨s,hs,rfl⟩:=h1
   cases j with
   |succ j=>simp at h2
   |zero=>
    simp at h2
    subst h2
    rw[hv] at h3
    simp only[aos,amQ,adw,hs,aiD,abr] at h3
    subst h3
    exact jS s) (by simp) (jk.none _ _ _)
 simp only[ac'] at key
 rw[hn]
 exact key
end Go.Id
namespace Go.Id
open Go
theorem aF.same {P:dF}{k:FuncId}{args:List D}{ins:List (Nat × bf)}{val:D}(hb:oJ P.prog k)
  (h:∀(M:Nat→Nat→Prop) (γ:Nat→Option G) (w:World) (vs:List Value),Store (P.base M) γ (lk ins) w→vs.length=args.length→
   (∀(i:Nat) d v,args[i]?=some d→vs[i]?=some v→Rep (aA (P.base M) γ) γ w d v)→
   Calls P.prog k vs.toArray w fun e w'=>∃v,e= .returned v∧w'=w∧Rep (aA (P.base M) γ) γ w val v):aF P k args ins val ins:=
 ⟨hb,fun M γ w vs hst hl hr=>(h M γ w vs hst hl hr).mono fun e w' ⟨v,he,hw,hv⟩=>by subst hw;exact⟨v,γ,he,hst,aW.refl _ _ _,hv⟩⟩
theorem aF.drew {P:dF}{k:FuncId}{args:List D}{ins:List (Nat × bf)}{val:D}(hb:oJ P.prog k)
  (h:∀(M:Nat→Nat→Prop) (γ:Nat→Option G) (w:World) (vs:List Value),Store (P.base M) γ (lk ins) w→vs.length=args.length→
   (∀(i:Nat) d v,args[i]?=some d→vs[i]?=some v→Rep (aA (P.base M) γ) γ w d v)→
   Calls P.prog k vs.toArray w fun e w'=>∃v,e= .returned v∧w'=w.drew∧Rep (aA (P.base M) γ) γ w val v):aF P k args ins val ins:=by
 refine⟨hb,fun M γ w vs hst hl hr=>(h M γ w vs hst hl hr).mono ?_⟩
 rintro e w' ⟨v,rfl,rfl,hv⟩
 have hev:aW (aA (P.base M) γ) γ w (aA (P.base M) γ) γ w.drew:=⟨rfl,rfl,rfl,ag4 _,fun _ _ _ _ h=>h,fun _ _ h _=>h,fun _ g h=>⟨g,h,G.le_refl g⟩,fun _ _ _=>rfl,fun b g _ h h' _=>⟨b,g,h,h'⟩⟩
 refine⟨v,γ,rfl,⟨fun b=>?_,hst.dist,hst.outer,hst.apart,(P.base M).stable _ _ hst.inv (fun _ _=>rfl),hst.low,hst.big⟩,hev,hv.dA hev⟩
 rcases hst.names b with⟨blk,g,q1,q2,q3⟩|q
 ·exact .inl ⟨blk,g,q1,q2,q3.keep hev (fun _ _=>rfl)⟩
 ·exact .inr q
theorem heap_setCell (w:World){B:Nat}{vs:Array Value}{e:TypeId}{fz:Nat × Nat}(hB:w.heap[B]?=some (.cells vs e fz))(off:Nat)(v:Value):(w.setCell ⟨B,off,none⟩ v).heap[B]?=some (.cells (vs.setIfInBounds off v) e fz):=by
 simp[World.setCell,amk,hB]
theorem heap_setCell_other (w:World){B k:Nat}(h:k≠B)(off:Nat)(v:Value):(w.setCell ⟨B,off,none⟩ v).heap[k]?=w.heap[k]?:=by
 simp[World.setCell,amk,Ne.symm h]
theorem aF.wrote {P:dF}{k:FuncId}{args:List D}{b:Nat}{T:TypeId}{cs:List D}{rest:List (Nat × bf)}{val:D}(off:Nat)(hoff:off<cs.length)(d':D)(hb:oJ P.prog k)
  (h:∀(M:Nat→Nat→Prop) (γ:Nat→Option G) (w:World) (vs:List Value) (B:Nat) (us:Array Value) (fz:Nat × Nat),Store (P.base M) γ (lk ((b,.box T cs)::rest)) w→vs.length=args.length→
   (∀(i:Nat) d v,args[i]?=some d→vs[i]?=some v→Rep (aA (P.base M) γ) γ w d v)→γ b=some (.box B)→w.heap[B]?=some (.cells us T fz)→us.size=cs.length→
   (∀(i:Nat) v,us[i]?=some v→v.oneCell'=true∧w.frozen? ⟨B,i,none⟩=false)→(∀(i:Nat) d v,cs[i]?=some d→us[i]?=some v→Rep (aA (P.base M) γ) γ w d v)→
   Calls P.prog k vs.toArray w fun e w'=>∃v u,e= .returned v∧w'=w.setCell ⟨B,off,none⟩ u∧u.oneCell'=true∧Rep (aA (P.base M) γ) γ w d' u∧Rep (aA (P.base M) γ) γ w val v):
  aF P k args ((b,.box T cs)::rest) val ((b,.box T (cs.set off d'))::rest):=by
 refine⟨hb,fun M γ w vs hst hl hr=>?_⟩
 have hlk:lk ((b,bf.box T cs)::rest) b=some (.box T cs):=by simp[lk]
 obtain⟨g,h2,h3⟩:=hst.hit hlk
 cases h3 with
 | @box _ B us _ fz hB hlen h1 hrr=>
  refine (h M γ w vs B us fz hst hl hr h2 hB hlen h1 hrr).mono ?_
  rintro e w' ⟨v,u,rfl,rfl,hu1,hu2,hv⟩
  have hB':=heap_setCell w hB off u
  have hother:∀k,k≠B→(w.setCell ⟨B,off,none⟩ u).heap[k]?=w.heap[k]?:=fun k hk=>heap_setCell_other w hk off u
  have hsize:(w.setCell ⟨B,off,none⟩ u).heap.size=w.heap.size:=by simp[World.setCell]
  have hM:∀o,aA (P.base M) γ B o:=fun o=> .inr ⟨b,_,h2,rfl⟩
  have hev:aW (aA (P.base M) γ) γ w (aA (P.base M) γ) γ (w.setCell ⟨B,off,none⟩ u):=by
   refine⟨rfl,rfl,rfl,by omega,fun B' o x hn hu=>?_,fun _ _ h _=>h,fun _ g h=>⟨g,h,G.le_refl g⟩,fun B' _ hn=>hother B' (fun e=>hn b _ h2 (by rw[e];rfl)),fun i gi _ h h' _=>⟨i,gi,h,h'⟩⟩
   have:B'≠B:=fun e=>by subst e;exact hn (hM o)
   rw[World.cell?_of_block (w:=w) (w':=w.setCell ⟨B,off,none⟩ u) (by simpa using hother B' this)];exact hu
  have nO:upd γ b (some (.box B))=γ:=by funext i;by_cases hi:i=b <;> simp[upd,hi,h2]
  have hσ:upd (lk ((b,bf.box T cs)::rest)) b (some (.box T (cs.set off d')))=lk ((b,bf.box T (cs.set off d'))::rest):=by
   funext i
   by_cases hi:i=b <;> simp[upd,lk,hi]
  have hst':=hst.change b (.box T (cs.set off d')) (.box B) (w.setCell ⟨B,off,none⟩ u) (by rw[nO];exact hev) (fun i gi B2 hi hgi AA=>hother B2 (fun e=>hi (hst.dist i b gi _ B2 hgi h2 AA (by rw[e];rfl)))) (fun B' hB'=> .inr ⟨_,h2,hB'⟩) (by
   rw[nO]
   refine .box (us.setIfInBounds off u) T fz hB' (by simp[hlen]) (fun i x hx=>?_) (fun i d x hd hx=>?_)
   ·have hx0:=hx
    rw[ao2] at hx
    have hi:i<us.size:=by
     have:=(ag6.1 hx0).1
     simpa using this
    have hfro:(w.setCell ⟨B,off,none⟩ u).frozen? ⟨B,i,none⟩=false:=by
     have:=(h1 i _ (adr hi)).2
     simp only[World.frozen?,hB] at this
     simp only[World.frozen?,hB']
     exact this
    refine⟨?_,hfro⟩
    split at hx
    ·split at hx
     ·cases hx;exact hu1
     ·cases hx
    ·exact (h1 i x hx).1
   ·rw[ao2] at hx
    rw[List.getElem?_set] at hd
    split at hx
    ·rename_i e
     subst e
     rw[if_pos rfl,if_pos hoff] at hd
     rw[if_pos (by omega)] at hx
     cases hd;cases hx
     exact hu2.dA hev
    ·rename_i e
     rw[if_neg e] at hd
     exact (hrr i d x hd hx).dA hev)
  rw[nO,hσ] at hst'
  exact⟨v,γ,rfl,hst',hev,hv.dA hev⟩
end Go.Id
