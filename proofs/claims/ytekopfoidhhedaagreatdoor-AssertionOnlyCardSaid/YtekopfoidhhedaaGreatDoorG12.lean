import Derived.Test.YtekopfoidhhedaaGreatDoorG11
import Derived.Test.YtekopfoidhhedaaGreatDoorG09
import Derived.Test.YtekopfoidhhedaaGreatDoorG04
import Derived.Test.YtekopfoidhhedaaGreatDoorG08
set_option linter.unusedVariables false
set_option linter.unusedSimpArgs false
set_option linter.unnecessarySimpa false
set_option maxRecDepth 10000
namespace Go.Proofs
open Go Go.Id
def iQ (t d:Int):Int:=aZ (aZ t+aZ d)
theorem CO (t:Int):0≤aZ t∧aZ t≤1099511627776:=by unfold aZ;split <;> (try split) <;> omega
theorem o_ {t:Int}(h0:0≤t)(h1:t≤1099511627776):aZ t=t:=by unfold aZ;rw[if_neg (by omega),if_neg (by omega)]
theorem yE (t:Int):aZ (aZ t)=aZ t:=o_ (CO t).1 (CO t).2
theorem zZ (t:Int):iQ t 0=aZ t:=by
 have:aZ 0=0:=rfl
 unfold iQ
 rw[this,Int.add_zero,yE]
theorem ahG (t d:Int):IntKind.wrap .i64 (aZ t+aZ d)=aZ t+aZ d:=by
 have:=CO t;have:=CO d
 exact wrap_i64 (by omega) (by omega)
abbrev kN (α:Type):=List (List UInt8 × α × Nat)
section
variable {α:Type}
def ny:kN α→List UInt8→Option α
 | [],_=>none
 |(k,d,_)::es,s=>if s=k then some d else ny es s
def Qs:kN α→List UInt8→α→kN α
 | [],_,_=>[]
 |(k,d,n)::es,s,x=>if s=k then (k,x,n)::es else (k,d,n)::Qs es s x
def D_ (es:kN α)(c:Nat)(s:List UInt8)(x:α):kN α:=match ny es s with|some _=>Qs es s x|none=>es++[(s,x,c)]
def tY (es:kN α)(c:Nat)(s:List UInt8):Nat:=match ny es s with|some _=>c|none=>c+1
def KP:kN α→List UInt8→kN α
 | [],_=>[]
 |(k,d,n)::es,s=>if s=k then es else (k,d,n)::KP es s
def mE (f:α→D)(l:kN α):yO:=l.map fun e=>(e.1,f e.2.1,e.2.2)
theorem KQ (f:α→D):∀(l:kN α) (s:List UInt8),je (mE f l) s=(ny l s).map f
 | [],_=>rfl
 |(k,d,n)::es,s=>by
  show (if s=k then some (f d) else je (mE f es) s)=_
  rw[KQ f es s,ny]
  split <;> rfl
theorem af8 (f:α→D):∀(l:kN α) (s:List UInt8) (x:α),OX (mE f l) s (f x)=mE f (Qs l s x)
 | [],_,_=>rfl
 |(k,d,n)::es,s,x=>by
  show (if s=k then (k,f x,n)::mE f es else (k,f d,n)::OX (mE f es) s (f x))=_
  rw[af8 f es s x,Qs]
  split <;> rfl
theorem af9 (f:α→D)(l:kN α)(c:Nat)(s:List UInt8)(x:α):GR (mE f l) c s (f x)=mE f (D_ l c s x):=by
 unfold GR D_
 rw[KQ]
 cases ny l s with
 |none=>simp[mE]
 |some y=>exact af8 f l s x
theorem acs (f:α→D)(l:kN α)(c:Nat)(s:List UInt8):Ic (mE f l) c s=tY l c s:=by
 unfold Ic tY
 rw[KQ]
 cases ny l s <;> rfl
theorem af_ (f:α→D):∀(l:kN α) (s:List UInt8),C_ (mE f l) s=mE f (KP l s)
 | [],_=>rfl
 |(k,d,n)::es,s=>by
  show (if s=k then mE f es else (k,f d,n)::C_ (mE f es) s)=_
  rw[af_ f es s,KP]
  split <;> rfl
theorem ahH (f:α→D)(l:kN α):(mE f l).length=l.length:=by simp[mE]
theorem KR {f:α→D}{l:kN α}{e:List UInt8 × D × Nat}(h:e∈mE f l):∃x,(e.1,x,e.2.2)∈l∧e.2.1=f x:=by
 obtain⟨⟨a,b,c⟩,hy,rfl⟩:=List.mem_map.1 h
 exact⟨b,hy,rfl⟩
theorem afd (f:α→D)(l:kN α):(mE f l).map (·.1)=l.map (·.1):=by simp[mE]
theorem afe (f:α→D)(l:kN α):(mE f l).map (·.2.2)=l.map (·.2.2):=by simp[mE]
structure GL (l:kN α) (c:Nat):Prop where
 keys:(l.map (·.1)).Nodup
 born:(l.map (·.2.2)).Nodup
 lt:∀e∈l,e.2.2<c
theorem GL.es {l:kN α}{c:Nat}(h:GL l c)(f:α→D):aeu (mE f l,c):=
 ⟨by show ((mE f l).map _).Nodup;rw[afd];exact h.keys,by show ((mE f l).map _).Nodup;rw[afe];exact h.born,fun e he=>by
  obtain⟨x,hx,_⟩:=KR he
  exact h.lt _ hx⟩
theorem GL.nil (c:Nat):GL ([]:kN α) c:=⟨by simp,by simp,by simp⟩
theorem aeU:∀{l:kN α} {s:List UInt8} {x:α},ny l s=some x→∃n,(s,x,n)∈l
 |(k,d,n)::es,s,x,h=>by
  unfold ny at h
  split at h
  ·rename_i e;cases h;subst e;exact⟨n,by simp⟩
  ·obtain⟨m,hm⟩:=aeU h;exact⟨m,by simp[hm]⟩
theorem OG:∀{l:kN α} {s:List UInt8},ny l s=none↔s ∉ l.map (·.1)
 | [],s=>by simp[ny]
 |(k,d,n)::es,s=>by
  unfold ny
  split
  ·rename_i e;simp[e]
  ·rename_i e;rw[OG];simp[e]
theorem GL.filter {l:kN α}{c:Nat}(h:GL l c)(p:List UInt8 × α × Nat→Bool):GL (l.filter p) c:=
 ⟨(List.filter_sublist.map _).nodup h.keys,(List.filter_sublist.map _).nodup h.born,fun e he=>h.lt e (List.mem_filter.1 he).1⟩
theorem XP:∀{l:kN α},(l.map (·.1)).Nodup→∀s,KP l s=l.filter fun e=>!(e.1 == s)
 | [],_,_=>rfl
 |(k,d,n)::es,h,s=>by
  rw[List.map_cons,List.nodup_cons] at h
  unfold KP
  split
  ·rename_i e;subst e
   rw[List.filter_cons_of_neg (by simp)]
   refine (List.filter_eq_self.2 fun e he=>?_).symm
   have:e.1≠s:=fun q=>h.1 (q ▸ List.mem_map.2 ⟨e,he,rfl⟩)
   simpa using this
  ·rename_i e
   rw[List.filter_cons_of_pos (by simpa using fun q=>e q.symm),XP h.2 s]
theorem OH:∀(l:kN α) (s:List UInt8) (x:α),(Qs l s x).map (·.1)=l.map (·.1)
 | [],_,_=>rfl
 |(k,d,n)::es,s,x=>by unfold Qs;split <;> simp[OH es s x]
theorem Ea:∀(l:kN α) (s:List UInt8) (x:α),(Qs l s x).map (·.2.2)=l.map (·.2.2)
 | [],_,_=>rfl
 |(k,d,n)::es,s,x=>by unfold Qs;split <;> simp[Ea es s x]
theorem GL.put {l:kN α}{c:Nat}(h:GL l c)(s:List UInt8)(x:α):GL (D_ l c s x) (tY l c s):=by
 unfold D_ tY
 cases hf:ny l s with
 |some y=>
  refine⟨by simp only;rw[OH];exact h.keys,by simp only;rw[Ea];exact h.born,fun e he=>?_⟩
  have:e.2.2∈(Qs l s x).map (·.2.2):=List.mem_map_of_mem he
  rw[Ea,List.mem_map] at this
  obtain⟨f,hf,e2⟩:=this
  have:=h.lt f hf
  simp only at *;omega
 |none=>
  have hn:=OG.1 hf
  refine⟨?_,?_,fun e he=>?_⟩
  ·simp only[List.map_append,List.map_cons,List.map_nil]
   rw[List.nodup_append]
   refine⟨h.keys,by simp,fun a ha b hb=>?_⟩
   simp at hb;subst hb
   rintro rfl;exact hn ha
  ·simp only[List.map_append,List.map_cons,List.map_nil]
   rw[List.nodup_append]
   refine⟨h.born,by simp,fun a ha b hb=>?_⟩
   simp at hb;subst hb
   obtain⟨e,he,rfl⟩:=List.mem_map.1 ha
   have:=h.lt e he
   omega
  ·rcases List.mem_append.1 he with he|he
   ·have:=h.lt e he;simp only at *;omega
   ·simp at he;subst he;simp
theorem afq (l:kN α)(c:Nat)(s:List UInt8)(x:α):(D_ l c s x).length≤l.length+1:=by
 unfold D_
 split
 ·have:=congrArg List.length (OH l s x)
  simp at this;omega
 ·simp
theorem afr:∀(l:kN α) (s:List UInt8),(KP l s).length≤l.length
 | [],_=>by simp[KP]
 |(k,d,n)::es,s=>by unfold KP;have:=afr es s;split <;> simp;omega
end
def kH (x:List UInt8 × Int):D:= .agg [.str x.1,.int .i64 x.2]
def oJ (x:Int):D:= .int .i64 x
abbrev RQ:=kN (List UInt8 × Int)
abbrev US:=kN Int
@[simp] theorem ahI {S:Nat→Prop}(l:RQ):(∀e∈mE kH l,cZ S e.2.1)↔True:=by
 simp only[iff_true]
 intro e he
 obtain⟨x,_,h⟩:=KR he
 rw[h];simp[kH]
@[simp] theorem ahJ {S:Nat→Prop}(l:US):(∀e∈mE oJ l,cZ S e.2.1)↔True:=by
 simp only[iff_true]
 intro e he
 obtain⟨x,_,h⟩:=KR he
 rw[h];simp[oJ]
@[simp] theorem akM {S:Nat→Prop}(l:RQ):(∀(a:List UInt8) (d:D) (n:Nat),(a,d,n)∈mE kH l→cZ S d)↔True:=by
 simp only[iff_true]
 intro a d n he
 exact (ahI (S:=S) l).2 trivial _ he
@[simp] theorem akN {S:Nat→Prop}(l:US):(∀(a:List UInt8) (d:D) (n:Nat),(a,d,n)∈mE oJ l→cZ S d)↔True:=by
 simp only[iff_true]
 intro a d n he
 exact (ahJ (S:=S) l).2 trivial _ he
structure Rc where
 self:List UInt8
 skew:Int
 rq:RQ
 rc:Nat
 us:US
 uc:Nat
structure Rc.ok (r:Rc):Prop where
 rq:GL r.rq r.rc
 us:GL r.us r.uc
 skew:0≤r.skew∧r.skew≤600
 nrq:r.rq.length≤100000
 nus:r.us.length≤200
def u_ (rq:RQ)(now:Int):RQ:=rq.filter fun e=>decide (aZ now<e.2.1.2)
def fQ (rq:RQ)(now:Int):List (List UInt8):=bT ((u_ rq now).map (·.1))
def rH (rq:RQ)(now:Int):D:= .slice 1 (fQ rq now).isEmpty ((fQ rq now).map fun x=>[.str x]) none
@[simp] theorem ail {S:Nat→Prop}(rq:RQ)(now:Int):cZ S (rH rq now)↔True:=by simp[rH]
structure WI (rq:RQ) (now:Int) (seen:List Nat) (ks:List (List UInt8)):Prop where
 nodup:ks.Nodup
 old:∀k∈ks,∃d n,(k,d,n)∈rq∧aZ now<d.2∧n∈seen
 all:∀e∈rq,e.2.2∈seen→aZ now<e.2.1.2→e.1∈ks
theorem WI.nil (rq:RQ)(now:Int):WI rq now [] []:=⟨by simp,by simp,by simp⟩
theorem V6 {α:Type}{l:kN α}(h:(l.map (·.1)).Nodup){k:List UInt8}{x y:α}{n m:Nat}(h1:(k,x,n)∈l)(h2:(k,y,m)∈l):x=y∧n=m:=by
 obtain⟨i,hi,e1⟩:=List.mem_iff_getElem.1 h1
 obtain⟨j,hj,e2⟩:=List.mem_iff_getElem.1 h2
 have:=(List.getElem_inj (i:=i) (j:=j) (h₀:=by simpa using hi) (h₁:=by simpa using hj) h).1 (by simp[e1,e2])
 subst this
 rw[e1] at e2
 cases e2;exact⟨rfl,rfl⟩
theorem H6 {α:Type}{l:kN α}(h:(l.map (·.2.2)).Nodup){k k':List UInt8}{x y:α}{n:Nat}(h1:(k,x,n)∈l)(h2:(k',y,n)∈l):k=k'∧x=y:=by
 obtain⟨i,hi,e1⟩:=List.mem_iff_getElem.1 h1
 obtain⟨j,hj,e2⟩:=List.mem_iff_getElem.1 h2
 have:=(List.getElem_inj (i:=i) (j:=j) (h₀:=by simpa using hi) (h₁:=by simpa using hj) h).1 (by simp[e1,e2])
 subst this
 rw[e1] at e2
 cases e2;exact⟨rfl,rfl⟩
theorem WI.step {rq:RQ}{c:Nat}{now:Int}(hq:GL rq c){seen:List Nat}{ks:List (List UInt8)}(h:WI rq now seen ks){k:List UInt8}{x:List UInt8 × Int}{n:Nat}(he:(k,x,n)∈rq)(hs:n ∉ seen)(hw:decide (aZ now<x.2)=true):WI rq now (seen++[n]) (ks++[k]):=by
 have hw':aZ now<x.2:=of_decide_eq_true hw
 refine⟨?_,fun a ha=>?_,fun f hf hfs hfw=>?_⟩
 ·rw[List.nodup_append]
  refine⟨h.nodup,by simp,fun a ha b hb=>?_⟩
  simp at hb;subst hb
  rintro rfl
  obtain⟨d,m,h3,_,h4⟩:=h.old _ ha
  exact hs ((V6 hq.keys he h3).2 ▸ h4)
 ·rcases List.mem_append.1 ha with ha|ha
  ·obtain⟨d,m,h3,h5,h4⟩:=h.old a ha;exact⟨d,m,h3,h5,by simp[h4]⟩
  ·simp at ha;subst ha;exact⟨x,n,he,hw',by simp⟩
 ·rcases List.mem_append.1 hfs with hfs|hfs
  ·exact List.mem_append_left _ (h.all f hf hfs hfw)
  ·simp at hfs
   obtain⟨a,y,m⟩:=f
   simp only at hfs;subst hfs
   rw[(H6 hq.born hf he).1];simp
theorem WI.skip {rq:RQ}{c:Nat}{now:Int}(hq:GL rq c){seen:List Nat}{ks:List (List UInt8)}(h:WI rq now seen ks){k:List UInt8}{x:List UInt8 × Int}{n:Nat}(he:(k,x,n)∈rq)(hs:n ∉ seen)(hw:decide (aZ now<x.2)=false):WI rq now (seen++[n]) ks:=by
 have hw':¬aZ now<x.2:=of_decide_eq_false hw
 refine⟨h.nodup,fun a ha=>?_,fun f hf hfs hfw=>?_⟩
 ·obtain⟨d,m,h3,h5,h4⟩:=h.old a ha;exact⟨d,m,h3,h5,by simp[h4]⟩
 ·rcases List.mem_append.1 hfs with hfs|hfs
  ·exact h.all f hf hfs hfw
  ·simp at hfs
   obtain⟨a,y,m⟩:=f
   simp only at hfs hfw;subst hfs
   rw[(H6 hq.born hf he).2] at hfw
   exact absurd hfw hw'
theorem WI.len {rq:RQ}{now:Int}{seen:List Nat}{ks:List (List UInt8)}(h:WI rq now seen ks):ks.length≤rq.length:=by
 rw[← List.length_map (f:=fun e:List UInt8 × (List UInt8 × Int) × Nat=>e.1)]
 exact DU h.nodup fun x hx=>by
  obtain⟨d,n,h1,_⟩:=h.old x hx
  exact List.mem_map.2 ⟨_,h1,rfl⟩
theorem V7 {rq:RQ}{c:Nat}(hq:GL rq c)(now:Int):((u_ rq now).map (·.1)).Nodup:=(hq.filter _).keys
theorem Eb {rq:RQ}{now:Int}{k:List UInt8}:k∈fQ rq now↔∃d n,(k,d,n)∈rq∧aZ now<d.2:=by
 unfold fQ u_
 rw[sZ,List.mem_map]
 constructor
 ·rintro ⟨⟨a,d,n⟩,h,rfl⟩
  rw[List.mem_filter] at h
  exact⟨d,n,h.1,by simpa using h.2⟩
 ·rintro ⟨d,n,h,hw⟩
  exact⟨(k,d,n),List.mem_filter.2 ⟨h,by simpa using hw⟩,rfl⟩
theorem WI.done {rq:RQ}{c:Nat}{now:Int}(hq:GL rq c){seen:List Nat}{ks:List (List UInt8)}(h:WI rq now seen ks)(hl:iG (mE kH rq) seen=[]):bT ks=fQ rq now:=by
 refine tq h.nodup (yj (V7 hq now)) fun x=>?_
 show x∈ks↔x∈fQ rq now
 rw[Eb]
 constructor
 ·intro hx
  obtain⟨d,n,h1,h2,_⟩:=h.old x hx
  exact⟨d,n,h1,h2⟩
 ·rintro ⟨d,n,h1,h2⟩
  refine h.all _ h1 ?_ h2
  by_cases hs:n∈seen
  ·exact hs
  ·exfalso
   have:(x,kH d,n)∈iG (mE kH rq) seen:=by unfold iG;rw[List.mem_filter];exact⟨List.mem_map.2 ⟨_,h1,rfl⟩,by simpa using hs⟩
   rw[hl] at this;simp at this
theorem Zn (rq:RQ)(now:Int):(fQ rq now).length≤rq.length:=by
 unfold fQ
 rw[dL,List.length_map]
 exact List.length_filter_le _ _
set_option maxRecDepth 10000
theorem Zo (b:Nat):dW Tryz.prog .neq 105 true (.map b) .bG=some (aH (.bool true)):=by
 simp[dW,isEq,eqNil,Dx]
theorem Zp (b:Nat):dW Tryz.prog .neq 169 true (.map b) .bG=some (aH (.bool true)):=by
 simp[dW,isEq,eqNil,Dz]
def newE (self:List UInt8)(skew:Int):Int:=if (!(aX self))=true then 5 else if decide (iQ skew 0>600)=true then 2 else 0
theorem ahK {self:List UInt8}{skew:Int}(h:aX self=false):newE self skew=5:=by unfold newE;rw[if_pos (by rw[h];rfl)]
theorem ahL {self:List UInt8}{skew:Int}(h:aX self=true)(h2:decide (iQ skew 0>600)=true):newE self skew=2:=by unfold newE;rw[if_neg (by rw[h];decide),if_pos h2]
theorem V8 {self:List UInt8}{skew:Int}:newE self skew=0↔(aX self=true∧decide (iQ skew 0>600)=false):=by
 unfold newE
 split
 ·rename_i h;simp at h;rw[h];simp
 split
 ·rename_i h h2;rw[h2];simp
 ·rename_i h h2;exact⟨fun _=>⟨by simpa using h,by simpa using h2⟩,fun _=>rfl⟩
def kP (l:List Key)(a:As)(now:Int):List UInt8 × Int:=if ((dw a).2 != 0)=true then ([],(dw a).2) else if ((fJ l (dw a).1 now).2 != 0)=true then ([],(fJ l (dw a).1 now).2) else ((dw a).1++[126]++(fJ l (dw a).1 now).1,0)
theorem acv {l:List Key}{a:As}{now:Int}(h:((dw a).2 != 0)=true):kP l a now=([],(dw a).2):=by unfold kP;rw[if_pos h]
theorem acw {l:List Key}{a:As}{now:Int}(h:((dw a).2 != 0)=false)(h2:((fJ l (dw a).1 now).2 != 0)=true):kP l a now=([],(fJ l (dw a).1 now).2):=by unfold kP;rw[if_neg (by rw[h];decide),if_pos h2]
theorem V9 {l:List Key}{a:As}{now:Int}(h:((dw a).2 != 0)=false)(h2:((fJ l (dw a).1 now).2 != 0)=false):kP l a now=((dw a).1++[126]++(fJ l (dw a).1 now).1,0):=by
 unfold kP;rw[if_neg (by rw[h];decide),if_neg (by rw[h2];decide)]
theorem CP (a:As):(dw a).1.length≤4096:=by
 unfold dw
 split
 ·simp
 split
 ·simp
 ·rename_i h;simp at h;show (h_ a).length≤4096;omega
theorem OI {l:List Key}(hl:∀k∈l,k.ok)(s:List UInt8)(now:Int):(fJ l s now).1.length≤1099511627800:=by
 unfold fJ
 split
 ·simp
 ·have h1:=(Vz now hl).1
  have h2:=sW (qE l now).sec s
  simp[mY]
  omega
def oL (s:List UInt8):Key:=⟨[107,49],s,0,50,0,80⟩
def LV (id s:List UInt8):kK:=⟨id,[104,116,116,112,115,58,47,47]++id,[oL s],false,0,100⟩
def lJ:As:=⟨[97,49],[105,100,112],[109,101],[97,110,110],[114,49],10,30,2,false,[⟨[67,78],false,[[98],[97]]⟩]⟩
set_option maxHeartbeats 4000000
theorem ajI (h:55<Tryz.prog.types.size):(Tryz.prog.types[55]'h).size=5:=by kernel_rfl
theorem zx (t d:Int):ak Pr 65 [.int .i64 t,.int .i64 d] (.int .i64 (iQ t d)):=by
 refine ak.W Tryz.func65 Tryz.ntmps65 ?_
 simp only[ay,Nat.zero_add]
 refine WP.S [0,1,4] fun _ z=>?_;simp +decide only[TF,↓reduceIte];apply z;clear z
 refine WP.S [0,1,4] fun _ z=>?_
 simp +decide only[TF,↓reduceIte]
 refine aj.P (sN _) rfl rfl ?_
 simp +decide only[TF,↓reduceIte]
 refine aj.P (sN _) rfl rfl ?_
 simp +decide only[TF,ahG,↓reduceIte]
 refine aj.P (sN _) rfl rfl ?_
 simp +decide only[TF,↓reduceIte]
 apply z;clear z
 apply WP.ret
 exact Ends.P rfl (Le.of_eq (by simp +decide only[St.get,W,iQ,↓reduceIte]))
theorem V_:aG Pr 66 [.int .i64 256] [] (.aJ [.ref 1 0,.int .i64 0]) [(1,.box 171 [.map 0,.int .i64 256]),(0,.map [] 0)]:=by
 refine aG.of_wp Tryz.func66 rfl (by kernel_rfl) Tryz.ntmps66 (by simp) ?_
 simp only[ay,List.map_nil]
 iterate 6 first|(refine WP.S [0,2,3,9] fun _ z=>?_;simp +decide only[TF,DT,↓reduceIte];apply z;clear z)|(apply WP.skip;show WP ..)|refine WP.cF ?_|apply WP.seq
 apply WP.ret
 refine Ends.imp (d:= .aJ [_,_]) (.inr rfl) rfl (Le.of_eq (by simp +decide only[St.get,lk,W,↓reduceIte])) ?_ ?_ ?_
 ·simp[lk]
 ·simp[lk,aA]
 simp[lk]
abbrev pU:List Nat:=[0,1,4,5,6,7,13,15]
theorem Zq (self:List UInt8)(skew:Int)(hs:self.length≤140737488355328)(h1:(!(aX self))=false)(h2:decide (iQ skew 0>600)=false):aG Pr 22 [.str self,.int .i64 skew] [] (.aJ [.ref 3 0,.int .i64 0]) [(2,.map [] 0),(3,.box 107 [.str self,.int .i64 (iQ skew 0),.map 2,.ref 1 0]),(1,.box 171 [.map 0,.int .i64 256]),(0,.map [] 0)]:=by
 refine aG.of_wp Tryz.func22 rfl (by kernel_rfl) Tryz.ntmps22 (by simp) ?_
 simp only[ay,Nat.zero_add,List.map_nil]
 refine WP.S pU fun _ z=>?_;simp +decide only[TF,↓reduceIte];apply z;clear z
 refine WP.S pU fun _ z=>?_
 simp +decide only[TF,↓reduceIte]
 refine aj.P (zx _ _) rfl rfl ?_
 simp +decide only[TF,↓reduceIte]
 apply z;clear z
 apply WP.seq
 refine WP.S pU fun _ z=>?_
 simp +decide only[TF,↓reduceIte]
 refine aj.P (jC self hs) rfl rfl ?_
 simp +decide only[TF,h1,↓reduceIte]
 apply z;clear z
 iterate 6 first|(refine WP.S pU fun _ z=>?_;simp +decide only[TF,h2,↓reduceIte];apply z;clear z)|(apply WP.skip;show WP ..)|refine WP.cF ?_|apply WP.seq
 refine WP.S pU fun _ z=>?_
 simp +decide only[TF,↓reduceIte]
 refine aj.I (V_) rfl rfl ?_
 simp +decide only[TF,↓reduceIte]
 apply z;clear z
 refine WP.S pU fun _ z=>?_;simp +decide only[TF,DT,↓reduceIte];apply z;clear z
 apply WP.ret
 refine Ends.imp (d:= .aJ [_,_]) (.inr rfl) rfl (Le.of_eq (by simp[St.get,lk,W])) ?_ ?_ ?_
 ·simp[lk]
 ·simp[lk,aA]
 simp[lk]
theorem Ui (self:List UInt8)(skew:Int)(hs:self.length≤140737488355328)(h:newE self skew=0):aG Pr 22 [.str self,.int .i64 skew] [] (.aJ [.ref 3 0,.int .i64 0]) [(2,.map [] 0),(3,.box 107 [.str self,.int .i64 (iQ skew 0),.map 2,.ref 4 0]),(4,.box 171 [.map 5,.int .i64 256]),(5,.map [] 0)]:=by
 obtain⟨f,g,h1,h2⟩:=kU [5,4,2,3] (by simp)
 have:=aG.rename h1 (Zq self skew hs (by rw[(V8.1 h).1];rfl) (V8.1 h).2)
 have f0:f 0=5:=h2 0 5 rfl
 have f1:f 1=4:=h2 1 4 rfl
 have f2:f 2=2:=h2 2 2 rfl
 have f3:f 3=3:=h2 3 3 rfl
 simpa [kG,oP,dh,jL,f0,f1,f2,f3] using this
abbrev lK:List Nat:=[0,1,4,5,6,13,15]
theorem Uj (self:List UInt8)(skew:Int)(hs:self.length≤140737488355328)(h:newE self skew≠0):ak Pr 22 [.str self,.int .i64 skew] (.aJ [.aP,.int .i64 (newE self skew)]):=by
 refine ak.W Tryz.func22 Tryz.ntmps22 ?_
 simp only[ay,Nat.zero_add]
 refine WP.S lK fun _ z=>?_;simp +decide only[TF,↓reduceIte];apply z;clear z
 refine WP.S lK fun _ z=>?_
 simp +decide only[TF,↓reduceIte]
 refine aj.P (zx _ _) rfl rfl ?_
 simp +decide only[TF,↓reduceIte]
 apply z;clear z
 apply WP.seq
 refine WP.S lK fun _ z=>?_
 simp +decide only[TF,↓reduceIte]
 refine aj.P (jC self hs) rfl rfl ?_
 simp +decide only[TF,↓reduceIte]
 apply z;clear z
 refine WP.cond rfl (fun q1=>?_) (fun q1=>?_)
 ·simp only[Bool.not_eq_true'] at q1
  have hR:=ahK (skew:=skew) q1
  refine WP.S lK fun _ z=>?_;simp +decide only[TF,q1,↓reduceIte];apply z;clear z
  apply WP.ret
  exact Ends.P (d:= .aJ [_,_]) rfl (Le.of_eq (by simp +decide only[St.get,lk,W,hR,↓reduceIte]))
 simp only[Bool.not_eq_false'] at q1
 iterate 3 first|(refine WP.S lK fun _ z=>?_;simp +decide only[TF,q1,↓reduceIte];apply z;clear z)|(apply WP.skip;show WP ..)|apply WP.seq
 refine WP.cond rfl (fun q2=>?_) (fun q2=>?_)
 ·have hR:=ahL (by assumption) q2
  refine WP.S lK fun _ z=>?_;simp +decide only[TF,q2,↓reduceIte];apply z;clear z
  apply WP.ret
  exact Ends.P (d:= .aJ [_,_]) rfl (Le.of_eq (by simp +decide only[St.get,lk,W,hR,↓reduceIte]))
 exact absurd (V8.2 ⟨by assumption,q2⟩) h
theorem Ec (r:Rc):aG Pr 74 [.ref 3 0] [(2,.map (mE kH r.rq) r.rc),(3,.box 107 [.str r.self,.int .i64 r.skew,.map 2,.ref 4 0]),(4,.box 171 [.map 5,.int .i64 256]),(5,.map (mE oJ r.us) r.uc)] (.bool true) [(2,.map (mE kH r.rq) r.rc),(3,.box 107 [.str r.self,.int .i64 r.skew,.map 2,.ref 4 0]),(4,.box 171 [.map 5,.int .i64 256]),(5,.map (mE oJ r.us) r.uc)]:=by
 refine aG.of_wp Tryz.func74 rfl (by kernel_rfl) Tryz.ntmps74 (by simp) ?_
 simp only[ay,List.map_cons,List.map_nil]
 iterate 2 (refine WP.S [0,2] fun _ z=>?_;simp +decide only[TF,Zo,↓reduceIte];apply z;clear z)
 apply WP.ret
 refine Ends.imp (.inr rfl) rfl (Le.of_eq (by simp +decide only[St.get,W,↓reduceIte])) ?_ ?_ ?_
 ·simp[lk]
 ·simp[lk,aA]
 simp[lk]
theorem zy:ak Pr 74 [.aP] (.bool false):=by
 refine ak.W Tryz.func74 Tryz.ntmps74 ?_
 simp only[ay]
 iterate 2 (refine WP.S [0,2] fun _ z=>?_;simp +decide only[TF,↓reduceIte];apply z;clear z)
 apply WP.ret
 exact Ends.P rfl (Le.of_eq (by simp +decide only[St.get,W,↓reduceIte]))
theorem aff (us:US)(c:Nat):aG Pr 144 [.ref 4 0] [(4,.box 171 [.map 5,.int .i64 256]),(5,.map (mE oJ us) c)] (.bool true) [(4,.box 171 [.map 5,.int .i64 256]),(5,.map (mE oJ us) c)]:=by
 refine aG.of_wp Tryz.func144 rfl (by kernel_rfl) Tryz.ntmps144 (by simp) ?_
 simp only[ay,List.map_cons,List.map_nil]
 iterate 2 (refine WP.S [0,2] fun _ z=>?_;simp +decide only[TF,Zp,↓reduceIte];apply z;clear z)
 apply WP.ret
 refine Ends.imp (.inr rfl) rfl (Le.of_eq (by simp +decide only[St.get,W,↓reduceIte])) ?_ ?_ ?_
 ·simp[lk]
 ·simp[lk,aA]
 simp[lk]
abbrev lM:List Nat:=[0,2,4,6,7,8,9,10,11,18,28]
theorem yF (l:List Key)(nl:Bool)(hn:l.length≤1099511627776)(hnl:nl=true→l=[])(hl:∀k∈l,k.ok)(a:As)(ha:a.ok)(now:Int):ak Pr 19 [.slice 6 nl (l.map Key.cs) none,.agg [.str a.id,.str a.iP,.str a.jI,.str a.sub,.str a.req,.int .i64 a.jd,.int .i64 a.fG,.int .i64 a.lvl,.slice 2 a.nl (a.ats.map At.cs) none],.int .i64 now] (.aJ [.str (kP l a now).1,.int .i64 (kP l a now).2]):=by
 have hlen:=CP a
 have hsl:=OI hl (dw a).1 now
 refine ak.W Tryz.func19 Tryz.ntmps19 ?_
 simp only[ay,Nat.reduceAdd,Nat.zero_add]
 refine WP.S lM fun _ z=>?_;simp +decide only[TF,↓reduceIte];apply z;clear z
 refine WP.S lM fun _ z=>?_
 simp +decide only[TF,↓reduceIte]
 refine aj.P (jY a ha) rfl rfl ?_
 simp +decide only[TF,↓reduceIte]
 apply z;clear z
 iterate 2 first|(refine WP.S lM fun _ z=>?_;simp +decide only[TF,↓reduceIte];apply z;clear z)|apply WP.seq
 refine WP.cond rfl (fun q1=>?_) (fun q1=>?_)
 ·have hR:=acv (l:=l) (now:=now) q1
  refine WP.S lM fun _ z=>?_;simp +decide only[TF,q1,↓reduceIte];apply z;clear z
  apply WP.ret
  exact Ends.P (d:= .aJ [_,_]) rfl (Le.of_eq (by simp +decide only[St.get,lk,W,hR,↓reduceIte]))
 apply WP.skip;show WP ..
 refine WP.S lM fun _ z=>?_
 simp +decide only[TF,q1,↓reduceIte]
 refine aj.P (abd l nl hn hnl hl (dw a).1 (by omega) now) rfl rfl ?_
 simp +decide only[TF,↓reduceIte]
 apply z;clear z
 iterate 2 first|(refine WP.S lM fun _ z=>?_;simp +decide only[TF,↓reduceIte];apply z;clear z)|apply WP.seq
 refine WP.cond rfl (fun q2=>?_) (fun q2=>?_)
 ·have hR:=acw (by assumption) q2
  refine WP.S lM fun _ z=>?_;simp +decide only[TF,q2,↓reduceIte];apply z;clear z
  apply WP.ret
  exact Ends.P (d:= .aJ [_,_]) rfl (Le.of_eq (by simp +decide only[St.get,lk,W,hR,↓reduceIte]))
 have hR:=V9 (by assumption) q2
 apply WP.skip;show WP ..
 refine WP.S lM fun _ z=>?_
 simp +decide only[TF,q2,↓reduceIte]
 refine⟨by omega,by simp only[List.length_append,List.length_cons,List.length_nil];omega,?_⟩
 apply z;clear z
 apply WP.ret
 exact Ends.P (d:= .aJ [_,_]) rfl (Le.of_eq (by simp +decide only[St.get,lk,W,hR,↓reduceIte]))
abbrev jr:List Nat:=[0,2,4,6,7,8,9,10,17,27]
theorem Uk (l:List Key)(nl:Bool)(hn:l.length≤1099511627776)(hnl:nl=true→l=[])(hl:∀k∈l,k.ok)(a:As)(ha:a.ok)(now:Int):ak Pr 20 [.slice 6 nl (l.map Key.cs) none,.agg [.str a.id,.str a.iP,.str a.jI,.str a.sub,.str a.req,.int .i64 a.jd,.int .i64 a.fG,.int .i64 a.lvl,.slice 2 a.nl (a.ats.map At.cs) none],.int .i64 now] (.aJ [.str (kP l a now).1,.int .i64 (kP l a now).2]):=by
 have hlen:=CP a
 have hsl:=OI hl (dw a).1 now
 refine ak.W Tryz.func20 Tryz.ntmps20 ?_
 simp only[ay,Nat.reduceAdd,Nat.zero_add]
 refine WP.S jr fun _ z=>?_;simp +decide only[TF,↓reduceIte];apply z;clear z
 refine WP.S jr fun _ z=>?_
 simp +decide only[TF,↓reduceIte]
 refine aj.P (rU a ha) rfl rfl ?_
 simp +decide only[TF,↓reduceIte]
 apply z;clear z
 iterate 2 first|(refine WP.S jr fun _ z=>?_;simp +decide only[TF,↓reduceIte];apply z;clear z)|apply WP.seq
 refine WP.cond rfl (fun q1=>?_) (fun q1=>?_)
 ·have hR:=acv (l:=l) (now:=now) q1
  refine WP.S jr fun _ z=>?_;simp +decide only[TF,q1,↓reduceIte];apply z;clear z
  apply WP.ret
  exact Ends.P (d:= .aJ [_,_]) rfl (Le.of_eq (by simp +decide only[St.get,lk,W,hR,↓reduceIte]))
 apply WP.skip;show WP ..
 refine WP.S jr fun _ z=>?_
 simp +decide only[TF,q1,↓reduceIte]
 refine aj.P (abe l nl hn hnl hl (dw a).1 (by omega) now) rfl rfl ?_
 simp +decide only[TF,↓reduceIte]
 apply z;clear z
 iterate 2 first|(refine WP.S jr fun _ z=>?_;simp +decide only[TF,↓reduceIte];apply z;clear z)|apply WP.seq
 refine WP.cond rfl (fun q2=>?_) (fun q2=>?_)
 ·have hR:=acw (by assumption) q2
  refine WP.S jr fun _ z=>?_;simp +decide only[TF,q2,↓reduceIte];apply z;clear z
  apply WP.ret
  exact Ends.P (d:= .aJ [_,_]) rfl (Le.of_eq (by simp +decide only[St.get,lk,W,hR,↓reduceIte]))
 have hR:=V9 (by assumption) q2
 apply WP.skip;show WP ..
 refine WP.S jr fun _ z=>?_
 simp +decide only[TF,q2,↓reduceIte]
 refine⟨by omega,by simp only[List.length_append,List.length_cons,List.length_nil];omega,?_⟩
 apply z;clear z
 apply WP.ret
 exact Ends.P (d:= .aJ [_,_]) rfl (Le.of_eq (by simp +decide only[St.get,lk,W,hR,↓reduceIte]))
theorem Qu (s:List UInt8):ak Pr 37 [.str s] (.slice 6 false ([oL s].map Key.cs) none):=by
 refine ak.W Tryz.func37 Tryz.ntmps37 ?_
 simp only[ay]
 iterate 2 (refine WP.S [0,2] fun _ z=>?_;simp +decide only[TF,↓reduceIte];apply z;clear z)
 apply WP.ret
 exact Ends.pure (.inr rfl) rfl (Le.of_eq (by simp +decide only[St.get,W,oL,Key.cs,↓reduceIte])) (by simp[oL,Key.cs])
theorem z_ (id s:List UInt8)(h:id.length≤1000):ak Pr 27 [.str id,.str s] (.agg (LV id s).cs):=by
 refine ak.W Tryz.func27 Tryz.ntmps27 ?_
 simp only[ay,Nat.zero_add]
 refine WP.S [0,1,4] fun _ z=>?_;simp +decide only[TF,↓reduceIte];apply z;clear z
 refine WP.S [0,1,4] fun _ z=>?_
 simp +decide only[TF,↓reduceIte]
 refine⟨by first|omega|(simp only[List.length_append,List.length_cons,List.length_nil];omega),?_⟩
 refine aj.P (Qu s) rfl rfl ?_
 simp +decide only[TF,↓reduceIte]
 apply z;clear z
 apply WP.ret
 exact Ends.pure (.inr rfl) rfl (Le.of_eq (by simp +decide only[W,aB,ajI,LV,kK.cs,Key.cs,oL])) (by simp[kK.cs,LV,oL,Key.cs])
theorem acy:ak Pr 42 [] (.agg lJ.cs):=by
 refine ak.W Tryz.func42 Tryz.ntmps42 ?_
 simp only[ay]
 iterate 2 (refine WP.S [0] fun _ z=>?_;simp +decide only[TF,↓reduceIte];apply z;clear z)
 apply WP.ret
 exact Ends.pure (.inr rfl) rfl (Le.of_eq (by simp +decide only[W,aB,gI,lJ,As.cs,At.cs])) (by simp[lJ,As.cs,At.cs])
@[simp] theorem alJ (t:Nat)(l:RQ):(∀(a:List UInt8) (d:D) (n:Nat),(a,d,n)∈mE kH l→Fr t d)↔True:=by
 simp only[iff_true]
 intro a d n h
 obtain⟨x,_,e⟩:=KR h
 simp only at e;subst e
 exact .agg (by simp)
@[simp] theorem alK (t:Nat)(l:US):(∀(a:List UInt8) (d:D) (n:Nat),(a,d,n)∈mE oJ l→Fr t d)↔True:=by
 simp only[iff_true]
 intro a d n h
 obtain⟨x,_,e⟩:=KR h
 simp only at e;subst e
 exact .int _ _
theorem OJ {rq:RQ}{now:Int}{ks:List (List UInt8)}(h:bT ks=fQ rq now):Le (.slice 1 ks.isEmpty ((bT ks).map fun x=>[D.str x]) none) (rH rq now):=by
 have e2:ks.isEmpty=(fQ rq now).isEmpty:=by
  have:=congrArg List.length h
  rw[dL] at this
  rw[Bool.eq_iff_iff,List.isEmpty_iff_length_eq_zero,List.isEmpty_iff_length_eq_zero,this]
 unfold rH
 rw[← h,← e2] at *
 rw[h,e2]
 exact Le.refl _
def Qv (us:US)(id:List UInt8)(u now:Int):Int:=if aX id=false then 5 else if decide (aZ u≤aZ now)=true then 13 else match ny us id with|some old=>if decide (old>aZ now)=true then 18 else 0|none=>0
def l7 (us:US)(c:Nat)(id:List UInt8)(u now:Int):Int × US × Nat:=if Qv us id u now=0 then (0,D_ us c id (aZ u),tY us c id) else (Qv us id u now,us,c)
theorem acz {us:US}{c:Nat}{id:List UInt8}{u now e:Int}(h:Qv us id u now=e)(he:e≠0):l7 us c id u now=(e,us,c):=by unfold l7;rw[if_neg (by rw[h];exact he),h]
theorem af' {us:US}{c:Nat}{id:List UInt8}{u now:Int}(h:Qv us id u now=0):l7 us c id u now=(0,D_ us c id (aZ u),tY us c id):=by unfold l7;rw[if_pos h]
section
variable {us:US} {c:Nat} {id:List UInt8} {u now:Int}
theorem aga (h:aX id=false):l7 us c id u now=(5,us,c):=acz (by unfold Qv;rw[if_pos h]) (by decide)
theorem acA (h:aX id=true)(h2:decide (aZ u≤aZ now)=true):l7 us c id u now=(13,us,c):=acz (by unfold Qv;rw[if_neg (by rw[h];decide),if_pos h2]) (by decide)
theorem Wh {old:Int}(h:aX id=true)(h2:decide (aZ u≤aZ now)=false)(h3:ny us id=some old)(h4:decide (old>aZ now)=true):l7 us c id u now=(18,us,c):=
 acz (by unfold Qv;rw[if_neg (by rw[h];decide),if_neg (by rw[h2];decide),h3];exact if_pos h4) (by decide)
theorem ahM {old:Int}(h:aX id=true)(h2:decide (aZ u≤aZ now)=false)(h3:ny us id=some old)(h4:decide (old>aZ now)=false):l7 us c id u now=(0,D_ us c id (aZ u),tY us c id):=
 af' (by unfold Qv;rw[if_neg (by rw[h];decide),if_neg (by rw[h2];decide),h3];exact if_neg (by rw[h4];decide))
theorem Wi (h:aX id=true)(h2:decide (aZ u≤aZ now)=false)(h3:ny us id=none):l7 us c id u now=(0,D_ us c id (aZ u),tY us c id):=
 af' (by unfold Qv;rw[if_neg (by rw[h];decide),if_neg (by rw[h2];decide),h3])
end
theorem acB (us:US)(c:Nat)(s:List UInt8)(x:Int):GR (mE oJ us) c s (.int .i64 x)=mE oJ (D_ us c s x):=af9 oJ us c s x
theorem XQ (us:US)(c:Nat)(s:List UInt8):Ic (mE oJ us) c s=tY us c s:=acs oJ us c s
theorem XR (us:US)(s:List UInt8):je (mE oJ us) s=(ny us s).map oJ:=KQ oJ us s
theorem ajJ {us:US}(h:us.length≤200):decide (((mE oJ us).length:Int)<256)=true:=decide_eq_true (by rw[ahH];omega)
def Qw (r:Rc)(id p:List UInt8)(u now:Int):Int:=if (!(aX id) || !(aX p))=true then 5 else if decide (aZ u≤aZ now)=true then 13 else if (fQ r.rq now).contains id=true then 7 else if decide (((fQ r.rq now).length:Int)≥256)=true then 3 else 0
def qB (r:Rc)(id p:List UInt8)(u now:Int):Int × Rc:=if Qw r id p u now=0 then (0,{ r with rq:=D_ (u_ r.rq now) r.rc id (p,aZ u),rc:=tY (u_ r.rq now) r.rc id }) else (Qw r id p u now,r)
theorem Ul {r:Rc}{id p:List UInt8}{u now e:Int}(h:Qw r id p u now=e)(he:e≠0):qB r id p u now=(e,r):=by unfold qB;rw[if_neg (by rw[h];exact he),h]
section
variable {r:Rc} {id p:List UInt8} {u now:Int}
theorem ahN (h:aX id=false):qB r id p u now=(5,r):=Ul (by unfold Qw;rw[if_pos (by rw[h];rfl)]) (by decide)
theorem ahO (h:aX id=true)(h1:aX p=false):qB r id p u now=(5,r):=Ul (by unfold Qw;rw[if_pos (by rw[h,h1];rfl)]) (by decide)
theorem ahP (h:aX id=true)(h1:aX p=true)(h2:decide (aZ u≤aZ now)=true):qB r id p u now=(13,r):=Ul (by unfold Qw;rw[if_neg (by rw[h,h1];decide),if_pos h2]) (by decide)
theorem agb (h:aX id=true)(h1:aX p=true)(h2:decide (aZ u≤aZ now)=false)(h3:(fQ r.rq now).contains id=true):qB r id p u now=(7,r):=Ul (by unfold Qw;rw[if_neg (by rw[h,h1];decide),if_neg (by rw[h2];decide),if_pos h3]) (by decide)
theorem ajK (h:aX id=true)(h1:aX p=true)(h2:decide (aZ u≤aZ now)=false)(h3:(fQ r.rq now).contains id=false)(h4:decide (((fQ r.rq now).length:Int)≥256)=true):qB r id p u now=(3,r):=
 Ul (by unfold Qw;rw[if_neg (by rw[h,h1];decide),if_neg (by rw[h2];decide),if_neg (by rw[h3];decide),if_pos h4]) (by decide)
theorem Um (h:aX id=true)(h1:aX p=true)(h2:decide (aZ u≤aZ now)=false)(h3:(fQ r.rq now).contains id=false)(h4:decide (((fQ r.rq now).length:Int)≥256)=false):
  qB r id p u now=(0,{ r with rq:=D_ (u_ r.rq now) r.rc id (p,aZ u),rc:=tY (u_ r.rq now) r.rc id }):=by
 unfold qB
 rw[if_pos (by unfold Qw;rw[if_neg (by rw[h,h1];decide),if_neg (by rw[h2];decide),if_neg (by rw[h3];decide),if_neg (by rw[h4];decide)])]
end
theorem ahQ (rq:RQ)(c:Nat)(s p:List UInt8)(u:Int):GR (mE kH rq) c s (.agg [.str p,.int .i64 u])=mE kH (D_ rq c s (p,u)):=af9 kH rq c s (p,u)
theorem afg (rq:RQ)(c:Nat)(s:List UInt8):Ic (mE kH rq) c s=tY rq c s:=acs kH rq c s
theorem XT (rq:RQ)(s:List UInt8):je (mE kH rq) s=(ny rq s).map kH:=KQ kH rq s
theorem acC (rq:RQ)(s:List UInt8):C_ (mE kH rq) s=mE kH (KP rq s):=af_ kH rq s
def kF (rq:RQ)(now:Int)(seen:List Nat):RQ:=rq.filter fun e=>!(seen.contains e.2.2) || decide (aZ now<e.2.1.2)
theorem Zr (rq:RQ)(now:Int):kF rq now []=rq:=by
 unfold kF
 exact List.filter_eq_self.2 fun e _=>by simp
theorem Wj {rq:RQ}{c:Nat}{now:Int}(hq:GL rq c){seen:List Nat}{k:List UInt8}{x:List UInt8 × Int}{n:Nat}(he:(k,x,n)∈rq)(hw:k∈fQ rq now):kF rq now (seen++[n])=kF rq now seen:=by
 obtain⟨d,m,h1,h2⟩:=Eb.1 hw
 have h3:=(V6 hq.keys he h1).1
 subst h3
 unfold kF
 refine List.filter_congr fun e hm=>?_
 by_cases hn:e.2.2=n
 ·obtain⟨a,y,m'⟩:=e
  simp only at hn;subst hn
  obtain⟨rfl,rfl⟩:=H6 hq.born hm he
  simp[h2]
 ·simp[hn]
theorem acD {rq:RQ}{c:Nat}{now:Int}(hq:GL rq c){seen:List Nat}{k:List UInt8}{x:List UInt8 × Int}{n:Nat}(he:(k,x,n)∈rq)(hw:k ∉ fQ rq now):KP (kF rq now seen) k=kF rq now (seen++[n]):=by
 have hnw:¬aZ now<x.2:=fun h=>hw (Eb.2 ⟨x,n,he,h⟩)
 unfold kF
 rw[XP (hq.filter _).keys]
 rw[List.filter_filter]
 refine List.filter_congr fun e hm=>?_
 obtain⟨a,y,m⟩:=e
 by_cases hn:m=n
 ·subst hn
  obtain⟨rfl,rfl⟩:=H6 hq.born hm he
  simp[hnw]
 ·have hk:a≠k:=fun e2=>hn (by subst e2;exact (V6 hq.keys hm he).2)
  simp[hn,hk]
theorem Wn {rq:RQ}{now:Int}{seen:List Nat}(hl:iG (mE kH (kF rq now seen)) seen=[]):kF rq now seen=u_ rq now:=by
 unfold kF u_
 refine List.filter_congr fun e hm=>?_
 obtain⟨a,y,m⟩:=e
 by_cases hs:m∈seen
 ·simp[hs]
 ·exfalso
  have h1:(a,y,m)∈kF rq now seen:=List.mem_filter.2 ⟨hm,by simp[hs]⟩
  have:(a,kH y,m)∈iG (mE kH (kF rq now seen)) seen:=by
   unfold iG;rw[List.mem_filter];exact⟨List.mem_map.2 ⟨_,h1,rfl⟩,by simpa using hs⟩
  rw[hl] at this;simp at this
theorem Zt {rq:RQ}{now:Int}{seen:List Nat}{e:List UInt8 × (List UInt8 × Int) × Nat}(h:e∈kF rq now seen):e∈rq:=(List.mem_filter.1 h).1
theorem Un {rq:RQ}{now:Int}{seen:List Nat}{k:List UInt8}{x:List UInt8 × Int}{n:Nat}(h:(k,kH x,n)∈iG (mE kH (kF rq now seen)) seen):(iG (mE kH (kF rq now (seen++[n]))) (seen++[n])).length<(iG (mE kH (kF rq now seen)) seen).length:=by
 have e:iG (mE kH (kF rq now (seen++[n]))) (seen++[n])=iG (mE kH (kF rq now seen)) (seen++[n]):=by
  unfold iG mE kF
  rw[List.filter_map,List.filter_map,List.filter_filter,List.filter_filter]
  congr 1
  refine List.filter_congr fun e _=>?_
  simp only[Function.comp,List.contains_eq_mem,List.mem_append,List.mem_singleton]
  by_cases h1:e.2.2∈seen <;> by_cases h2:e.2.2=n <;> simp[h1,h2]
 rw[e]
 have:=P9 h
 exact this
set_option maxRecDepth 10000
set_option maxHeartbeats 4000000
theorem Ed (r:Rc)(hr:r.ok)(now:Int):aG Pr 31 [.ref 3 0,.int .i64 now] [(2,.map (mE kH r.rq) r.rc),(3,.box 107 [.str r.self,.int .i64 r.skew,.map 2,.ref 4 0]),(4,.box 171 [.map 5,.int .i64 256]),(5,.map (mE oJ r.us) r.uc)] (rH r.rq now) [(2,.map (mE kH r.rq) r.rc),(3,.box 107 [.str r.self,.int .i64 r.skew,.map 2,.ref 4 0]),(4,.box 171 [.map 5,.int .i64 256]),(5,.map (mE oJ r.us) r.uc)]:=by
 have he:=hr.rq.es kH
 have hnr:=hr.nrq
 refine aG.of_wp Tryz.func31 rfl (by kernel_rfl) Tryz.ntmps31 (by simp) ?_
 simp only[ay,Nat.zero_add,List.map_cons,List.map_nil]
 refine WP.sr [0,1] (by kernel_rfl) fun K hK=>?_
 simp +decide only[TF,↓reduceIte]
 refine hK _ _ ?_;clear hK K
 refine WP.seq ?_
 refine WP.sr [0,1,10] (by kernel_rfl) fun K hK=>?_
 simp +decide only[TF,↓reduceIte]
 refine aj.imp (Ec r) rfl rfl (by simp[lk,aA]) (by simp[lk]) (by simp[lk]) ?_
 simp +decide only[TF,↓reduceIte]
 refine hK _ _ ?_;clear hK K
 refine WP.cond (b:=false) (by rfl) nofun (fun _=>?_)
 refine WP.skip ?_
 show WP _ _ _ _ _ _
 refine WP.sr [0,1,5] (by kernel_rfl) fun K hK=>?_
 simp +decide only[TF,↓reduceIte]
 refine hK _ _ ?_;clear hK K
 refine WP.seq ?_
 refine WP.sr [1,5,15] (by kernel_rfl) fun K hK=>?_
 simp +decide only[TF,↓reduceIte]
 refine hK _ _ ?_;clear hK K
 refine WP.block ?_
 refine WP.lp [1,15] (X:={x:(List Nat) × (List (List UInt8)) // match x with|(seen,ks)=>WI r.rq now seen ks}) (fun x=>match x with| ⟨(seen,ks),_⟩=>[(5,.slice 1 (ks).isEmpty ((ks).map (fun x=>[D.str x])) (some 11))]) (fun x=>match x with| ⟨(seen,ks),_⟩=>[(11,.aS 9 1 ks.length),(6,.dS 2 r.rc seen r.rc),(2,.map (mE kH r.rq) r.rc),(3,.box 107 [.str r.self,.int .i64 r.skew,.map 2,.ref 4 0]),(4,.box 171 [.map 5,.int .i64 256]),(5,.map (mE oJ r.us) r.uc)]) (fun x=>match x with| ⟨(seen,ks),_⟩=>(iG (mE kH r.rq) seen).length) (by simp +decide only[W,↓reduceIte];rfl) ?_ ⟨([],[]),WI.nil _ _⟩ ?_
 rotate_left
 · refine Weak.trans (Weak.store (st':=⟨[(1,.int .i64 now),(15,.ref 6 0),(5,.slice 0 true [] none)],[(6,.dS 2 r.rc [] r.rc),(2,.map (mE kH r.rq) r.rc),(3,.box 107 [.str r.self,.int .i64 r.skew,.map 2,.ref 4 0]),(4,.box 171 [.map 5,.int .i64 256]),(5,.map (mE oJ r.us) r.uc)]⟩) (by simp[St.get,lk,W,Le.refl]) (by simp[lk]) (by simp[lk]) (by simp[aA,lk]) (by simp[lk])) ?_;refine Weak.trans (Weak.ghost 11 9 1 (F':=[(1,.int .i64 now),(15,.ref 6 0),(5,.slice 1 true [] (some 11))]) (σ':=[(6,.dS 2 r.rc [] r.rc),(2,.map (mE kH r.rq) r.rc),(3,.box 107 [.str r.self,.int .i64 r.skew,.map 2,.ref 4 0]),(4,.box 171 [.map 5,.int .i64 256]),(5,.map (mE oJ r.us) r.uc)]) (by simp[lk]) (by simp[Ac,zC]) (by simp[Dq,Rj,UF,zC])) ?_;exact Weak.store (by simp[St.get,lk,Le.refl]) (by simp[lk]) (by simp[lk]) (by simp[aA,lk]) (by simp[lk])
 rintro ⟨⟨seen,ks⟩,hM⟩
 dsimp only
 simp only[List.cons_append,List.nil_append]
 dsimp only at hM
 have hks:=hM.len
 refine WP.seq ?_
 refine WP.IB (by kernel_rfl) rfl rfl rfl rfl rfl rfl (fun e h=>he.lt e h) (Nat.le_refl _) ?_ ?_
 ·
  intro hl0 K hK
  simp +decide only[TF,↓reduceIte]
  refine hK _ _ ?_;clear hK K
  show WP _ _ _ _ _ _
  refine WP.seq ?_
  refine WP.cond (b:=false) (by rfl) nofun (fun _=>?_)
  refine WP.exit ?_
  show WP _ _ _ _ _ _
  rcases ks with _ | ⟨a0,k0⟩
  ·
   have hS:=hM.done hr.rq hl0
   have hL:=OJ hS
   rw[Oh] at hL
   refine WP.sr [5] (by kernel_rfl) fun K hK=>?_
   simp +decide only[TF,↓reduceIte]
   refine aj.pure (abn) rfl rfl (by simp[-List.map_take]) ?_
   simp +decide only[TF,↓reduceIte]
   refine hK _ _ ?_;clear hK K
   refine WP.sr [4] (by kernel_rfl) fun K hK=>?_
   simp +decide only[TF,↓reduceIte]
   refine hK _ _ ?_;clear hK K
   refine WP.ret ?_
   refine Ends.imp (.inr rfl) rfl ((Le.trans (Le.fg _) hL)) ?_ ?_ ?_
   · simp
   · simp[lk,aA]
   · simp[lk]
  ·
   have hS:=hM.done hr.rq hl0
   have hL:=OJ hS
   refine WP.weak (st':=⟨[(5,.slice 1 false ((a0::k0).map fun x=>[D.str x]) (some 11))],[(11,.aS 9 1 (a0::k0).length),(2,.map (mE kH r.rq) r.rc),(3,.box 107 [.str r.self,.int .i64 r.skew,.map 2,.ref 4 0]),(4,.box 171 [.map 5,.int .i64 256]),(5,.map (mE oJ r.us) r.uc)]⟩) (Weak.store (by simp[St.get,lk,Le.refl]) (by simp[lk]) (by simp[lk]) (by simp[aA,lk]) (by simp[lk])) ?_
   refine WP.weak (st':=⟨[(5,.arr 11 1 (a0::k0).length)],[(11,.arr 9 ((a0::k0).map .str)),(2,.map (mE kH r.rq) r.rc),(3,.box 107 [.str r.self,.int .i64 r.skew,.map 2,.ref 4 0]),(4,.box 171 [.map 5,.int .i64 256]),(5,.map (mE oJ r.us) r.uc)]⟩) ?_ ?_
   ·
    rw[← afW (a0::k0)]
    exact Weak.adN 11 9 1 ((a0::k0).map fun x=>[D.str x]) 5 (by simp[St.get,lk]) (by simp[lk]) (ajt 11 _) (by simp[lk]) (by intro b hb;simp[lk,hb]) (by simp[BFr,aho]) (by simp) (by simp[lk,agP])
   refine WP.sr [5] (by kernel_rfl) fun K hK=>?_
   simp +decide only[TF,↓reduceIte]
   refine aj.imp (JV 11 (a0::k0) (by omega)) rfl rfl (by simp[lk,aA]) (by simp[lk]) (by simp[lk]) ?_
   simp +decide only[TF,↓reduceIte]
   refine hK _ _ ?_;clear hK K
   refine WP.sr [4] (by kernel_rfl) fun K hK=>?_
   simp +decide only[TF,↓reduceIte]
   refine hK _ _ ?_;clear hK K
   refine WP.weak (st':=⟨[(4,.slice 1 false ((bT (a0::k0)).map fun x=>[D.str x]) (some 11))],[(11,.aS 9 1 (bT (a0::k0)).length),(2,.map (mE kH r.rq) r.rc),(3,.box 107 [.str r.self,.int .i64 r.skew,.map 2,.ref 4 0]),(4,.box 171 [.map 5,.int .i64 256]),(5,.map (mE oJ r.us) r.uc)]⟩) ?_ ?_
   ·
    refine Weak.trans (Weak.keep [4]) ?_
    simp only[keep,ins,W,↓reduceIte,Nat.reduceEqDiff]
    exact Weak.agB 11 9 1 ((bT (a0::k0)).map fun x=>[D.str x]) 4 (by simp[St.get,lk,dL]) (by simp[lk,afW]) (ahm _) (by simp) (by simp (decide:=true) [ArF,ArD,dL]) (by simp) (by intro i hi;simp_all[lk]) (by simp[lk]) (by simp[aA])
   refine WP.ret ?_
   refine Ends.imp (.inr rfl) rfl ((Le.trans (Le.fg _) hL)) ?_ ?_ ?_
   · simp
   · simp[lk,aA]
   · simp[lk]
 ·
  intro e hel K hK
  obtain⟨⟨k,x,n⟩,hkm,rfl⟩:=List.mem_map.1 (tu hel).1
  have hns:=(tu hel).2
  simp +decide only[TF,↓reduceIte]
  refine hK _ _ ?_;clear hK K
  show WP _ _ _ _ _ _
  refine WP.seq ?_
  refine WP.cond (b:=true) (by rfl) (fun _=>?_) nofun
  refine WP.skip ?_
  show WP _ _ _ _ _ _
  refine WP.block ?_
  refine WP.seq ?_
  refine WP.Eu (by kernel_rfl) rfl rfl rfl rfl rfl rfl (tu hel).1 he.born ?_
  ·
   intro K hK
   simp +decide only[TF,kH,↓reduceIte]
   refine hK _ _ ?_;clear hK K
   show WP _ _ _ _ _ _
   refine WP.sd [1,5,6,15,25] (by kernel_rfl) (by kernel_rfl) fun K hK=>?_
   simp +decide only[TF,↓reduceIte]
   refine aj.pure (zx _ _) rfl rfl (by simp[-List.map_take]) ?_
   simp +decide only[TF,zZ,↓reduceIte]
   refine hK _ _ (by kernel_rfl) ?_
   clear hK K
   refine WP.cond (b:=_) rfl (fun q1=>?_) (fun q1=>?_)
   ·
    refine WP.region (by kernel_rfl) fun K hK=>?_
    simp +decide only[TF,q1,↓reduceIte]
    repeat (refine⟨⟨by (try simp only[List.length_append,List.length_map,List.length_cons,List.length_nil]);omega,by (try simp only[List.length_append,List.length_map,List.length_cons,List.length_nil]);omega⟩,?_⟩)
    refine hK _ _ ?_;clear hK K
    show ∃y,_∧Weak _ _ _
    refine⟨⟨(seen++[n],ks++[k]),hM.step hr.rq hkm hns q1⟩,P9 hel,?_⟩
    exact Weak.store (by simp[St.get,lk,Le.refl,aa2,-List.append_assoc]) (by simp[lk,-List.append_assoc]) (by simp[lk,-List.map_append,-List.mem_append,-List.append_assoc]) (by simp[aA,lk]) (by simp[lk])
   ·
    refine WP.skip ?_
    show ∃y,_∧Weak _ _ _
    refine⟨⟨(seen++[n],ks),hM.skip hr.rq hkm hns q1⟩,P9 hel,?_⟩
    exact Weak.store (by simp[St.get,lk,W,Le.refl,-List.append_assoc,q1]) (by simp[lk,-List.append_assoc]) (by simp[lk,-List.map_append,-List.mem_append,-List.append_assoc]) (by simp[aA,lk]) (by simp[lk])
theorem LW (now:Int):ak Pr 31 [.aP,.int .i64 now] (.slice 0 true [] none):=by
 refine ak.W Tryz.func31 Tryz.ntmps31 ?_
 simp only[ay,Nat.zero_add]
 iterate 2 first|(refine WP.S [0,1,4,10] fun _ z=>?_;simp +decide only[TF,↓reduceIte];apply z;clear z)|apply WP.seq
 refine WP.S [0,1,4,10] fun _ z=>?_
 simp +decide only[TF,↓reduceIte]
 refine aj.P (zy) rfl rfl ?_
 simp +decide only[TF,↓reduceIte]
 apply z;clear z
 iterate 2 first|(refine WP.S [0,1,4,10] fun _ z=>?_;simp +decide only[TF,↓reduceIte];apply z;clear z)|refine WP.cT ?_
 apply WP.ret
 exact Ends.P rfl (Le.of_eq (by simp +decide only[St.get,W,↓reduceIte]))
theorem ahR (us:US)(c:Nat)(t:Int)(h:us.length≤200):aG Pr 146 [.ref 4 0,.int .i64 t] [(4,.box 171 [.map 5,.int .i64 256]),(5,.map (mE oJ us) c)] (.bool true) [(4,.box 171 [.map 5,.int .i64 256]),(5,.map (mE oJ us) c)]:=by
 have hlt:=ajJ h
 refine aG.of_wp Tryz.func146 rfl (by kernel_rfl) Tryz.ntmps146 (by simp) ?_
 simp only[ay,Nat.zero_add,List.map_cons,List.map_nil]
 iterate 2 first|(refine WP.S [0,1,4] fun _ z=>?_;simp +decide only[TF,↓reduceIte];apply z;clear z)|(refine WP.D [0,1,4] fun _ z=>?_;simp +decide only[TF,hlt,↓reduceIte];refine z _ _ (by kernel_rfl) ?_;clear z)
 apply WP.ret
 refine Ends.imp (.inr rfl) rfl (Le.of_eq (by simp +decide only[St.get,W,↓reduceIte])) ?_ ?_ ?_
 ·simp[lk]
 ·simp[lk,aA]
 simp[lk]
abbrev l9:List Nat:=[0,1,2,3,8,9,10,11,12,15,29,33,37,44]
theorem ajL (us:US)(c:Nat)(id:List UInt8)(u now:Int)(h:us.length≤200)(hid:id.length≤140737488355328):aG Pr 87 [.ref 4 0,.str id,.int .i64 u,.int .i64 now] [(4,.box 171 [.map 5,.int .i64 256]),(5,.map (mE oJ us) c)] (.int .i64 (l7 us c id u now).1) [(4,.box 171 [.map 5,.int .i64 256]),(5,.map (mE oJ (l7 us c id u now).2.1) (l7 us c id u now).2.2)]:=by
 refine aG.of_wp Tryz.func87 rfl (by kernel_rfl) Tryz.ntmps87 (by simp) ?_
 simp only[ay,Nat.reduceAdd,Nat.zero_add,List.map_cons,List.map_nil]
 iterate 2 first|(refine WP.S l9 fun _ z=>?_;simp +decide only[TF,↓reduceIte];apply z;clear z)|apply WP.seq
 refine WP.S l9 fun _ z=>?_
 simp +decide only[TF,↓reduceIte]
 refine aj.I (aff us c) rfl rfl ?_
 simp +decide only[TF,↓reduceIte]
 apply z;clear z
 iterate 2 first|(apply WP.skip;show WP ..)|refine WP.cF ?_
 refine WP.S l9 fun _ z=>?_
 simp +decide only[TF,↓reduceIte]
 refine aj.P (zx _ _) rfl rfl ?_
 simp +decide only[TF,zZ,↓reduceIte]
 refine aj.P (zx _ _) rfl rfl ?_
 simp +decide only[TF,zZ,↓reduceIte]
 apply z;clear z
 rcases hF:ny us id with _|old
 ·iterate 3 first|(refine WP.S l9 fun _ z=>?_;simp +decide only[TF,hF,XR,↓reduceIte];apply z;clear z)|apply WP.block|apply WP.seq
  refine WP.S l9 fun _ z=>?_
  simp +decide only[TF,↓reduceIte]
  refine aj.P (Px id (by omega)) rfl rfl ?_
  simp +decide only[TF,↓reduceIte]
  apply z;clear z
  refine WP.cond rfl (fun q1=>?_) (fun q1=>?_)
  ·have hR:=aga (us:=us) (c:=c) (u:=u) (now:=now) (by simpa using q1)
   refine WP.S l9 fun _ z=>?_;simp +decide only[TF,q1,↓reduceIte];apply z;clear z
   apply WP.ret
   refine Ends.imp (.inr rfl) rfl (Le.of_eq (by simp +decide only[St.get,W,hR,↓reduceIte])) ?_ ?_ ?_
   ·simp
   ·simp[lk,aA,hR]
   simp[lk]
  have hw:aX id=true:=by simpa using q1
  refine WP.S l9 fun _ z=>?_;simp +decide only[TF,q1,↓reduceIte];apply z;clear z
  refine WP.cond rfl (fun q2=>?_) (fun q2=>?_)
  ·have hR:=acA (us:=us) (c:=c) hw q2
   refine WP.S l9 fun _ z=>?_;simp +decide only[TF,q2,↓reduceIte];apply z;clear z
   apply WP.ret
   refine Ends.imp (.inr rfl) rfl (Le.of_eq (by simp +decide only[St.get,W,hR,↓reduceIte])) ?_ ?_ ?_
   ·simp
   ·simp[lk,aA,hR]
   simp[lk]
  have h13:=q2
  have hR:=Wi (c:=c) hw h13 hF
  iterate 2 first|(refine WP.S l9 fun _ z=>?_;simp +decide only[TF,q2,↓reduceIte];apply z;clear z)|refine WP.cF ?_
  refine WP.S l9 fun _ z=>?_
  simp +decide only[TF,↓reduceIte]
  refine aj.I (ahR us c _ h) rfl rfl ?_
  simp +decide only[TF,↓reduceIte]
  apply z;clear z
  iterate 4 first|(refine WP.S l9 fun _ z=>?_;simp +decide only[TF,acB,XQ,↓reduceIte];apply z;clear z)|(apply WP.skip;show WP ..)|refine WP.cF ?_
  apply WP.ret
  refine Ends.imp (.inr rfl) rfl (Le.of_eq (by simp +decide only[St.get,W,hR,↓reduceIte])) ?_ ?_ ?_
  ·simp
  ·simp[lk,aA,hR]
  simp[lk]
 iterate 3 first|(refine WP.S l9 fun _ z=>?_;simp +decide only[TF,hF,XR,oJ,↓reduceIte];apply z;clear z)|apply WP.block|apply WP.seq
 refine WP.S l9 fun _ z=>?_
 simp +decide only[TF,↓reduceIte]
 refine aj.P (Px id (by omega)) rfl rfl ?_
 simp +decide only[TF,↓reduceIte]
 apply z;clear z
 refine WP.cond rfl (fun q3=>?_) (fun q3=>?_)
 ·have hR:=aga (us:=us) (c:=c) (u:=u) (now:=now) (by simpa using q3)
  refine WP.S l9 fun _ z=>?_;simp +decide only[TF,q3,↓reduceIte];apply z;clear z
  apply WP.ret
  refine Ends.imp (.inr rfl) rfl (Le.of_eq (by simp +decide only[St.get,W,hR,↓reduceIte])) ?_ ?_ ?_
  ·simp
  ·simp[lk,aA,hR]
  simp[lk]
 have hw:aX id=true:=by simpa using q3
 refine WP.S l9 fun _ z=>?_;simp +decide only[TF,q3,↓reduceIte];apply z;clear z
 refine WP.cond rfl (fun q4=>?_) (fun q4=>?_)
 ·have hR:=acA (us:=us) (c:=c) hw q4
  refine WP.S l9 fun _ z=>?_;simp +decide only[TF,q4,↓reduceIte];apply z;clear z
  apply WP.ret
  refine Ends.imp (.inr rfl) rfl (Le.of_eq (by simp +decide only[St.get,W,hR,↓reduceIte])) ?_ ?_ ?_
  ·simp
  ·simp[lk,aA,hR]
  simp[lk]
 have h13:=q4
 refine WP.S l9 fun _ z=>?_;simp +decide only[TF,q4,↓reduceIte];apply z;clear z
 refine WP.cond rfl (fun q5=>?_) (fun q5=>?_)
 ·have hR:=Wh (c:=c) hw h13 hF q5
  refine WP.S l9 fun _ z=>?_;simp +decide only[TF,q5,↓reduceIte];apply z;clear z
  apply WP.ret
  refine Ends.imp (.inr rfl) rfl (Le.of_eq (by simp +decide only[St.get,W,hR,↓reduceIte])) ?_ ?_ ?_
  ·simp
  ·simp[lk,aA,hR]
  simp[lk]
 have hR:=ahM (c:=c) hw h13 hF q5
 iterate 5 first|(refine WP.S l9 fun _ z=>?_;simp +decide only[TF,q5,acB,XQ,↓reduceIte];apply z;clear z)|(apply WP.skip;show WP ..)|refine WP.cF ?_
 apply WP.ret
 refine Ends.imp (.inr rfl) rfl (Le.of_eq (by simp +decide only[St.get,W,hR,↓reduceIte])) ?_ ?_ ?_
 ·simp
 ·simp[lk,aA,hR]
 simp[lk]
theorem yG (r:Rc)(hr:r.ok)(id p:List UInt8)(u now:Int)(hid:id.length≤140737488355328)(hp:p.length≤140737488355328):aG Pr 38 [.ref 3 0,.str id,.str p,.int .i64 u,.int .i64 now] [(2,.map (mE kH r.rq) r.rc),(3,.box 107 [.str r.self,.int .i64 r.skew,.map 2,.ref 4 0]),(4,.box 171 [.map 5,.int .i64 256]),(5,.map (mE oJ r.us) r.uc)] (.int .i64 (qB r id p u now).1) [(2,.map (mE kH (qB r id p u now).2.rq) (qB r id p u now).2.rc),(3,.box 107 [.str (qB r id p u now).2.self,.int .i64 (qB r id p u now).2.skew,.map 2,.ref 4 0]),(4,.box 171 [.map 5,.int .i64 256]),(5,.map (mE oJ (qB r id p u now).2.us) (qB r id p u now).2.uc)]:=by
 have he:=hr.rq.es kH
 have hnr:=hr.nrq
 have hwl:=Zn r.rq now
 refine aG.of_wp Tryz.func38 rfl (by kernel_rfl) Tryz.ntmps38 (by simp) ?_
 simp only[ay,Nat.reduceAdd,Nat.zero_add,List.map_cons,List.map_nil]
 refine WP.sr [0,1,2,3,4] (by kernel_rfl) fun K hK=>?_
 simp +decide only[TF,↓reduceIte]
 refine hK _ _ ?_;clear hK K
 refine WP.seq ?_
 refine WP.sr [0,1,2,3,4,15] (by kernel_rfl) fun K hK=>?_
 simp +decide only[TF,↓reduceIte]
 refine aj.imp (Ec r) rfl rfl (by simp[lk,aA]) (by simp[lk]) (by simp[lk]) ?_
 simp +decide only[TF,↓reduceIte]
 refine hK _ _ ?_;clear hK K
 refine WP.cond (b:=false) (by rfl) nofun (fun _=>?_)
 refine WP.skip ?_
 show WP _ _ _ _ _ _
 refine WP.seq ?_
 refine WP.sr [0,1,2,3,4,23] (by kernel_rfl) fun K hK=>?_
 simp +decide only[TF,↓reduceIte]
 refine aj.pure (jC id hid) rfl rfl (by simp[-List.map_take]) ?_
 refine ah.take 2 fun J hJ=>?_
 simp +decide only[TF,↓reduceIte]
 refine hJ _ _ ?_;clear hJ J
 refine ah.part 19 rfl (fun q1=>?_) (fun q1=>?_)
 ·
  simp only[Bool.not_eq_true'] at q1
  have hR:=ahN (r:=r) (p:=p) (u:=u) (now:=now) (by simpa using q1)
  simp +decide only[TF,q1,↓reduceIte]
  refine hK _ _ ?_;clear hK K
  refine WP.cond (b:=true) (by rfl) (fun _=>?_) nofun
  refine WP.sr [10] (by kernel_rfl) fun K hK=>?_
  simp +decide only[TF,↓reduceIte]
  refine hK _ _ ?_;clear hK K
  refine WP.ret ?_
  refine Ends.imp (.inr rfl) rfl (Le.of_eq (by simp +decide only[St.get,W,hR,↓reduceIte])) ?_ ?_ ?_
  · simp
  · simp[lk,aA,hR]
  · simp[lk]
 ·
  simp only[Bool.not_eq_false'] at q1
  have hw1:aX id=true:=(by simpa using q1)
  simp +decide only[TF,q1,↓reduceIte]
  refine aj.pure (jC p hp) rfl rfl (by simp[-List.map_take]) ?_
  simp +decide only[TF,↓reduceIte]
  refine hK _ _ ?_;clear hK K
  refine WP.cond (b:=_) rfl (fun q2=>?_) (fun q2=>?_)
  ·
   have hR:=ahO (r:=r) (u:=u) (now:=now) hw1 (by simpa using q2)
   refine WP.sr [10] (by kernel_rfl) fun K hK=>?_
   simp +decide only[TF,q2,↓reduceIte]
   refine hK _ _ ?_;clear hK K
   refine WP.ret ?_
   refine Ends.imp (.inr rfl) rfl (Le.of_eq (by simp +decide only[St.get,W,hR,↓reduceIte])) ?_ ?_ ?_
   · simp
   · simp[lk,aA,hR]
   · simp[lk]
  ·
   have hw2:aX p=true:=(by simpa using q2)
   refine WP.skip ?_
   show WP _ _ _ _ _ _
   refine WP.seq ?_
   refine WP.sr [0,1,2,3,4,28] (by kernel_rfl) fun K hK=>?_
   simp +decide only[TF,q2,↓reduceIte]
   refine aj.pure (zx _ _) rfl rfl (by simp[-List.map_take]) ?_
   simp +decide only[TF,zZ,↓reduceIte]
   refine aj.pure (zx _ _) rfl rfl (by simp[-List.map_take]) ?_
   simp +decide only[TF,zZ,↓reduceIte]
   refine hK _ _ ?_;clear hK K
   refine WP.cond (b:=_) rfl (fun q3=>?_) (fun q3=>?_)
   ·
    have hR:=ahP (r:=r) hw1 hw2 q3
    refine WP.sr [10] (by kernel_rfl) fun K hK=>?_
    simp +decide only[TF,q3,↓reduceIte]
    refine hK _ _ ?_;clear hK K
    refine WP.ret ?_
    refine Ends.imp (.inr rfl) rfl (Le.of_eq (by simp +decide only[St.get,W,hR,↓reduceIte])) ?_ ?_ ?_
    · simp
    · simp[lk,aA,hR]
    · simp[lk]
   ·
    have h13:=q3
    refine WP.skip ?_
    show WP _ _ _ _ _ _
    refine WP.sr [0,1,2,3,11] (by kernel_rfl) fun K hK=>?_
    simp +decide only[TF,q3,↓reduceIte]
    refine aj.imp (Ed r hr now) rfl rfl (by simp[lk,aA]) (by simp[lk]) (by simp[lk]) ?_
    simp +decide only[TF,rH,↓reduceIte]
    refine hK _ _ ?_;clear hK K
    refine WP.seq ?_
    refine WP.sr [0,1,2,3,11,34] (by kernel_rfl) fun K hK=>?_
    simp +decide only[TF,↓reduceIte]
    refine aj.pure (zS (fQ r.rq now) (fQ r.rq now).isEmpty id (by omega) (fun e=>List.isEmpty_iff.1 e)) rfl rfl (by simp[fE]) ?_
    simp +decide only[TF,↓reduceIte]
    refine hK _ _ ?_;clear hK K
    refine WP.cond (b:=_) rfl (fun q4=>?_) (fun q4=>?_)
    ·
     have hR:=agb hw1 hw2 h13 q4
     refine WP.sr [10] (by kernel_rfl) fun K hK=>?_
     simp +decide only[TF,q4,↓reduceIte]
     refine hK _ _ ?_;clear hK K
     refine WP.ret ?_
     refine Ends.imp (.inr rfl) rfl (Le.of_eq (by simp +decide only[St.get,W,hR,↓reduceIte])) ?_ ?_ ?_
     · simp
     · simp[lk,aA,hR]
     · simp[lk]
    ·
     have h7:=q4
     refine WP.skip ?_
     show WP _ _ _ _ _ _
     refine WP.seq ?_
     refine WP.sr [0,1,2,3,11,37] (by kernel_rfl) fun K hK=>?_
     simp +decide only[TF,q4,↓reduceIte]
     refine hK _ _ ?_;clear hK K
     refine WP.cond (b:=_) rfl (fun q5=>?_) (fun q5=>?_)
     ·
      have hR:=ajK hw1 hw2 h13 h7 q5
      refine WP.sr [10] (by kernel_rfl) fun K hK=>?_
      simp +decide only[TF,q5,↓reduceIte]
      refine hK _ _ ?_;clear hK K
      refine WP.ret ?_
      refine Ends.imp (.inr rfl) rfl (Le.of_eq (by simp +decide only[St.get,W,hR,↓reduceIte])) ?_ ?_ ?_
      · simp
      · simp[lk,aA,hR]
      · simp[lk]
     ·
      have hR:=Um hw1 hw2 h13 h7 q5
      refine WP.skip ?_
      show WP _ _ _ _ _ _
      refine WP.seq ?_
      refine WP.sr [0,1,2,3,11,42] (by kernel_rfl) fun K hK=>?_
      simp +decide only[TF,q5,↓reduceIte]
      refine hK _ _ ?_;clear hK K
      refine WP.block ?_
      refine WP.lp [0,1,2,3,11,42] (X:={seen:List Nat // True}) (fun x=>match x with| ⟨(seen),_⟩=>[]) (fun x=>match x with| ⟨(seen),_⟩=>[(6,.dS 2 r.rc seen r.rc),(2,.map (mE kH (kF r.rq now seen)) r.rc),(3,.box 107 [.str r.self,.int .i64 r.skew,.map 2,.ref 4 0]),(4,.box 171 [.map 5,.int .i64 256]),(5,.map (mE oJ r.us) r.uc)]) (fun x=>match x with| ⟨(seen),_⟩=>(iG (mE kH (kF r.rq now seen)) seen).length) (by simp +decide only[W,↓reduceIte];rfl) ?_ ⟨([]),trivial⟩ ?_
      rotate_left
      · exact Weak.store (by simp[St.get,lk,W,Le.refl]) (by simp[lk,Zr]) (by simp[lk]) (by simp[aA,lk]) (by simp[lk])
      rintro ⟨seen,_⟩
      dsimp only
      simp only[List.nil_append]
      refine WP.seq ?_
      refine WP.IB (by kernel_rfl) rfl rfl rfl rfl rfl rfl (fun e h=>(((hr.rq.filter _).es kH).lt e h)) (Nat.le_refl _) ?_ ?_
      ·
       intro hl0 K hK
       have hKD:=Wn hl0
       simp +decide only[TF,hKD,↓reduceIte]
       refine hK _ _ ?_;clear hK K
       show WP _ _ _ _ _ _
       refine WP.seq ?_
       refine WP.cond (b:=false) (by rfl) nofun (fun _=>?_)
       refine WP.exit ?_
       show WP _ _ _ _ _ _
       refine WP.sd [] (by kernel_rfl) (by kernel_rfl) fun K hK=>?_
       simp +decide only[TF,↓reduceIte]
       refine aj.pure (zx _ _) rfl rfl (by simp[-List.map_take]) ?_
       simp +decide only[TF,zZ,ahQ,afg,↓reduceIte]
       refine hK _ _ (by kernel_rfl) ?_
       clear hK K
       refine WP.sr [10] (by kernel_rfl) fun K hK=>?_
       simp +decide only[TF,↓reduceIte]
       refine hK _ _ ?_;clear hK K
       refine WP.ret ?_
       refine Ends.imp (.inr rfl) rfl (Le.of_eq (by simp +decide only[St.get,W,hR,↓reduceIte])) ?_ ?_ ?_
       · simp
       · simp[lk,aA,hR]
       · simp[lk]
      ·
       intro e hel K hK
       obtain⟨⟨k,x,n⟩,alL,rfl⟩:=List.mem_map.1 (tu hel).1
       have hkm:=Zt alL
       simp +decide only[TF,↓reduceIte]
       refine hK _ _ ?_;clear hK K
       show WP _ _ _ _ _ _
       refine WP.seq ?_
       refine WP.cond (b:=true) (by rfl) (fun _=>?_) nofun
       refine WP.skip ?_
       show WP _ _ _ _ _ _
       refine WP.block ?_
       refine WP.seq ?_
       refine WP.Eu (by kernel_rfl) rfl rfl rfl rfl rfl rfl (tu hel).1 ((hr.rq.filter _).es kH).born ?_
       ·
        intro K hK
        simp +decide only[TF,↓reduceIte]
        refine hK _ _ ?_;clear hK K
        show WP _ _ _ _ _ _
        refine WP.sr [0,1,2,3,11,12,42,50] (by kernel_rfl) fun K hK=>?_
        simp +decide only[TF,↓reduceIte]
        refine aj.pure (zS (fQ r.rq now) (fQ r.rq now).isEmpty k (by omega) (fun e=>List.isEmpty_iff.1 e)) rfl rfl (by simp[fE]) ?_
        simp +decide only[TF,↓reduceIte]
        refine hK _ _ ?_;clear hK K
        refine WP.cond (b:=_) rfl (fun q6=>?_) (fun q6=>?_)
        ·
         simp only[Bool.not_eq_true'] at q6
         refine WP.region (by kernel_rfl) fun K hK=>?_
         simp +decide only[TF,q6,acC,↓reduceIte]
         refine hK _ _ ?_;clear hK K
         show ∃y,_∧Weak _ _ _
         refine⟨⟨seen++[n],trivial⟩,Un hel,?_⟩
         have hK9:=acD (seen:=seen) hr.rq hkm (by simpa using q6)
         exact Weak.store (by simp[St.get,lk,Le.refl]) (by simp[lk,hK9]) (by simp[lk]) (by simp[aA,lk]) (by simp[lk])
        ·
         simp only[Bool.not_eq_false'] at q6
         refine WP.skip ?_
         show ∃y,_∧Weak _ _ _
         refine⟨⟨seen++[n],trivial⟩,Un hel,?_⟩
         have hK9:=Wj (seen:=seen) hr.rq hkm (by simpa using q6)
         exact Weak.store (by simp[St.get,lk,W,Le.refl]) (by simp[lk,hK9]) (by simp[lk]) (by simp[aA,lk]) (by simp[lk])
theorem LX (id p:List UInt8)(u now:Int):ak Pr 38 [.aP,.str id,.str p,.int .i64 u,.int .i64 now] (.int .i64 1):=by
 refine ak.W Tryz.func38 Tryz.ntmps38 ?_
 simp only[ay,Nat.reduceAdd,Nat.zero_add]
 iterate 2 first|(refine WP.S [0,1,2,3,4,10,15] fun _ z=>?_;simp +decide only[TF,↓reduceIte];apply z;clear z)|apply WP.seq
 refine WP.S [0,1,2,3,4,10,15] fun _ z=>?_
 simp +decide only[TF,↓reduceIte]
 refine aj.P (zy) rfl rfl ?_
 simp +decide only[TF,↓reduceIte]
 apply z;clear z
 iterate 2 first|(refine WP.S [0,1,2,3,4,10,15] fun _ z=>?_;simp +decide only[TF,↓reduceIte];apply z;clear z)|refine WP.cT ?_
 apply WP.ret
 exact Ends.P rfl (Le.of_eq (by simp +decide only[St.get,W,↓reduceIte]))
def mg (c:UInt8)(s:List UInt8):Int:=Lib.lastIndexByte ⟨s.toArray⟩ c.toNat
theorem rJ (c:UInt8)(s:List UInt8):(mg c s=-1∧c ∉ s)∨∃i:Nat,i<s.length∧mg c s=i∧s=s.take i++c::s.drop (i+1)∧c ∉ s.drop (i+1):=by
 have hat:∀j,j<s.length→((⟨s.toArray⟩:ByteArray).data[j]!)=(s[j]?).getD default:=by
  intro j hj
  simp[hj]
 have hsz:(⟨s.toArray⟩:ByteArray).size=s.length:=by simp[ByteArray.size]
 rcases Lib.lastIndexByte_spec ⟨s.toArray⟩ c.toNat with⟨h1,h2⟩ | ⟨i,hi,h1,h2,h3⟩
 ·refine .inl ⟨h1,fun hm=>?_⟩
  obtain⟨j,hj,he⟩:=List.mem_iff_getElem.1 hm
  refine h2 j (by rw[hsz];exact hj) ?_
  rw[hat j hj,List.getElem?_eq_getElem hj,Option.getD_some,he]
 ·rw[hsz] at hi
  refine .inr ⟨i,hi,h1,?_,fun hm=>?_⟩
  ·have hc:s[i]=c:=by
    rw[hat i hi,List.getElem?_eq_getElem hi,Option.getD_some] at h2
    refine UInt8.toNat_inj.1 ?_
    omega
   have:=List.take_append_drop i s
   rw[List.drop_eq_getElem_cons hi,hc] at this
   exact this.symm
  ·obtain⟨j,hj,he⟩:=List.mem_iff_getElem.1 hm
   rw[List.length_drop] at hj
   refine h3 (i+1+j) (by omega) (by rw[hsz];omega) ?_
   rw[hat _ (by omega),List.getElem?_eq_getElem (by omega),Option.getD_some]
   rw[List.getElem_drop] at he
   rw[he]
theorem CQ (c:UInt8)(s:List UInt8)(hs:s.length≤1099511627776):ak Pr 141 [.str s,.int .u8 c.toNat] (.int .i64 (mg c s)):=BF s c.toNat (by omega)
def Qx (c:UInt8)(s:List UInt8):Option (List UInt8 × List UInt8):=if mg c s<0 then none else some (s.take (mg c s).toNat,s.drop ((mg c s).toNat+1))
theorem Wp {c:UInt8}{s:List UInt8}(h:mg c s=-1):Qx c s=none:=by unfold Qx;rw[if_pos (by omega)]
theorem uU {c:UInt8}{s:List UInt8}{i:Nat}(h:mg c s=i):Qx c s=some (s.take i,s.drop (i+1)):=by unfold Qx;rw[h,if_neg (by omega),Int.toNat_natCast]
theorem acE {c:UInt8}{l r:List UInt8}(hr:c ∉ r):mg c (l++c::r)=l.length:=by
 rcases rJ c (l++c::r) with⟨_,h⟩ | ⟨i,hi,h1,h2,h3⟩
 ·exact absurd (by simp) h
 ·rw[h1]
  have:i=l.length:=by
   rcases Nat.lt_trichotomy i l.length with h|h|h
   ·refine absurd ?_ h3
    rw[List.drop_append_of_le_length (by omega)]
    simp
   ·exact h
   ·exfalso
    have h4:(l++c::r)[i]?=some c:=by
     have h5:((l++c::r).take i).length=i:=by rw[List.length_take];omega
     rw[h2,List.getElem?_append_right (by omega),h5];simp
    rw[List.getElem?_append_right (by omega)] at h4
    obtain⟨j,hj⟩:∃j,i - l.length=j+1:=⟨i - l.length - 1,by omega⟩
    rw[hj,List.getElem?_cons_succ] at h4
    exact hr (List.mem_of_getElem? h4)
  rw[this]
theorem Uo {c:UInt8}{l r:List UInt8}(hr:c ∉ r):Qx c (l++c::r)=some (l,r):=by
 rw[uU (acE hr)]
 simp
def mG (s:List UInt8):Option (List UInt8 × List UInt8 × List UInt8 × As):=
 (Qx 126 s).bind fun q=>if ((ig q.1).2 != 0)=true then none else (Qx 58 q.2).bind fun k=>if ((Tn k.2).2 != 0)=true then none else if aX k.1=false then none else some (q.1,k.1,k.2,(ig q.1).1)
def Ur (o:Option (List UInt8 × List UInt8 × List UInt8 × As)):D:=match o with
 |some q=> .aJ [.str q.1,.str q.2.1,.str q.2.2.1,.agg q.2.2.2.cs,.int .i64 0]
 |none=> .aJ [.str [],.str [],.str [],.agg bD.cs,.int .i64 4]
theorem yH:Le (.aJ [.str [],.str [],.str [],.agg [.str [],.str [],.str [],.str [],.str [],.int .i64 0,.int .i64 0,.int .i64 0,.slice 0 true [] none],.int .i64 4]) (Ur none):=
 Le.aJ ⟨Le.refl _,Le.refl _,Le.refl _,Le.agg ⟨Le.refl _,Le.refl _,Le.refl _,Le.refl _,Le.refl _,Le.refl _,Le.refl _,Le.refl _,Le.nil _ _ _,trivial⟩,Le.refl _,trivial⟩
@[simp] theorem ajM {S:Nat→Prop}(o:Option (List UInt8 × List UInt8 × List UInt8 × As)):cZ S (Ur o)↔True:=by
 cases o with
 |none=>simp[Ur]
 |some q=>simp[Ur]
section
variable {s:List UInt8} {i k:Nat}
theorem ajN (h:mg 126 s=-1):mG s=none:=by unfold mG;rw[Wp h];rfl
theorem agc (h:mg 126 s=i)(h2:((ig (s.take i)).2 != 0)=true):mG s=none:=by unfold mG;rw[uU h,Option.bind_some,if_pos h2]
theorem ajO (h:mg 126 s=i)(h2:((ig (s.take i)).2 != 0)=false)(h3:mg 58 (s.drop (i+1))=-1):mG s=none:=by unfold mG;rw[uU h,Option.bind_some,if_neg (by rw[h2];decide),Wp h3];rfl
theorem ajP (h:mg 126 s=i)(h2:((ig (s.take i)).2 != 0)=false)(h3:mg 58 (s.drop (i+1))=k)(h4:((Tn ((s.drop (i+1)).drop (k+1))).2 != 0)=true):mG s=none:=by
 unfold mG;rw[uU h,Option.bind_some,if_neg (by rw[h2];decide),uU h3,Option.bind_some,if_pos h4]
theorem ajQ (h:mg 126 s=i)(h2:((ig (s.take i)).2 != 0)=false)(h3:mg 58 (s.drop (i+1))=k)(h4:((Tn ((s.drop (i+1)).drop (k+1))).2 != 0)=false)(h5:aX ((s.drop (i+1)).take k)=false):mG s=none:=by
 unfold mG;rw[uU h,Option.bind_some,if_neg (by rw[h2];decide),uU h3,Option.bind_some,if_neg (by rw[h4];decide),if_pos h5]
theorem ajR (h:mg 126 s=i)(h2:((ig (s.take i)).2 != 0)=false)(h3:mg 58 (s.drop (i+1))=k)(h4:((Tn ((s.drop (i+1)).drop (k+1))).2 != 0)=false)(h5:aX ((s.drop (i+1)).take k)=true):
  mG s=some (s.take i,(s.drop (i+1)).take k,(s.drop (i+1)).drop (k+1),(ig (s.take i)).1):=by
 unfold mG;rw[uU h,Option.bind_some,if_neg (by rw[h2];decide),uU h3,Option.bind_some,if_neg (by rw[h4];decide),if_neg (by rw[h5];decide)]
end
theorem Zu {s:List UInt8}{q:List UInt8 × List UInt8 × List UInt8 × As}(h:mG s=some q):∃sig,Qx 126 s=some (q.1,sig)∧Qx 58 sig=some (q.2.1,q.2.2.1)∧ig q.1=(q.2.2.2,0)∧(Tn q.2.2.1).2=0∧aX q.2.1=true:=by
 unfold mG at h
 rw[Option.bind_eq_some_iff] at h
 obtain⟨⟨t,sig⟩,h1,h⟩:=h
 simp only at h
 split at h
 ·cases h
 rename_i hd
 rw[Option.bind_eq_some_iff] at h
 obtain⟨⟨key,code⟩,h2,h⟩:=h
 simp only at h
 split at h
 ·cases h
 rename_i hr
 split at h
 ·cases h
 rename_i hw
 cases h
 exact⟨sig,h1,h2,Prod.ext rfl (by simpa using hd),by simpa using hr,by simpa using hw⟩
theorem afA {c:UInt8}{s a b:List UInt8}(h:Qx c s=some (a,b)):s=a++c::b∧c ∉ b:=by
 rcases rJ c s with⟨h1,_⟩ | ⟨i,hi,h1,h2,h3⟩
 ·rw[Wp h1] at h;cases h
 ·rw[uU h1] at h;cases h
  exact⟨h2,h3⟩
theorem acF {s:List UInt8}{q:List UInt8 × List UInt8 × List UInt8 × As}(h:mG s=some q):q.1.length≤4096∧bC q.2.2.2=0:=by
 obtain⟨sig,_,_,h3,_⟩:=Zu h
 obtain⟨e1,_,_,e4⟩:=Qp (s:=q.1) (by rw[h3]) (b:=q.2.2.2) (by rw[h3])
 exact⟨e4,(o9 e1).1⟩
set_option maxRecDepth 10000
set_option maxHeartbeats 4000000
abbrev dP:List Nat:=[0,2,3,4,5,6,7,8,9,11,15,34,61]
theorem OL (s:List UInt8)(hs:s.length≤1099511627776):ak Pr 83 [.str s] (Ur (mG s)):=by
 refine ak.W Tryz.func83 Tryz.ntmps83 ?_
 simp only[ay]
 refine WP.S dP fun _ z=>?_;simp +decide only[TF,↓reduceIte];apply z;clear z
 rcases rJ 126 s with⟨hl,_⟩ | ⟨i,hi,hl,_,_⟩
 ·have hR:=ajN hl
  have hi0:decide ((-1:Int)<0)=true:=by decide
  refine WP.S dP fun _ z=>?_
  simp +decide only[TF,↓reduceIte]
  refine aj.P (CQ 126 s (by omega)) rfl rfl ?_
  simp +decide only[TF,hl,↓reduceIte]
  apply z;clear z
  iterate 4 first|(refine WP.S dP fun _ z=>?_;simp +decide only[TF,↓reduceIte];apply z;clear z)|refine WP.cT ?_|apply WP.seq
  apply WP.ret
  exact Ends.P (d:= .aJ [_,_,_,_,_]) rfl (by rw[hR];exact Le.trans (Le.of_eq (by simp +decide only[St.get,lk,W,aB,gI,↓reduceIte])) yH)
 have hi0:decide ((i:Int)<0)=false:=decide_eq_false (by omega)
 have hle:i≤s.length:=by omega
 have hle1:i+1≤s.length:=by omega
 have hwi:IntKind.wrap .i64 ((i:Int)+1)=((i+1:Nat):Int):=by rw[wrap_i64 (by omega) (by omega)];rfl
 refine WP.S dP fun _ z=>?_
 simp +decide only[TF,↓reduceIte]
 refine aj.P (CQ 126 s (by omega)) rfl rfl ?_
 simp +decide only[TF,hl,↓reduceIte]
 apply z;clear z
 iterate 4 first|(refine WP.S dP fun _ z=>?_;simp +decide only[TF,hi0,↓reduceIte];apply z;clear z)|(apply WP.skip;show WP ..)|refine WP.cF ?_|apply WP.seq
 refine WP.S dP fun _ z=>?_
 simp +decide only[TF,hle,↓reduceIte]
 refine aj.P (xI (s.take i) (by simp only[List.length_take];omega)) rfl rfl ?_
 simp +decide only[TF,iy,As.cs,↓reduceIte]
 apply z;clear z
 rcases rJ 58 (s.drop (i+1)) with⟨hk,_⟩ | ⟨k,hk1,hk,_,_⟩
 ·have hk0:decide ((-1:Int)<0)=true:=by decide
  refine WP.S dP fun _ z=>?_
  simp +decide only[TF,hle1,hwi,List.take_length,↓reduceIte]
  refine aj.P (CQ 58 (s.drop (i+1)) (by simp only[List.length_drop];omega)) rfl rfl ?_
  simp +decide only[TF,hk,↓reduceIte]
  apply z;clear z
  apply WP.seq
  refine WP.S dP fun _ z=>?_
  refine ah.take 3 fun J hJ=>?_
  simp +decide only[TF,↓reduceIte]
  refine hJ _ _ ?_;clear hJ J
  refine ah.part 31 rfl (fun q1=>?_) (fun q1=>?_)
  ·have hR:=agc hl q1
   simp +decide only[TF,q1,↓reduceIte]
   apply z;clear z
   iterate 2 first|(refine WP.S dP fun _ z=>?_;simp +decide only[TF,↓reduceIte];apply z;clear z)|refine WP.cT ?_
   apply WP.ret
   exact Ends.P (d:= .aJ [_,_,_,_,_]) rfl (by rw[hR];exact Le.trans (Le.of_eq (by simp +decide only[St.get,lk,W,aB,gI,↓reduceIte])) yH)
  have hf:=q1
  have hR:=ajO hl hf hk
  simp +decide only[TF,q1,↓reduceIte]
  apply z;clear z
  iterate 2 first|(refine WP.S dP fun _ z=>?_;simp +decide only[TF,↓reduceIte];apply z;clear z)|refine WP.cT ?_
  apply WP.ret
  exact Ends.P (d:= .aJ [_,_,_,_,_]) rfl (by rw[hR];exact Le.trans (Le.of_eq (by simp +decide only[St.get,lk,W,aB,gI,↓reduceIte])) yH)
 rw[List.length_drop] at hk1
 have hk0:decide ((k:Int)<0)=false:=decide_eq_false (by omega)
 have hwk:IntKind.wrap .i64 (((i+1:Nat):Int)+(k:Int))=((i+1+k:Nat):Int):=by rw[wrap_i64 (by omega) (by omega)];omega
 have hw2:IntKind.wrap .i64 ((i:Int)+2)=((i+2:Nat):Int):=by rw[wrap_i64 (by omega) (by omega)];rfl
 have hw3:IntKind.wrap .i64 (((i+2:Nat):Int)+(k:Int))=((i+2+k:Nat):Int):=by rw[wrap_i64 (by omega) (by omega)];omega
 have hb1:(i+1≤i+1+k)=True:=eq_true (by omega)
 have hb2:(i+1+k≤s.length)=True:=eq_true (by omega)
 have hb3:(i+2+k≤s.length)=True:=eq_true (by omega)
 have hd1:(s.take (i+1+k)).drop (i+1)=(s.drop (i+1)).take k:=by rw[List.drop_take];congr 1;omega
 have hd2:s.drop (i+2+k)=(s.drop (i+1)).drop (k+1):=by rw[List.drop_drop];congr 1;omega
 refine WP.S dP fun _ z=>?_
 simp +decide only[TF,hle1,hwi,List.take_length,↓reduceIte]
 refine aj.P (CQ 58 (s.drop (i+1)) (by simp only[List.length_drop];omega)) rfl rfl ?_
 simp +decide only[TF,hk,↓reduceIte]
 apply z;clear z
 apply WP.seq
 refine WP.S dP fun _ z=>?_
 refine ah.take 3 fun J hJ=>?_
 simp +decide only[TF,↓reduceIte]
 refine hJ _ _ ?_;clear hJ J
 refine ah.part 31 rfl (fun q2=>?_) (fun q2=>?_)
 ·have hR:=agc hl q2
  simp +decide only[TF,q2,↓reduceIte]
  apply z;clear z
  iterate 2 first|(refine WP.S dP fun _ z=>?_;simp +decide only[TF,↓reduceIte];apply z;clear z)|refine WP.cT ?_
  apply WP.ret
  exact Ends.P (d:= .aJ [_,_,_,_,_]) rfl (by rw[hR];exact Le.trans (Le.of_eq (by simp +decide only[St.get,lk,W,aB,gI,↓reduceIte])) yH)
 have hf:=q2
 simp +decide only[TF,hk0,q2,↓reduceIte]
 apply z;clear z
 iterate 4 first|(refine WP.D dP fun _ z=>?_;simp +decide only[TF,hwi,hwk,hw2,hw3,hb1,hb2,hb3,hd1,hd2,List.take_length,↓reduceIte];refine z _ _ (by kernel_rfl) ?_;clear z)|(apply WP.skip;show WP ..)|refine WP.cF ?_|apply WP.seq
 refine WP.S dP fun _ z=>?_
 simp +decide only[TF,↓reduceIte]
 refine aj.P (YO ((s.drop (i+1)).drop (k+1)) (by simp only[List.length_drop];omega)) rfl rfl ?_
 simp +decide only[TF,yN,↓reduceIte]
 apply z;clear z
 refine WP.S dP fun _ z=>?_
 refine ah.take 3 fun J hJ=>?_
 simp +decide only[TF,↓reduceIte]
 refine hJ _ _ ?_;clear hJ J
 refine ah.part 57 rfl (fun q3=>?_) (fun q3=>?_)
 ·have hR:=ajP hl hf hk q3
  simp +decide only[TF,q3,↓reduceIte]
  apply z;clear z
  iterate 2 first|(refine WP.S dP fun _ z=>?_;simp +decide only[TF,↓reduceIte];apply z;clear z)|refine WP.cT ?_
  apply WP.ret
  exact Ends.P (d:= .aJ [_,_,_,_,_]) rfl (by rw[hR];exact Le.trans (Le.of_eq (by simp +decide only[St.get,lk,W,aB,gI,↓reduceIte])) yH)
 have hx:=q3
 simp +decide only[TF,q3,↓reduceIte]
 refine aj.P (jC ((s.drop (i+1)).take k) (by simp only[List.length_drop,List.length_take];omega)) rfl rfl ?_
 simp +decide only[TF,↓reduceIte]
 apply z;clear z
 refine WP.cond rfl (fun q4=>?_) (fun q4=>?_)
 ·have hR:=ajQ hl hf hk hx (by simpa using q4)
  refine WP.S dP fun _ z=>?_;simp +decide only[TF,q4,↓reduceIte];apply z;clear z
  apply WP.ret
  exact Ends.P (d:= .aJ [_,_,_,_,_]) rfl (by rw[hR];exact Le.trans (Le.of_eq (by simp +decide only[St.get,lk,W,aB,gI,↓reduceIte])) yH)
 have hR:=ajR hl hf hk hx (by simpa using q4)
 iterate 2 first|(refine WP.D dP fun _ z=>?_;simp +decide only[TF,hle,q4,↓reduceIte];refine z _ _ (by kernel_rfl) ?_;clear z)|(apply WP.skip;show WP ..)
 apply WP.ret
 exact Ends.P (d:= .aJ [_,_,_,_,_]) rfl (by rw[hR];exact Le.of_eq (by simp +decide only[Ur,As.cs,St.get,lk,W,aB,gI,↓reduceIte]))
def Wq (r:Rc)(a:As)(now:Int):As × Int × Rc:=
 match ny r.rq a.req with
 |none=>(bD,6,r)
 |some q=>if decide (aZ now≥q.2)=true then (bD,6,r) else if (q.1 == a.iP)=false then (bD,16,r) else
  if ((l7 r.us r.uc a.id (iQ a.fG r.skew) now).1 != 0)=true then (bD,(l7 r.us r.uc a.id (iQ a.fG r.skew) now).1,r)
  else (a,0,{ r with us:=(l7 r.us r.uc a.id (iQ a.fG r.skew) now).2.1,uc:=(l7 r.us r.uc a.id (iQ a.fG r.skew) now).2.2,rq:=KP r.rq a.req })
theorem KT {r:Rc}{a:As}{now:Int}{q:List UInt8 × Int}(h:ny r.rq a.req=some q):Wq r a now=if decide (aZ now≥q.2)=true then (bD,6,r) else if (q.1 == a.iP)=false then (bD,16,r) else
  if ((l7 r.us r.uc a.id (iQ a.fG r.skew) now).1 != 0)=true then (bD,(l7 r.us r.uc a.id (iQ a.fG r.skew) now).1,r)
  else (a,0,{ r with us:=(l7 r.us r.uc a.id (iQ a.fG r.skew) now).2.1,uc:=(l7 r.us r.uc a.id (iQ a.fG r.skew) now).2.2,rq:=KP r.rq a.req }):=by unfold Wq;rw[h]
def lV (ms:TS)(r:Rc)(s:List UInt8)(now:Int):As × Int × Rc:=
 match mG s with
 |none=>(bD,4,r)
 |some (text,key,code,a)=>match gY ms a.iP with
  |none=>(bD,6,r)
  |some p=>if (f_ p.f p.u now 0 != 0)=true then (bD,f_ p.f p.u now 0,r) else
   if ((kV p.keys key now r.skew).2 != 0)=true then (bD,(kV p.keys key now r.skew).2,r) else
   if (code == qx (kV p.keys key now r.skew).1.sec text)=false then (bD,17,r) else
   if (a.jI == r.self)=false then (bD,15,r) else
   if (f_ a.jd a.fG now r.skew != 0)=true then (bD,f_ a.jd a.fG now r.skew,r) else Wq r a now
section
variable {ms:TS} {r:Rc} {s text key code:List UInt8} {a:As} {p:kK} {now:Int}
theorem agd (h:mG s=none):lV ms r s now=(bD,4,r):=by unfold lV;rw[h]
theorem ajS (h:mG s=some (text,key,code,a))(h1:gY ms a.iP=none):lV ms r s now=(bD,6,r):=by unfold lV;simp only[h,h1]
theorem agf (h:mG s=some (text,key,code,a))(h1:gY ms a.iP=some p)(h2:(f_ p.f p.u now 0 != 0)=true):lV ms r s now=(bD,f_ p.f p.u now 0,r):=by unfold lV;simp only[h,h1];exact if_pos h2
theorem XU (h:mG s=some (text,key,code,a))(h1:gY ms a.iP=some p)(h2:(f_ p.f p.u now 0 != 0)=false):lV ms r s now=
  if ((kV p.keys key now r.skew).2 != 0)=true then (bD,(kV p.keys key now r.skew).2,r) else
   if (code == qx (kV p.keys key now r.skew).1.sec text)=false then (bD,17,r) else
   if (a.jI == r.self)=false then (bD,15,r) else
   if (f_ a.jd a.fG now r.skew != 0)=true then (bD,f_ a.jd a.fG now r.skew,r) else Wq r a now:=by
 unfold lV;simp only[h,h1];exact if_neg (by rw[h2];decide)
end
theorem Ws (ms:TS)(id:List UInt8)(t:Int):(gY ms id=none∧uZ ms id t= .aJ [YQ,.int .i64 6])∨(∃p,gY ms id=some p∧(f_ p.f p.u t 0 != 0)=true∧uZ ms id t= .aJ [YQ,.int .i64 (f_ p.f p.u t 0)])∨
  ∃p,gY ms id=some p∧(f_ p.f p.u t 0 != 0)=false∧uZ ms id t= .aJ [.agg p.cs,.int .i64 0]:=by
 cases h:gY ms id with
 |none=>exact .inl ⟨rfl,abg h⟩
 |some p=>
  cases h2:(f_ p.f p.u t 0 != 0) with
  |true=>exact .inr (.inl ⟨p,rfl,h2,abh h h2⟩)
  |false=>exact .inr (.inr ⟨p,rfl,h2,abj h h2⟩)
theorem ahS {us:US}{c:Nat}{id:List UInt8}{u now:Int}(h:((l7 us c id u now).1 != 0)=true):(l7 us c id u now).2.1=us∧(l7 us c id u now).2.2=c:=by
 unfold l7 at h ⊢
 split
 ·rename_i h0;rw[if_pos h0] at h;simp at h
 ·exact⟨rfl,rfl⟩
theorem mD (e:Int):Le (.aJ [.agg [.str [],.str [],.str [],.str [],.str [],.int .i64 0,.int .i64 0,.int .i64 0,.slice 0 true [] none],.int .i64 e]) (.aJ [.agg bD.cs,.int .i64 e]):=ni e
set_option maxRecDepth 10000
set_option maxHeartbeats 4000000
theorem acG {a b:List UInt8}(h:(!(a == b))=true):(a == b)=false:=by simpa using h
theorem acH {a b:List UInt8}(h:(!(a == b))=false):(a == b)=true:=by simpa using h
theorem alM:((4:Int) != 0)=true:=by decide
abbrev bI:List Nat:=[0,1,2,3,8,9,10,11,12,13,14,15,16,17,18,19,20,23,34,46,62,70,78,92,113,119,137]
theorem tZ (ms:TS)(c:Nat)(hms:TS.ok ms)(r:Rc)(hr:r.ok)(s:List UInt8)(hs:s.length≤1099511627776)(now:Int):aG Pr 39 [.ref 3 0,.ref 1 0,.str s,.int .i64 now] [(0,.map (yh ms) c),(1,.box 138 [.map 0]),(2,.map (mE kH r.rq) r.rc),(3,.box 107 [.str r.self,.int .i64 r.skew,.map 2,.ref 4 0]),(4,.box 171 [.map 5,.int .i64 256]),(5,.map (mE oJ r.us) r.uc)] (.aJ [.agg (lV ms r s now).1.cs,.int .i64 (lV ms r s now).2.1]) [(0,.map (yh ms) c),(1,.box 138 [.map 0]),(2,.map (mE kH (lV ms r s now).2.2.rq) (lV ms r s now).2.2.rc),(3,.box 107 [.str (lV ms r s now).2.2.self,.int .i64 (lV ms r s now).2.2.skew,.map 2,.ref 4 0]),(4,.box 171 [.map 5,.int .i64 256]),(5,.map (mE oJ (lV ms r s now).2.2.us) (lV ms r s now).2.2.uc)]:=by
 refine aG.of_wp Tryz.func39 rfl (by kernel_rfl) Tryz.ntmps39 (by simp) ?_
 simp only[ay,Nat.reduceAdd,Nat.zero_add,List.map_cons,List.map_nil]
 iterate 2 first|(refine WP.S bI fun _ z=>?_;simp +decide only[TF,↓reduceIte];apply z;clear z)|apply WP.seq
 refine WP.S bI fun _ z=>?_
 simp +decide only[TF,↓reduceIte]
 refine aj.I (Ec r) rfl rfl ?_
 simp +decide only[TF,↓reduceIte]
 apply z;clear z
 iterate 2 first|(apply WP.skip;show WP ..)|refine WP.cF ?_
 rcases hD:mG s with _ | ⟨text,key,code,a⟩
 ·have hR:=agd (ms:=ms) (r:=r) (now:=now) hD
  refine WP.S bI fun _ z=>?_
  simp +decide only[TF,↓reduceIte]
  refine aj.P (OL s hs) rfl rfl ?_
  simp +decide only[TF,hD,Ur,As.cs,↓reduceIte]
  apply z;clear z
  iterate 4 first|(refine WP.S bI fun _ z=>?_;simp +decide only[TF,alM,↓reduceIte];apply z;clear z)|refine WP.cT ?_|apply WP.seq
  apply WP.ret
  refine Ends.imp (d:= .aJ [_,_]) (.inr rfl) rfl (by rw[hR];exact Le.trans (Le.of_eq (by simp +decide only[St.get,W,aB,gI,↓reduceIte])) (mD _)) ?_ ?_ ?_
  ·simp
  ·simp[lk,aA,hR]
  simp[lk]
 obtain⟨ht1,ht2⟩:=acF hD
 have alN:=nJ (fO ht2).1.1
 simp only at ht1 alN
 refine WP.S bI fun _ z=>?_
 simp +decide only[TF,↓reduceIte]
 refine aj.P (OL s hs) rfl rfl ?_
 simp +decide only[TF,hD,Ur,As.cs,↓reduceIte]
 apply z;clear z
 iterate 4 first|(refine WP.S bI fun _ z=>?_;simp +decide only[TF,↓reduceIte];apply z;clear z)|(apply WP.skip;show WP ..)|refine WP.cF ?_|apply WP.seq
 rcases Ws ms a.iP now with⟨hF,hP⟩ | ⟨p,hF,hC,hP⟩ | ⟨p,hF,hC,hP⟩
 ·have hR:=ajS (r:=r) (now:=now) hD hF
  have hb:((6:Int) != 0)=true:=by decide
  refine WP.S bI fun _ z=>?_
  simp +decide only[TF,↓reduceIte]
  refine aj.I (zN ms c hms a.iP now) rfl rfl ?_
  simp +decide only[TF,hP,YQ,↓reduceIte]
  apply z;clear z
  iterate 4 first|(refine WP.S bI fun _ z=>?_;simp +decide only[TF,hb,↓reduceIte];apply z;clear z)|refine WP.cT ?_|apply WP.seq
  apply WP.ret
  refine Ends.imp (d:= .aJ [_,_]) (.inr rfl) rfl (by rw[hR];exact Le.trans (Le.of_eq (by simp +decide only[St.get,W,aB,gI,↓reduceIte])) (mD _)) ?_ ?_ ?_
  ·simp
  ·simp[lk,aA,hR]
  simp[lk]
 ·have hR:=agf (r:=r) hD hF hC
  refine WP.S bI fun _ z=>?_
  simp +decide only[TF,↓reduceIte]
  refine aj.I (zN ms c hms a.iP now) rfl rfl ?_
  simp +decide only[TF,hP,YQ,↓reduceIte]
  apply z;clear z
  iterate 4 first|(refine WP.S bI fun _ z=>?_;simp +decide only[TF,hC,↓reduceIte];apply z;clear z)|refine WP.cT ?_|apply WP.seq
  apply WP.ret
  refine Ends.imp (d:= .aJ [_,_]) (.inr rfl) rfl (by rw[hR];exact Le.trans (Le.of_eq (by simp +decide only[St.get,W,aB,gI,↓reduceIte])) (mD _)) ?_ ?_ ?_
  ·simp
  ·simp[lk,aA,hR]
  simp[lk]
 have hY:=XU (r:=r) hD hF hC
 obtain⟨hpo,_⟩:=Tz hms hF
 have alO:=(Xr (id:=key) (now:=now) (skew:=r.skew) hpo.2.2.2.2).2
 have hb:((0:Int) != 0)=false:=by decide
 refine WP.S bI fun _ z=>?_
 simp +decide only[TF,↓reduceIte]
 refine aj.I (zN ms c hms a.iP now) rfl rfl ?_
 simp +decide only[TF,hP,kK.cs,↓reduceIte]
 apply z;clear z
 iterate 4 first|(refine WP.S bI fun _ z=>?_;simp +decide only[TF,↓reduceIte];apply z;clear z)|(apply WP.skip;show WP ..)|refine WP.cF ?_|apply WP.seq
 refine WP.D bI fun _ z=>?_
 simp +decide only[TF,↓reduceIte]
 refine aj.pure (SG p.keys p.nk key now r.skew hpo.2.2.1 hpo.2.2.2.1) rfl rfl (by simp[BG]) ?_
 simp +decide only[TF,↓reduceIte]
 refine z _ _ (by kernel_rfl) ?_;clear z
 iterate 2 first|(refine WP.S bI fun _ z=>?_;simp +decide only[TF,↓reduceIte];apply z;clear z)|apply WP.seq
 refine WP.cond rfl (fun q1=>?_) (fun q1=>?_)
 ·have hR:=hY.trans (if_pos q1)
  refine WP.S bI fun _ z=>?_;simp +decide only[TF,q1,↓reduceIte];apply z;clear z
  apply WP.ret
  refine Ends.imp (d:= .aJ [_,_]) (.inr rfl) rfl (by rw[hR];exact Le.trans (Le.of_eq (by simp +decide only[St.get,W,aB,gI,↓reduceIte])) (mD _)) ?_ ?_ ?_
  ·simp
  ·simp[lk,aA,hR]
  simp[lk]
 rw[if_neg (by rw[q1];decide)] at hY
 iterate 2 first|(apply WP.skip;show WP ..)|apply WP.seq
 refine WP.S bI fun _ z=>?_
 simp +decide only[TF,q1,↓reduceIte]
 refine aj.P (aa' (kV p.keys key now r.skew).1.sec text alO (by omega)) rfl rfl ?_
 simp +decide only[TF,↓reduceIte]
 apply z;clear z
 refine WP.cond rfl (fun q2=>?_) (fun q2=>?_)
 ·have hq9:=acG q2
  have hR:=hY.trans (if_pos hq9)
  refine WP.S bI fun _ z=>?_;simp +decide only[TF,q2,↓reduceIte];apply z;clear z
  apply WP.ret
  refine Ends.imp (d:= .aJ [_,_]) (.inr rfl) rfl (by rw[hR];exact Le.trans (Le.of_eq (by simp +decide only[St.get,W,aB,gI,↓reduceIte])) (mD _)) ?_ ?_ ?_
  ·simp
  ·simp[lk,aA,hR]
  simp[lk]
 have hq9:=acH q2
 rw[if_neg (by rw[hq9];decide)] at hY
 iterate 3 first|(refine WP.D bI fun _ z=>?_;simp +decide only[TF,q2,↓reduceIte];refine z _ _ (by kernel_rfl) ?_;clear z)|(apply WP.skip;show WP ..)|apply WP.seq
 refine WP.cond rfl (fun q3=>?_) (fun q3=>?_)
 ·have hq9:=acG q3
  have hR:=hY.trans (if_pos hq9)
  refine WP.S bI fun _ z=>?_;simp +decide only[TF,q3,↓reduceIte];apply z;clear z
  apply WP.ret
  refine Ends.imp (d:= .aJ [_,_]) (.inr rfl) rfl (by rw[hR];exact Le.trans (Le.of_eq (by simp +decide only[St.get,W,aB,gI,↓reduceIte])) (mD _)) ?_ ?_ ?_
  ·simp
  ·simp[lk,aA,hR]
  simp[lk]
 have hq9:=acH q3
 rw[if_neg (by rw[hq9];decide)] at hY
 iterate 2 first|(apply WP.skip;show WP ..)|apply WP.seq
 refine WP.D bI fun _ z=>?_
 simp +decide only[TF,q3,↓reduceIte]
 refine aj.P (zJ a.jd a.fG now r.skew) rfl rfl ?_
 simp +decide only[TF,↓reduceIte]
 refine z _ _ (by kernel_rfl) ?_;clear z
 refine WP.S bI fun _ z=>?_;simp +decide only[TF,↓reduceIte];apply z;clear z
 refine WP.cond rfl (fun q4=>?_) (fun q4=>?_)
 ·have hR:=hY.trans (if_pos q4)
  refine WP.S bI fun _ z=>?_;simp +decide only[TF,q4,↓reduceIte];apply z;clear z
  apply WP.ret
  refine Ends.imp (d:= .aJ [_,_]) (.inr rfl) rfl (by rw[hR];exact Le.trans (Le.of_eq (by simp +decide only[St.get,W,aB,gI,↓reduceIte])) (mD _)) ?_ ?_ ?_
  ·simp
  ·simp[lk,aA,hR]
  simp[lk]
 rw[if_neg (by rw[q4];decide)] at hY
 apply WP.skip;show WP ..
 rcases hQ:ny r.rq a.req with _|q
 ·have hR:=hY.trans (by unfold Wq;rw[hQ])
  iterate 5 first|(refine WP.D bI fun _ z=>?_;simp +decide only[TF,q4,hQ,XT,↓reduceIte];refine z _ _ (by kernel_rfl) ?_;clear z)|(refine WP.S bI fun _ z=>?_;simp +decide only[TF,↓reduceIte];apply z;clear z)|refine WP.cT ?_|apply WP.seq
  apply WP.ret
  refine Ends.imp (d:= .aJ [_,_]) (.inr rfl) rfl (by rw[hR];exact Le.trans (Le.of_eq (by simp +decide only[St.get,W,aB,gI,↓reduceIte])) (mD _)) ?_ ?_ ?_
  ·simp
  ·simp[lk,aA,hR]
  simp[lk]
 have hU:=KT (now:=now) hQ
 iterate 2 first|(refine WP.D bI fun _ z=>?_;simp +decide only[TF,q4,hQ,kH,XT,↓reduceIte];refine z _ _ (by kernel_rfl) ?_;clear z)|apply WP.seq
 refine WP.D bI fun _ z=>?_
 simp +decide only[TF,↓reduceIte]
 refine aj.P (zx _ _) rfl rfl ?_
 simp +decide only[TF,zZ,↓reduceIte]
 refine z _ _ (by kernel_rfl) ?_;clear z
 refine WP.cond rfl (fun q5=>?_) (fun q5=>?_)
 ·rw[if_pos (by simpa using q5)] at hU
  have hR:=hY.trans hU
  refine WP.S bI fun _ z=>?_;simp +decide only[TF,q5,↓reduceIte];apply z;clear z
  apply WP.ret
  refine Ends.imp (d:= .aJ [_,_]) (.inr rfl) rfl (by rw[hR];exact Le.trans (Le.of_eq (by simp +decide only[St.get,W,aB,gI,↓reduceIte])) (mD _)) ?_ ?_ ?_
  ·simp
  ·simp[lk,aA,hR]
  simp[lk]
 rw[if_neg (by simpa using q5)] at hU
 iterate 3 first|(refine WP.S bI fun _ z=>?_;simp +decide only[TF,q5,↓reduceIte];apply z;clear z)|(apply WP.skip;show WP ..)|apply WP.seq
 refine WP.cond rfl (fun q6=>?_) (fun q6=>?_)
 ·rw[if_pos (acG q6)] at hU
  have hR:=hY.trans hU
  refine WP.S bI fun _ z=>?_;simp +decide only[TF,q6,↓reduceIte];apply z;clear z
  apply WP.ret
  refine Ends.imp (d:= .aJ [_,_]) (.inr rfl) rfl (by rw[hR];exact Le.trans (Le.of_eq (by simp +decide only[St.get,W,aB,gI,↓reduceIte])) (mD _)) ?_ ?_ ?_
  ·simp
  ·simp[lk,aA,hR]
  simp[lk]
 rw[if_neg (by rw[acH q6];decide)] at hU
 iterate 2 first|(apply WP.skip;show WP ..)|apply WP.seq
 refine WP.D bI fun _ z=>?_
 simp +decide only[TF,q6,↓reduceIte]
 refine aj.P (zx _ _) rfl rfl ?_
 simp +decide only[TF,↓reduceIte]
 refine aj.I (ajL r.us r.uc a.id (iQ a.fG r.skew) now hr.nus (by omega)) rfl rfl ?_
 simp +decide only[TF,↓reduceIte]
 refine z _ _ (by kernel_rfl) ?_;clear z
 refine WP.S bI fun _ z=>?_;simp +decide only[TF,↓reduceIte];apply z;clear z
 refine WP.cond rfl (fun q7=>?_) (fun q7=>?_)
 ·rw[if_pos q7] at hU
  have hR:=hY.trans hU
  obtain⟨hu1,hu2⟩:=ahS q7
  refine WP.S bI fun _ z=>?_;simp +decide only[TF,q7,hu1,hu2,↓reduceIte];apply z;clear z
  apply WP.ret
  refine Ends.imp (d:= .aJ [_,_]) (.inr rfl) rfl (by rw[hR];exact Le.trans (Le.of_eq (by simp +decide only[St.get,W,aB,gI,↓reduceIte])) (mD _)) ?_ ?_ ?_
  ·simp
  ·simp[lk,aA,hR]
  simp[lk]
 rw[if_neg (by rw[q7];decide)] at hU
 have hR:=hY.trans hU
 iterate 3 first|(refine WP.D bI fun _ z=>?_;simp +decide only[TF,q7,acC,↓reduceIte];refine z _ _ (by kernel_rfl) ?_;clear z)|(refine WP.S bI fun _ z=>?_;simp +decide only[TF,↓reduceIte];apply z;clear z)|(apply WP.skip;show WP ..)
 apply WP.ret
 refine Ends.imp (d:= .aJ [_,_]) (.inr rfl) rfl (by rw[hR];exact Le.of_eq (by simp +decide only[As.cs,St.get,W,aB,gI,↓reduceIte])) ?_ ?_ ?_
 ·simp
 ·simp[lk,aA,hR]
 simp[lk]
set_option maxRecDepth 20000
theorem Qy {c:UInt8}(h:∀d:Fin 16,He d.val≠c)(n:Int):∀k:Nat,c ∉ wS n k
 | 0=>by simp[wS]
 |k+1=>by
  have h1:=h ⟨hdN n k,PY n k⟩
  simp only[wS,List.mem_cons,not_or]
  exact⟨fun e=>h1 e.symm,Qy h n k⟩
theorem ahU (k s:List UInt8):(58:UInt8) ∉ qx k s:=Qy (by decide) _ 16
theorem afh (k s:List UInt8):(126:UInt8) ∉ qx k s:=Qy (by decide) _ 16
theorem ahV (k s:List UInt8):(Tn (qx k s)).2=0:=by
 have:Tn (qx k s)=_:=aef (sU _).1 (sU _).2
 rw[this]
theorem acI {s:List UInt8}(h:aX s=true):(126:UInt8) ∉ s:=by
 intro hm
 simp only[aX,Bool.and_eq_true,List.all_eq_true] at h
 have:=h.1.1 _ hm
 revert this;decide
theorem afi {k:Key}(h:aX k.id=true)(s:List UInt8):(126:UInt8) ∉ mY k s:=by
 unfold mY
 simp only[List.mem_append,List.mem_singleton,not_or]
 exact⟨⟨acI h,by decide⟩,afh _ _⟩
theorem Us {a:As}{t:List UInt8}{k:Key}(he:dw a=(t,0))(hw:aX k.id=true):mG (t++[126]++mY k t)=some (t,k.id,qx k.sec t,nrm a):=by
 have e1:t++[126]++mY k t=t++126::mY k t:=by simp
 have e2:mY k t=k.id++58::qx k.sec t:=by simp[mY]
 rw[e1]
 unfold mG
 rw[Uo (afi hw t),Option.bind_some]
 simp only[Qo he]
 rw[if_neg (by decide),e2,Uo (ahU _ _),Option.bind_some]
 simp only
 rw[if_neg (by rw[ahV];decide),if_neg (by rw[hw];decide)]
def kQ:List UInt8:=[105,100,112]
def H7:List UInt8:=[109,101]
def ZP:List UInt8:=[114,49]
def PI:kK:=LV kQ [115]
def Zw:At:=⟨[99,110],false,[[97],[98]]⟩
def rM:As:=⟨[97,49],[105,100,112],[109,101],[97,110,110],[114,49],10,30,2,false,[Zw]⟩
theorem Uu:iI [⟨[67,78],false,[[98],[97]]⟩]=[Zw]:=by
 have hs:bT [[98],[97]]=[[97],[98]]:=tq (by decide) (by unfold Asc;decide) (by intro x;simp;exact Or.comm)
 have hl:bg [67,78]=[99,110]:=by decide
 simp[iI,UH,hs,hl,Zw]
theorem acK:nrm lJ=rM:=by
 show As.mk _ _ _ _ _ _ _ _ (iI [⟨[67,78],false,[[98],[97]]⟩]).isEmpty (iI [⟨[67,78],false,[[98],[97]]⟩])=_
 rw[Uu];rfl
theorem XW:lJ.ok:=by
 refine⟨⟨by decide,by decide,by decide,by decide,by decide⟩,⟨by unfold iL;decide,by unfold iL;decide,by unfold iL;decide⟩,by decide,nofun,?_⟩
 intro x hx
 have:x=⟨[67,78],false,[[98],[97]]⟩:=by simpa [lJ] using hx
 subst this
 exact⟨by decide,by decide,nofun,by simp⟩
theorem Uw:bC lJ=0:=by decide +kernel
theorem Zx:Lib.itoa 10=[49,48]∧Lib.itoa 30=[51,48]∧Lib.itoa 2=[50]:=by
 refine⟨?_,?_,?_⟩ <;> simp[Lib.itoa,Lib.decDigits]
def TL:List UInt8:=(dw lJ).1
theorem KU:h_ lJ=bU lT (aF [97,49])++bU fP (aF [105,100,112])++bU gQ (aF [109,101])++bU iJ (aF [97,110,110])++bU jk (aF [114,49])++bU jO [49,48]++bU kY [51,48]++bU oz [50]++Hg Zw:=by
 obtain⟨h1,h2,h3⟩:=Zx
 unfold h_
 show lI lJ++((iI [⟨[67,78],false,[[98],[97]]⟩]).map Hg).flatten=_
 rw[Uu]
 show (bU lT (aF [97,49])++bU fP (aF [105,100,112])++bU gQ (aF [109,101])++bU iJ (aF [97,110,110])++bU jk (aF [114,49])++bU jO (Lib.itoa 10)++bU kY (Lib.itoa 30)++bU oz (Lib.itoa 2))++_=_
 rw[h1,h2,h3]
 simp
theorem Ee:(h_ lJ).length=91:=by rw[KU];decide +kernel
theorem xJ:dw lJ=(TL,0):=by
 have:dw lJ=(h_ lJ,0):=Qn Uw rfl (by rw[Ee];decide)
 unfold TL;rw[this]
theorem agh:TL=h_ lJ:=by
 have:dw lJ=(h_ lJ,0):=Qn Uw rfl (by rw[Ee];decide)
 unfold TL;rw[this]
theorem Ef:TL.length=91:=by rw[agh,Ee]
theorem afj:TL.take 6=[105,100,61,97,49,10]:=by rw[agh,KU];decide +kernel
def afk:As:=⟨[97,49],[105,100,112],[109,101],[97,110,110],[],10,30,2,false,[⟨[67,78],false,[[98],[97]]⟩]⟩
theorem ahW:afk.ok:=by
 refine⟨⟨by decide,by decide,by decide,by decide,by decide⟩,⟨by unfold iL;decide,by unfold iL;decide,by unfold iL;decide⟩,by decide,nofun,?_⟩
 intro x hx
 have:x=⟨[67,78],false,[[98],[97]]⟩:=by simpa [afk] using hx
 subst this
 exact⟨by decide,by decide,nofun,by simp⟩
theorem acL:bC afk=5:=by decide +kernel
def kX:Key:=oL [115]
theorem acM:qE [kX] 10=kX:=by kernel_rfl
theorem acN:eqK (qE [kX] 10) dK=false:=by kernel_rfl
def SL:List UInt8:=TL++[126]++mY kX TL
theorem acO:kP [kX] lJ 10=(SL,0):=by
 have hs:fJ [kX] TL 10=(mY kX TL,0):=by
  unfold fJ;rw[acN,acM];rfl
 rw[V9 (by rw[xJ];rfl) (by rw[xJ];rw[hs];rfl),xJ]
 show (TL++[126]++(fJ [kX] TL 10).1,(0:Int))=_
 rw[hs];rfl
theorem acP:∀k∈[kX],k.ok:=by simp[kX,oL,Key.ok]
theorem ajT:(SL == TL++[126,107,49,58]++qx [115] TL)=true:=by simp[SL,mY,kX,oL]
theorem Qz:SL.length≤1099511627776:=by
 have:=Ef
 have:=sW [115] TL
 simp[SL,mY,kX,oL, *]
theorem acQ:mG SL=some (TL,[107,49],qx [115] TL,rM):=by
 have:=Us (k:=kX) xJ (by decide)
 rw[acK] at this
 exact this
theorem afl:mG []=none:=by
 unfold mG
 rcases rJ 126 [] with⟨h,_⟩ | ⟨i,hi,_⟩
 ·rw[Wp h];rfl
 ·simp at hi
def ML:TS:=[(kQ,PI,0)]
theorem XY:PI.ok:=⟨by decide,by decide,by decide,nofun,by simp[PI,LV,oL,Key.ok]⟩
theorem OM:TS.ok ML:=by
 intro e he
 rw[List.mem_singleton.1 he]
 exact⟨XY,by simp[PI,LV]⟩
theorem acR:TS.ok []:=by simp[TS.ok]
theorem OO:anch [] 0 PI 0=(0,ML,1):=VD (by decide +kernel) (by decide) rfl rfl
def R0:Rc:=⟨H7,0,[],0,[],0⟩
def R1:Rc:=⟨H7,0,[(ZP,(kQ,40),0)],1,[],0⟩
def R2:Rc:=⟨H7,0,[],1,[([97,49],30,0)],1⟩
def R3:Rc:=⟨H7,0,[(ZP,(kQ,40),1)],2,[([97,49],30,0)],1⟩
theorem acS:R0.ok:=⟨GL.nil _,GL.nil _,by decide,by decide,by decide⟩
theorem acT:R1.ok:=⟨⟨by simp[R1],by simp[R1],by simp[R1]⟩,GL.nil _,by decide,by decide,by decide⟩
theorem agi:R2.ok:=⟨GL.nil _,⟨by simp[R2],by simp[R2],by simp[R2]⟩,by decide,by decide,by decide⟩
theorem ajU:R3.ok:=⟨⟨by simp[R3],by simp[R3],by simp[R3]⟩,⟨by simp[R3],by simp[R3],by simp[R3]⟩,by decide,by decide,by decide⟩
theorem acU:newE H7 0=0:=by decide +kernel
theorem XZ:newE H7 601=2:=by decide +kernel
theorem ahX:iQ 0 0=0:=by decide
theorem Zy (now:Int):u_ [] now=[]:=rfl
theorem kD (now:Int):fQ [] now=[]:=by simp[fQ,Zy,Oh]
theorem acV {n:Int}(h:aZ n<40):u_ R1.rq n=R1.rq:=by simp[u_,R1,h]
theorem Ux {n:Int}(h:aZ n<40):fQ R1.rq n=[ZP]:=by
 unfold fQ
 rw[acV h]
 simp[R1,bT]
theorem Zz:qB R0 ZP kQ 40 5=(0,R1):=by
 rw[Um (by decide) (by decide) (by decide) (by show (fQ [] 5).contains ZP=false;rw[kD];rfl) (by show decide (((fQ [] 5).length:Int)≥256)=false;rw[kD];rfl)]
 rfl
theorem ZA:qB R1 ZP kQ 40 5=(7,R1):=agb (by decide) (by decide) (by decide) (by rw[Ux (by decide)];simp)
theorem ZB:qB R2 ZP kQ 40 11=(0,R3):=by
 rw[Um (by decide) (by decide) (by decide) (by show (fQ [] 11).contains ZP=false;rw[kD];rfl) (by show decide (((fQ [] 11).length:Int)≥256)=false;rw[kD];rfl)]
 rfl
theorem ZC:rH R1.rq 10= .slice 1 false [[.str ZP]] none:=by
 unfold rH;rw[Ux (by decide)];rfl
theorem H8 {r:Rc}{now:Int}(hs:r.self=H7)(hk:r.skew=0)(hn:now=10∨now=12):lV ML r SL now=Wq r rM now:=by
 have hf:gY ML rM.iP=some PI:=rfl
 have hc:(f_ PI.f PI.u now 0 != 0)=false:=by rcases hn with rfl|rfl <;> decide
 have ha:kV PI.keys [107,49] now 0=(kX,0):=by rcases hn with rfl|rfl <;> kernel_rfl
 have hw:(f_ rM.jd rM.fG now 0 != 0)=false:=by rcases hn with rfl|rfl <;> decide
 rw[XU acQ hf hc,hs,hk,ha,if_neg (by decide),if_neg (by simp[kX,oL]),if_neg (by decide),if_neg (by rw[hw];decide)]
theorem QA:lV ML R0 [] 10=(bD,4,R0):=agd afl
theorem ZE:lV ML R0 SL 10=(bD,6,R0):=by rw[H8 rfl rfl (.inl rfl)];rfl
theorem ZF:lV ML R1 SL 10=(rM,0,R2):=by
 rw[H8 rfl rfl (.inl rfl),KT (q:=(kQ,40)) rfl,if_neg (by decide),if_neg (by decide)]
 have hu:l7 R1.us R1.uc rM.id (iQ rM.fG R1.skew) 10=(0,[([97,49],30,0)],1):=by
  rw[Wi (by decide) (by decide) rfl];rfl
 rw[hu];rfl
theorem ZG:lV ML R2 SL 10=(bD,6,R2):=by rw[H8 rfl rfl (.inl rfl)];rfl
theorem ZH:lV ML R3 SL 12=(bD,18,R3):=by
 rw[H8 rfl rfl (.inr rfl),KT (q:=(kQ,40)) rfl,if_neg (by decide),if_neg (by decide)]
 have hu:l7 R3.us R3.uc rM.id (iQ rM.fG R3.skew) 12=(18,[([97,49],30,0)],1):=Wh (old:=30) (by decide) (by decide) rfl (by decide)
 rw[hu];rfl
theorem ahY:aG Pr 22 [.str H7,.int .i64 0] [] (.aJ [.ref 3 0,.int .i64 0]) [(2,.map (mE kH R0.rq) R0.rc),(3,.box 107 [.str R0.self,.int .i64 R0.skew,.map 2,.ref 4 0]),(4,.box 171 [.map 5,.int .i64 256]),(5,.map (mE oJ R0.us) R0.uc)]:=by
 have:=Ui H7 0 (by decide) acU
 rw[ahX] at this
 exact this
set_option maxRecDepth 10000
set_option maxHeartbeats 16000000
set_option maxRecDepth 200000
theorem ajV:decide ((TL.length:Int)<6)=false:=by rw[Ef];decide
theorem ajW:(6≤TL.length)=True:=eq_true (by rw[Ef];decide)
theorem sN1:rM.sub=[97,110,110]:=rfl
theorem sN2:rM.ats=[Zw]:=rfl
theorem sN3:rM.nl=false:=rfl
theorem aI1:Zw.name=[99,110]:=rfl
theorem lw1:(((1:Nat):Int) != 1)=false:=by decide
theorem lw2:(((1:Nat):Int) == 1)=true:=by decide
theorem lw3:(((0:Nat):Int) == 0)=true:=by decide
abbrev gJ:List Nat:=[0,1,2,3,5,6,7,8,9,10,11,13,15,16,17,18,19,20,22,23,25,26,55,99,181]
theorem fF:ak Pr 10 [] (.bool true):=by
 refine ak.W Tryz.func10 Tryz.ntmps10 ?_
 simp only[ay]
 refine WP.S gJ fun _ z=>?_;simp +decide only[TF,St.lay,dl,↓reduceIte];apply z;clear z
 refine WP.S gJ fun _ z=>?_
 simp +decide only[TF,↓reduceIte]
 refine aj.I (afV) rfl rfl ?_
 simp +decide only[TF,St.lay,dl,↓reduceIte]
 apply z;clear z
 refine WP.S gJ fun _ z=>?_
 simp +decide only[TF,↓reduceIte]
 refine aj.I (ahY) rfl rfl ?_
 simp +decide only[TF,St.lay,dl,↓reduceIte]
 apply z;clear z
 refine WP.S gJ fun _ z=>?_
 simp +decide only[TF,↓reduceIte]
 refine aj.pure (Uj H7 601 (by decide) (by rw[XZ];decide)) rfl rfl (by simp[As.cs]) ?_
 simp +decide only[TF,XZ,St.lay,dl,↓reduceIte]
 apply z;clear z
 apply WP.seq
 refine WP.S gJ fun _ z=>?_
 simp +decide only[TF,St.lay,dl,↓reduceIte]
 refine aj.pure (z_ kQ [115] (by decide)) rfl rfl (by simp[As.cs]) ?_
 simp +decide only[TF,St.lay,dl,↓reduceIte]
 refine aj.I (JU [] 0 acR PI XY 0) rfl rfl ?_
 simp +decide only[TF,OO,St.lay,dl,↓reduceIte]
 apply z;clear z
 iterate 2 first|(apply WP.skip;show WP ..)|refine WP.cF ?_
 refine WP.S gJ fun _ z=>?_
 simp +decide only[TF,↓reduceIte]
 refine aj.pure (acy) rfl rfl (by simp[As.cs]) ?_
 simp +decide only[TF,St.lay,dl,As.cs,↓reduceIte]
 apply z;clear z
 iterate 2 (refine WP.S gJ fun _ z=>?_;simp +decide only[TF,St.lay,dl,↓reduceIte];apply z;clear z)
 refine WP.S gJ fun _ z=>?_
 simp +decide only[TF,St.lay,dl,↓reduceIte]
 refine aj.pure (jY lJ XW) rfl rfl (by simp[At.cs]) ?_
 simp +decide only[TF,xJ,St.lay,dl,↓reduceIte]
 apply z;clear z
 refine WP.D gJ fun _ z=>?_
 simp +decide only[TF,↓reduceIte]
 refine aj.pure (Qu [115]) rfl rfl (by simp[As.cs]) ?_
 simp +decide only[TF,St.lay,dl,↓reduceIte]
 refine aj.pure (yF [kX] false (by decide) nofun acP lJ XW 10) rfl rfl (by simp[At.cs,Key.cs,oL,kX]) ?_
 simp +decide only[TF,acO,St.lay,dl,↓reduceIte]
 refine z _ _ (by kernel_rfl) ?_;clear z
 apply WP.seq
 refine WP.S gJ fun _ z=>?_
 simp +decide only[TF,St.lay,dl,↓reduceIte]
 refine aj.pure (zX afk ahW) rfl rfl (by simp[At.cs]) ?_
 simp +decide only[TF,acL,ajV,ajW,afj,St.lay,dl,↓reduceIte]
 refine⟨by rw[Ef];decide,?_⟩
 refine aj.pure (aa' [115] TL (by decide) (by rw[Ef];decide)) rfl rfl (by simp[As.cs]) ?_
 simp +decide only[TF,ajT,St.lay,dl,↓reduceIte]
 refine⟨by rw[List.length_append,Ef,sW];decide,?_⟩
 apply z;clear z
 iterate 2 first|(apply WP.skip;show WP ..)|refine WP.cF ?_
 refine WP.S gJ fun _ z=>?_
 simp +decide only[TF,St.lay,dl,↓reduceIte]
 refine aj.I (tZ ML 1 OM R0 acS [] (by decide) 10) rfl rfl ?_
 simp +decide only[TF,QA,St.lay,dl,As.cs,↓reduceIte]
 apply z;clear z
 refine WP.S gJ fun _ z=>?_
 simp +decide only[TF,St.lay,dl,↓reduceIte]
 refine aj.I (tZ ML 1 OM R0 acS SL Qz 10) rfl rfl ?_
 simp +decide only[TF,ZE,St.lay,dl,As.cs,↓reduceIte]
 apply z;clear z
 refine WP.S gJ fun _ z=>?_
 simp +decide only[TF,St.lay,dl,↓reduceIte]
 refine aj.I (yG R0 acS ZP kQ 40 5 (by decide) (by decide)) rfl rfl ?_
 simp +decide only[TF,Zz,St.lay,dl,↓reduceIte]
 refine aj.I (yG R1 acT ZP kQ 40 5 (by decide) (by decide)) rfl rfl ?_
 simp +decide only[TF,ZA,St.lay,dl,↓reduceIte]
 apply z;clear z
 refine WP.S gJ fun _ z=>?_
 simp +decide only[TF,St.lay,dl,↓reduceIte]
 refine aj.I (Ed R1 acT 10) rfl rfl ?_
 simp +decide only[TF,ZC,St.lay,dl,↓reduceIte]
 apply z;clear z
 refine WP.S gJ fun _ z=>?_
 simp +decide only[TF,St.lay,dl,↓reduceIte]
 refine aj.I (tZ ML 1 OM R1 acT SL Qz 10) rfl rfl ?_
 simp +decide only[TF,ZF,sN1,sN2,sN3,aI1,St.lay,dl,As.cs,At.cs,↓reduceIte]
 apply z;clear z
 refine WP.S gJ fun _ z=>?_
 simp +decide only[TF,St.lay,dl,↓reduceIte]
 refine aj.I (tZ ML 1 OM R2 agi SL Qz 10) rfl rfl ?_
 simp +decide only[TF,ZG,St.lay,dl,As.cs,↓reduceIte]
 apply z;clear z
 refine WP.S gJ fun _ z=>?_
 simp +decide only[TF,St.lay,dl,↓reduceIte]
 refine aj.I (yG R2 agi ZP kQ 40 11 (by decide) (by decide)) rfl rfl ?_
 simp +decide only[TF,ZB,St.lay,dl,↓reduceIte]
 apply z;clear z
 refine WP.S gJ fun _ z=>?_
 simp +decide only[TF,St.lay,dl,↓reduceIte]
 refine aj.I (tZ ML 1 OM R3 ajU SL Qz 12) rfl rfl ?_
 simp +decide only[TF,ZH,St.lay,dl,As.cs,↓reduceIte]
 apply z;clear z
 iterate 5 first|(refine WP.S gJ fun _ z=>?_;simp +decide only[TF,lw1,St.lay,dl,↓reduceIte];apply z;clear z)|(apply WP.skip;show WP ..)|refine WP.cF ?_|apply WP.seq
 refine WP.S gJ fun _ z=>?_
 simp +decide only[TF,lw2,St.lay,dl,↓reduceIte]
 refine aj.pure (LX [114] [112] 5 1) rfl rfl (by simp[As.cs]) ?_
 simp +decide only[TF,St.lay,dl,↓reduceIte]
 refine aj.pure (LW 1) rfl rfl (by simp[As.cs]) ?_
 simp +decide only[TF,lw3,St.lay,dl,↓reduceIte]
 apply z;clear z
 apply WP.ret
 exact Ends.P rfl (Le.of_eq (by simp +decide only[St.get,W,↓reduceIte]))
set_option maxRecDepth 10000
abbrev Hd:=List UInt8 × Int
def Wu (o:Option As):D:=match o with|some a=> .aJ [.agg a.cs,.bool true]|none=> .aJ [.agg bD.cs,.bool false]
@[simp] theorem aj0 {S:Nat→Prop}(o:Option As):cZ S (Wu o)↔True:=by cases o <;> simp[Wu]
section
variable {s:List UInt8}
end
def ac0 (l:List Hd):Prop:=∀p∈l,p.1.length≤4096∧iL p.2
theorem ac0.snoc {l:List Hd}{p:Hd}(h:ac0 l)(hp:p.1.length≤4096∧iL p.2):ac0 (l++[p]):=by
 intro x hx
 rcases List.mem_append.1 hx with hx|hx
 ·exact h x hx
 ·rw[List.mem_singleton] at hx;subst hx;exact hp
def Hl (o:Option (List UInt8)):D:= .aJ [.str (o.getD []),.bool o.isSome]
@[simp] theorem aj8 {S:Nat→Prop}(o:Option (List UInt8)):cZ S (Hl o)↔True:=by simp[Hl]
set_option maxRecDepth 10000
set_option maxHeartbeats 4000000
def lgV (v:List UInt8):Bool:=!(decide ((v.length:Int)>300))
def ZI (x:At):Bool:=!(decide ((x.name.length:Int)>300) || decide ((x.vals.length:Int)>8)) && x.vals.all lgV
def lgH (a:As):Bool:=decide ((a.id.length:Int)>300) || (decide ((a.iP.length:Int)>300) || (decide ((a.jI.length:Int)>300) || (decide ((a.sub.length:Int)>300) || (decide ((a.req.length:Int)>300) || decide ((a.ats.length:Int)>8)))))
def iR (a:As):Bool:=if lgH a=true then false else a.ats.all ZI
structure As.big (a:As):Prop where
 nl:a.nl=true→a.ats=[]
 rng:iL a.jd∧iL a.fG∧iL a.lvl
 ats:∀x∈a.ats,x.nl=true→x.vals=[]
theorem ahZ {x:At}(h:ZI x=true):x.name.length≤300∧x.vals.length≤8∧∀v∈x.vals,v.length≤300:=by
 simp only[ZI,lgV,Bool.and_eq_true,Bool.not_eq_true',Bool.or_eq_false_iff,decide_eq_false_iff_not,List.all_eq_true] at h
 obtain⟨⟨h1,h2⟩,h3⟩:=h
 exact⟨by omega,by omega,fun v hv=>by have:=h3 v hv;omega⟩
theorem ac5 {a:As}(h:iR a=true):(a.id.length≤300∧a.iP.length≤300∧a.jI.length≤300∧a.sub.length≤300∧a.req.length≤300)∧a.ats.length≤8∧∀x∈a.ats,ZI x=true:=by
 unfold iR at h
 split at h
 ·cases h
 ·rename_i hh
  rw[Bool.not_eq_true] at hh
  simp only[lgH,Bool.or_eq_false_iff,decide_eq_false_iff_not] at hh
  obtain⟨h1,h2,h3,h4,h5,h6⟩:=hh
  exact⟨⟨by omega,by omega,by omega,by omega,by omega⟩,by omega,List.all_eq_true.1 h⟩
theorem CU {a:As}(hb:a.big)(h:iR a=true):a.ok:=by
 obtain⟨⟨h1,h2,h3,h4,h5⟩,h6,h7⟩:=ac5 h
 refine⟨⟨by omega,by omega,by omega,by omega,by omega⟩,hb.rng,by omega,hb.nl,fun x hx=>?_⟩
 obtain⟨q1,q2,q3⟩:=ahZ (h7 x hx)
 exact⟨by omega,by omega,hb.ats x hx,fun v hv=>by have:=q3 v hv;omega⟩
abbrev jg:List Nat:=[1,2,3,4,38,43,63,72,85]
theorem H9 (a:As)(hb:a.big):ak Pr 9 [.agg [.str a.id,.str a.iP,.str a.jI,.str a.sub,.str a.req,.int .i64 a.jd,.int .i64 a.fG,.int .i64 a.lvl,.slice 2 a.nl (a.ats.map At.cs) none]] (.bool (iR a)):=by
 refine ak.W Tryz.func9 Tryz.ntmps9 ?_
 simp only[ay]
 iterate 2 first|(refine WP.S jg fun _ z=>?_;simp +decide only[TF,↓reduceIte];apply z;clear z)|apply WP.seq
 refine WP.S jg fun _ z=>?_
 refine ah.take 5 fun J hJ=>?_
 simp +decide only[TF,↓reduceIte]
 refine hJ _ _ ?_;clear hJ J
 refine ah.part 9 rfl (fun q1=>?_) (fun q1=>?_)
 ·have hR:iR a=false:=by unfold iR;exact if_pos (by simp only[lgH,q1,Bool.true_or])
  simp +decide only[TF,q1,↓reduceIte]
  apply z;clear z
  iterate 2 first|(refine WP.S jg fun _ z=>?_;simp +decide only[TF,↓reduceIte];apply z;clear z)|refine WP.cT ?_
  apply WP.ret
  exact Ends.P rfl (Le.of_eq (by simp +decide only[St.get,W,hR,↓reduceIte]))
 refine ah.take 6 fun J hJ=>?_
 simp +decide only[TF,q1,↓reduceIte]
 refine hJ _ _ ?_;clear hJ J
 refine ah.part 15 rfl (fun q2=>?_) (fun q2=>?_)
 ·have hR:iR a=false:=by unfold iR;exact if_pos (by simp only[lgH,q2,Bool.or_true,Bool.true_or])
  simp +decide only[TF,q2,↓reduceIte]
  apply z;clear z
  iterate 2 first|(refine WP.S jg fun _ z=>?_;simp +decide only[TF,↓reduceIte];apply z;clear z)|refine WP.cT ?_
  apply WP.ret
  exact Ends.P rfl (Le.of_eq (by simp +decide only[St.get,W,hR,↓reduceIte]))
 refine ah.take 6 fun J hJ=>?_
 simp +decide only[TF,q2,↓reduceIte]
 refine hJ _ _ ?_;clear hJ J
 refine ah.part 21 rfl (fun q3=>?_) (fun q3=>?_)
 ·have hR:iR a=false:=by unfold iR;exact if_pos (by simp only[lgH,q3,Bool.or_true,Bool.true_or])
  simp +decide only[TF,q3,↓reduceIte]
  apply z;clear z
  iterate 2 first|(refine WP.S jg fun _ z=>?_;simp +decide only[TF,↓reduceIte];apply z;clear z)|refine WP.cT ?_
  apply WP.ret
  exact Ends.P rfl (Le.of_eq (by simp +decide only[St.get,W,hR,↓reduceIte]))
 refine ah.take 6 fun J hJ=>?_
 simp +decide only[TF,q3,↓reduceIte]
 refine hJ _ _ ?_;clear hJ J
 refine ah.part 27 rfl (fun q4=>?_) (fun q4=>?_)
 ·have hR:iR a=false:=by unfold iR;exact if_pos (by simp only[lgH,q4,Bool.or_true,Bool.true_or])
  simp +decide only[TF,q4,↓reduceIte]
  apply z;clear z
  iterate 2 first|(refine WP.S jg fun _ z=>?_;simp +decide only[TF,↓reduceIte];apply z;clear z)|refine WP.cT ?_
  apply WP.ret
  exact Ends.P rfl (Le.of_eq (by simp +decide only[St.get,W,hR,↓reduceIte]))
 refine ah.take 6 fun J hJ=>?_
 simp +decide only[TF,q4,↓reduceIte]
 refine hJ _ _ ?_;clear hJ J
 refine ah.part 33 rfl (fun q5=>?_) (fun q5=>?_)
 ·have hR:iR a=false:=by unfold iR;exact if_pos (by simp only[lgH,q5,Bool.or_true,Bool.true_or])
  simp +decide only[TF,q5,↓reduceIte]
  apply z;clear z
  iterate 2 first|(refine WP.S jg fun _ z=>?_;simp +decide only[TF,↓reduceIte];apply z;clear z)|refine WP.cT ?_
  apply WP.ret
  exact Ends.P rfl (Le.of_eq (by simp +decide only[St.get,W,hR,↓reduceIte]))
 simp +decide only[TF,q5,↓reduceIte]
 apply z;clear z
 refine WP.cond rfl (fun q6=>?_) (fun q6=>?_)
 ·have hR:iR a=false:=by unfold iR;exact if_pos (by simp only[lgH,q6,Bool.or_true])
  refine WP.S jg fun _ z=>?_;simp +decide only[TF,q6,↓reduceIte];apply z;clear z
  apply WP.ret
  exact Ends.P rfl (Le.of_eq (by simp +decide only[St.get,W,hR,↓reduceIte]))
 have hH:iR a=a.ats.all ZI:=by unfold iR;exact if_neg (by simp only[lgH,q1,q2,q3,q4,q5,q6,Bool.or_false];decide)
 have h8:a.ats.length≤8:=by have:=of_decide_eq_false q6;omega
 iterate 2 first|(apply WP.skip;show WP ..)|apply WP.seq
 refine WP.S [1,3] fun _ z=>?_;simp +decide only[TF,q6,↓reduceIte];apply z;clear z
 apply WP.block
 refine WP.lp [1] (X:={k:Nat // k≤a.ats.length∧a.ats.all ZI=(a.ats.drop k).all ZI}) (fun x=>match x with| ⟨(k),_⟩=>[(3,.int .i64 k)]) (fun x=>match x with| ⟨(k),_⟩=>[(0,.box 24 [.str a.id,.str a.iP,.str a.jI,.str a.sub,.str a.req,.int .i64 a.jd,.int .i64 a.fG,.int .i64 a.lvl,.slice 2 a.nl (a.ats.map At.cs) none])]) (fun x=>match x with| ⟨(k),_⟩=>a.ats.length - k) (by simp +decide only[W,↓reduceIte];rfl) ?_ ⟨(0),⟨Nat.zero_le _,by simp⟩⟩ ?_
 rotate_left
 ·exact Weak.store (by simp[St.get,lk,W,Le.refl]) (by simp[lk]) (by simp[lk]) (by simp[aA,lk]) (by simp[lk])
 rintro ⟨k,⟨hk,hI⟩⟩
 dsimp only
 simp only[List.cons_append,List.nil_append]
 iterate 2 first|(refine WP.S jg fun _ z=>?_;simp +decide only[TF,↓reduceIte];apply z;clear z)|apply WP.seq
 refine WP.cond rfl (fun q7=>?_) (fun q7=>?_)
 ·have hlt:=aK q7
  have hg:(a.ats.map At.cs)[k]?=some (At.cs a.ats[k]):=getM hlt
  have hnf:=bH hb.nl hlt
  rw[dI hlt,List.all_cons] at hI
  iterate 4 first|(apply WP.skip;show WP ..)|apply WP.block|apply WP.seq
  refine WP.S jg fun _ z=>?_
  refine ah.take 9 fun J hJ=>?_
  simp +decide only[TF,q7,hg,hnf,At.cs,↓reduceIte]
  refine hJ _ _ ?_;clear hJ J
  refine ah.part 54 rfl (fun q8=>?_) (fun q8=>?_)
  ·have hA0:ZI a.ats[k]=false:=by simp only[ZI,q8,Bool.true_or,Bool.not_true,Bool.false_and]
   rw[hA0,Bool.false_and] at hI
   have hR:=hH.trans hI
   simp +decide only[TF,q8,↓reduceIte]
   apply z;clear z
   iterate 2 first|(refine WP.S jg fun _ z=>?_;simp +decide only[TF,↓reduceIte];apply z;clear z)|refine WP.cT ?_
   apply WP.ret
   exact Ends.P rfl (Le.of_eq (by simp +decide only[St.get,W,hR,↓reduceIte]))
  have hn3:=q8
  simp +decide only[TF,hg,q8,At.cs,↓reduceIte]
  apply z;clear z
  refine WP.cond rfl (fun q9=>?_) (fun q9=>?_)
  ·have hA0:ZI a.ats[k]=false:=by simp only[ZI,hn3,q9,Bool.or_true,Bool.not_true,Bool.false_and]
   rw[hA0,Bool.false_and] at hI
   have hR:=hH.trans hI
   refine WP.S jg fun _ z=>?_;simp +decide only[TF,q9,↓reduceIte];apply z;clear z
   apply WP.ret
   exact Ends.P rfl (Le.of_eq (by simp +decide only[St.get,W,hR,↓reduceIte]))
  have hv8:a.ats[k].vals.length≤8:=by have:=of_decide_eq_false q9;omega
  have hA1:ZI a.ats[k]=a.ats[k].vals.all lgV:=by simp only[ZI,hn3,q9,Bool.or_false,Bool.not_false,Bool.true_and]
  apply WP.skip;show WP ..
  refine WP.S [1,3,4] fun _ z=>?_;simp +decide only[TF,q9,↓reduceIte];apply z;clear z
  apply WP.block
  refine WP.lp [1,3] (X:={j:Nat // j≤a.ats[k].vals.length∧a.ats[k].vals.all lgV=(a.ats[k].vals.drop j).all lgV}) (fun x=>match x with| ⟨(j),_⟩=>[(4,.int .i64 j)]) (fun x=>match x with| ⟨(j),_⟩=>[(0,.box 24 [.str a.id,.str a.iP,.str a.jI,.str a.sub,.str a.req,.int .i64 a.jd,.int .i64 a.fG,.int .i64 a.lvl,.slice 2 a.nl (a.ats.map At.cs) none])]) (fun x=>match x with| ⟨(j),_⟩=>a.ats[k].vals.length - j) (by simp +decide only[W,↓reduceIte];rfl) ?_ ⟨(0),⟨Nat.zero_le _,by simp⟩⟩ ?_
  rotate_left
  ·exact Weak.store (by simp[St.get,lk,W,Le.refl]) (by simp[lk,hnf]) (by simp[lk]) (by simp[aA,lk]) (by simp[lk])
  rintro ⟨j,⟨hj,hJ⟩⟩
  dsimp only
  simp only[List.cons_append,List.nil_append]
  iterate 2 first|(refine WP.S jg fun _ z=>?_;simp +decide only[TF,hg,hnf,At.cs,↓reduceIte];apply z;clear z)|apply WP.seq
  refine WP.cond rfl (fun q10=>?_) (fun q10=>?_)
  ·have hlt2:j<a.ats[k].vals.length:=aK q10
   have hg2:(a.ats[k].vals.map fun x=>[D.str x])[j]?=some [D.str a.ats[k].vals[j]]:=getM hlt2
   have YH:=bH (hb.ats _ (List.getElem_mem hlt)) hlt2
   rw[dI hlt2,List.all_cons] at hJ
   iterate 4 first|(refine WP.S jg fun _ z=>?_;simp +decide only[TF,hg,q10,hg2,YH,At.cs,↓reduceIte];apply z;clear z)|(apply WP.skip;show WP ..)|apply WP.block|apply WP.seq
   refine WP.cond rfl (fun q11=>?_) (fun q11=>?_)
   ·have hJ0:lgV a.ats[k].vals[j]=false:=by simp only[lgV,q11,Bool.not_true]
    rw[hJ0,Bool.false_and] at hJ
    rw[hA1,hJ,Bool.false_and] at hI
    have hR:=hH.trans hI
    refine WP.S jg fun _ z=>?_;simp +decide only[TF,q11,↓reduceIte];apply z;clear z
    apply WP.ret
    exact Ends.P rfl (Le.of_eq (by simp +decide only[St.get,W,hR,↓reduceIte]))
   have hJ0:lgV a.ats[k].vals[j]=true:=by simp only[lgV,q11,Bool.not_false]
   rw[hJ0,Bool.true_and] at hJ
   iterate 2 first|(refine WP.R fun _ z=>?_;simp +decide only[TF,q11,↓reduceIte];apply z;clear z)|(apply WP.skip;show WP ..)
   show ∃y,_∧Weak _ _ _
   refine⟨⟨j+1,by omega,hJ⟩,by dsimp only;omega,?_⟩
   exact Weak.store (by simp[St.get,lk,Le.refl,aT hlt2 (show a.ats[k].vals.length≤140737488355328 by omega)]) (by simp[lk,hnf]) (by simp[lk]) (by simp[aA,lk]) (by simp[lk])
  have alU:=aN q10
  rw[eP alU,List.all_nil] at hJ
  rw[hA1,hJ,Bool.true_and] at hI
  iterate 2 first|(refine WP.R fun _ z=>?_;simp +decide only[TF,q10,↓reduceIte];apply z;clear z)|(apply WP.exit;show WP ..)
  show ∃y,_∧Weak _ _ _
  refine⟨⟨k+1,by omega,hI⟩,by dsimp only;omega,?_⟩
  exact Weak.store (by simp[St.get,lk,Le.refl,aT hlt (show a.ats.length≤140737488355328 by omega)]) (by simp[lk,hnf]) (by simp[lk]) (by simp[aA,lk]) (by simp[lk])
 have hge:=aN q7
 rw[eP hge,List.all_nil] at hI
 have hR:=hH.trans hI
 iterate 2 first|(refine WP.S jg fun _ z=>?_;simp +decide only[TF,q7,↓reduceIte];apply z;clear z)|(apply WP.exit;show WP ..)
 apply WP.ret
 exact Ends.P rfl (Le.of_eq (by simp +decide only[St.get,W,hR,↓reduceIte]))
abbrev s_holds:List Nat:=[0,1,4,5,9,17]
theorem adp (ls:List (List UInt8))(nl:Bool)(s:List UInt8)(hn:ls.length≤1099511627776)(hnl:nl=true→ls=[]):ak Pr 36 [.slice 1 nl (ls.map fun x=>[.str x]) none,.str s] (.bool (ls.any fun x=>x == s)):=by
 refine ak.W Tryz.func36 Tryz.ntmps36 ?_
 simp only[ay,Nat.zero_add]
 iterate 2 first|(refine WP.S s_holds fun _ z=>?_;simp +decide only[TF,↓reduceIte];apply z;clear z)|apply WP.seq
 refine WP.S [0,1,5] fun _ z=>?_;simp +decide only[TF,↓reduceIte];apply z;clear z
 apply WP.block
 refine WP.lp [0,1] (X:={k:Nat // k≤ls.length∧(ls.any fun x=>x == s)=((ls.drop k).any fun x=>x == s)}) (fun x=>match x with| ⟨(k),_⟩=>[(5,.int .i64 k)]) (fun x=>match x with| ⟨(k),_⟩=>[]) (fun x=>match x with| ⟨(k),_⟩=>ls.length - k) (by simp +decide only[W,↓reduceIte];rfl) ?_ ⟨(0),⟨Nat.zero_le _,by simp⟩⟩ ?_
 rotate_left
 ·exact Weak.nil (by simp[St.get,lk,W,Le.refl]) (by simp[W])
 rintro ⟨k,⟨hk,hI⟩⟩
 dsimp only
 simp only[List.cons_append,List.nil_append]
 iterate 2 first|(refine WP.S s_holds fun _ z=>?_;simp +decide only[TF,↓reduceIte];apply z;clear z)|apply WP.seq
 refine WP.cond rfl (fun q1=>?_) (fun q1=>?_)
 ·have hlt:=aK q1
  have hg:(ls.map fun x=>[D.str x])[k]?=some [D.str ls[k]]:=getM hlt
  have hnf:=bH hnl hlt
  rw[dI hlt,List.any_cons] at hI
  iterate 4 first|(refine WP.S s_holds fun _ z=>?_;simp +decide only[TF,q1,hg,hnf,↓reduceIte];apply z;clear z)|(apply WP.skip;show WP ..)|apply WP.block|apply WP.seq
  refine WP.cond rfl (fun q2=>?_) (fun q2=>?_)
  ·rw[q2,Bool.true_or] at hI
   refine WP.S s_holds fun _ z=>?_;simp +decide only[TF,q2,↓reduceIte];apply z;clear z
   apply WP.ret
   exact Ends.P rfl (Le.of_eq (by simp +decide only[St.get,W,hI,↓reduceIte]))
  rw[q2,Bool.false_or] at hI
  iterate 2 first|(refine WP.R fun _ z=>?_;simp +decide only[TF,q2,↓reduceIte];apply z;clear z)|(apply WP.skip;show WP ..)
  show ∃y,_∧Weak _ _ _
  refine⟨⟨k+1,by omega,hI⟩,by dsimp only;omega,?_⟩
  exact Weak.nil (by simp[St.get,lk,Le.refl,aT hlt (show ls.length≤140737488355328 by omega),hnf]) (by simp[W])
 have hge:=aN q1
 rw[eP hge,List.any_nil] at hI
 iterate 2 first|(refine WP.S s_holds fun _ z=>?_;simp +decide only[TF,q1,↓reduceIte];apply z;clear z)|(apply WP.exit;show WP ..)
 apply WP.ret
 exact Ends.P rfl (Le.of_eq (by simp +decide only[St.get,W,hI,↓reduceIte]))
theorem OU:bD.ok:=by
 refine⟨⟨by decide,by decide,by decide,by decide,by decide⟩,⟨by unfold iL;decide,by unfold iL;decide,by unfold iL;decide⟩,by decide,fun _=>rfl,nofun⟩
theorem QD {a:As}(hc:bC a=0):(nrm a).ok:=by
 obtain⟨⟨w1,w2,w3,w4,w5⟩,⟨q6,q7,q8⟩,⟨q9,q10⟩,hA⟩:=fO hc
 have a1:=nJ w1;have a2:=nJ w2;have a3:=nJ w3;have a4:=nJ w4;have a5:=DR w5
 have hk:=xw hA
 have hlen:(iI a.ats).length≤32:=by rw[yA];exact hk.len
 refine⟨⟨by show a.id.length≤_;omega,by show a.iP.length≤_;omega,by show a.jI.length≤_;omega,by show a.sub.length≤_;omega,by show a.req.length≤_;omega⟩,⟨⟨?_,?_⟩,⟨?_,?_⟩,⟨?_,?_⟩⟩,?_,fun e=>List.isEmpty_iff.1 e,fun x hx=>?_⟩
 ·show -9223372036854775808≤a.jd;omega
 ·show a.jd≤9223372036854775807;omega
 ·show -9223372036854775808≤a.fG;omega
 ·show a.fG≤9223372036854775807;omega
 ·show -9223372036854775808≤a.lvl;omega
 ·show a.lvl≤9223372036854775807;omega
 ·show (iI a.ats).length≤_;omega
 ·obtain⟨h1,h2,h3,h4,h5⟩:=oC hA hx
  exact⟨Nat.le_trans h1 (by omega),Nat.le_trans h4 (by omega),(fun e=>by rw[h2] at e;cases e),fun v hv=>Nat.le_trans (h5 v hv) (by omega)⟩
theorem KZ (s:List UInt8):(ig s).1.ok:=by
 rcases KO s with⟨_,h⟩ | ⟨_,h,_⟩ | ⟨_,b,h,he,hn,_⟩
 ·rw[h];exact OU
 ·rw[h];exact OU
 ·rw[h,← hn];exact QD (o9 he).1
set_option maxRecDepth 20000
def ah2:List UInt8:=[111,116,104,101,114]
def PO:kK:=LV ah2 [111]
def QE:TS:=[(kQ,PI,0),(ah2,PO,1)]
theorem agj:PO.ok:=⟨by decide,by decide,by decide,nofun,by simp[PO,LV,oL,Key.ok]⟩
theorem QF:TS.ok QE:=by
 intro e he
 simp only[QE,List.mem_cons,List.not_mem_nil,or_false] at he
 rcases he with rfl|rfl
 ·exact⟨XY,by simp[PI,LV]⟩
 ·exact⟨agj,by simp[PO,LV]⟩
theorem aft:anch ML 1 PO 0=(0,QE,2):=VD (by decide +kernel) (by decide) rfl rfl
set_option maxRecDepth 10000
set_option maxHeartbeats 8000000
theorem ade:aG Pr 24 [] [] (.ref 1 0) [(0,.map (yh QE) 2),(1,.box 138 [.map 0])]:=by
 refine aG.of_wp Tryz.func24 rfl (by kernel_rfl) Tryz.ntmps24 (by simp) ?_
 simp only[ay,List.map_nil]
 refine WP.S [0,1,16] fun _ z=>?_;simp +decide only[TF,↓reduceIte];apply z;clear z
 refine WP.S [0,1,16] fun _ z=>?_
 simp +decide only[TF,↓reduceIte]
 refine aj.I (afV) rfl rfl ?_
 simp +decide only[TF,↓reduceIte]
 apply z;clear z
 apply WP.seq
 refine WP.S [0,1,16] fun _ z=>?_
 simp +decide only[TF,↓reduceIte]
 refine aj.pure (z_ kQ [115] (by decide)) rfl rfl (by simp[As.cs]) ?_
 simp +decide only[TF,↓reduceIte]
 refine aj.I (JU [] 0 acR PI XY 0) rfl rfl ?_
 simp +decide only[TF,OO,↓reduceIte]
 refine aj.pure (z_ ah2 [111] (by decide)) rfl rfl (by simp[As.cs]) ?_
 simp +decide only[TF,↓reduceIte]
 refine aj.I (JU ML 1 OM PO agj 0) rfl rfl ?_
 simp +decide only[TF,aft,↓reduceIte]
 apply z;clear z
 iterate 3 first|(refine WP.S [0,1,16] fun _ z=>?_;simp +decide only[TF,↓reduceIte];apply z;clear z)|(apply WP.skip;show WP ..)|refine WP.cF ?_
 apply WP.ret
 refine Ends.imp (.inr rfl) rfl (Le.of_eq (by simp +decide only[St.get,W,↓reduceIte])) ?_ ?_ ?_
 ·simp[lk]
 ·simp[lk,aA]
 simp[lk]
set_option maxRecDepth 20000
structure Opx where
 call:Int
 fG:Int
 now:Int
 id:List UInt8
 part:List UInt8
 a:As
 sec:List UInt8
 s:List UInt8
def Opx.cs (o:Opx):List D:=[.int .i64 o.call,.int .i64 o.fG,.int .i64 o.now,.str o.id,.str o.part,.str o.a.id,.str o.a.iP,.str o.a.jI,.str o.a.sub,.str o.a.req,.int .i64 o.a.jd,.int .i64 o.a.fG,.int .i64 o.a.lvl,.slice 2 o.a.nl (o.a.ats.map At.cs) none,.str o.sec,.str o.s]
def lgO (o:Opx):Bool:=!(decide ((o.id.length:Int)>100) || decide ((o.part.length:Int)>100) || decide ((o.sec.length:Int)>100) || decide ((o.s.length:Int)>2000)) && iR o.a
def ab_ (l:List Opx):Bool:=if (l.take 16).any (fun o=>!(lgO o))=true then false else decide ((l.length:Int)≤16)
structure Opx.ok (o:Opx):Prop where
 id:o.id.length≤100
 part:o.part.length≤100
 sec:o.sec.length≤100
 s:o.s.length≤2000
 a:o.a.ok
theorem aiE {o:Opx}(hb:o.a.big)(h:lgO o=true):o.ok:=by
 simp only[lgO,Bool.and_eq_true,Bool.not_eq_true',Bool.or_eq_false_iff,decide_eq_false_iff_not] at h
 obtain⟨⟨⟨⟨h1,h2⟩,h3⟩,h4⟩,h5⟩:=h
 exact⟨by omega,by omega,by omega,by omega,CU hb h5⟩
theorem af2 {l:List Opx}(hb:∀o∈l,o.a.big)(h:ab_ l=true):l.length≤16∧∀o∈l,o.ok:=by
 unfold ab_ at h
 split at h
 ·cases h
 ·rename_i hh
  have hl:l.length≤16:=by have:=of_decide_eq_true h;omega
  refine⟨hl,fun o ho=>?_⟩
  rw[List.take_of_length_le hl,Bool.not_eq_true,List.any_eq_false] at hh
  have:=hh o ho
  exact aiE (hb o ho) (by simpa using this)
theorem adk {l:List Opx}{k:Nat}(hk:k<l.length)(h6:k<16)(h:lgO l[k]=false):ab_ l=false:=by
 unfold ab_
 rw[if_pos]
 rw[List.any_eq_true]
 exact⟨l[k],by rw[List.mem_take_iff_getElem];exact⟨k,by omega,rfl⟩,by rw[h];rfl⟩
theorem aeK {l:List Opx}{k:Nat}(hk:l.length≤k∨16≤k)(h:((l.take k).take 16).any (fun o=>!(lgO o))=false):ab_ l=decide ((l.length:Int)≤16):=by
 unfold ab_
 rw[if_neg]
 rw[Bool.not_eq_true]
 rcases hk with hk|hk
 ·rw[List.take_of_length_le hk] at h;exact h
 ·rw[List.take_take,Nat.min_eq_left hk] at h;exact h
def adl (o:Opx):List UInt8:=if (o.call != 1)=true then o.s else (kP [oL o.sec] o.a 1).1
def doX (ms:TS)(r:Rc)(o:Opx):As × Int × Rc:=if (o.call == 0)=true then (bD,qB r o.id o.part o.fG o.now) else lV ms r (adl o) o.now
theorem akm {ms:TS}{r:Rc}{o:Opx}(h:(o.call == 0)=true):doX ms r o=(bD,qB r o.id o.part o.fG o.now):=by unfold doX;rw[if_pos h]
theorem ah_ {ms:TS}{r:Rc}{o:Opx}(h:(o.call == 0)=false):doX ms r o=lV ms r (adl o) o.now:=by unfold doX;rw[if_neg (by rw[h];decide)]
theorem agn {k:Key}(hk:k.sec.length≤1000∧k.id.length≤1000)(a:As)(now:Int):(kP [k] a now).1.length≤100000:=by
 unfold kP
 split
 ·simp
 split
 ·simp
 ·have h1:=CP a
  have h2:(fJ [k] (dw a).1 now).1.length≤10000:=by
   unfold fJ
   split
   ·simp
   ·rename_i h
    obtain⟨_,h3,_⟩:=JO (l:=[k]) (now:=now) (by simpa using h)
    have h4:qE [k] now=k:=by simpa using h3
    rw[h4]
    have:=sW k.sec (dw a).1
    simp[mY,this]
    omega
  simp only[List.length_append,List.length_cons,List.length_nil]
  omega
theorem agA {o:Opx}(h:o.ok):(adl o).length≤1099511627776:=by
 unfold adl
 split
 ·have:=h.s;omega
 ·have:=agn (k:=oL o.sec) ⟨by have:=h.sec;show o.sec.length≤_;omega,by show ([107,49]:List UInt8).length≤_;decide⟩ o.a 1
  omega
theorem ah' {s:List UInt8}(h:s.length≤100):∀k∈[oL s],k.ok:=by
 intro k hk
 simp only[List.mem_singleton] at hk;subst hk
 exact⟨by show ([107,49]:List UInt8).length≤_;decide,by show s.length≤_;omega⟩
structure Rc.at (r:Rc) (k:Nat):Prop where
 ok:r.ok
 nrq:r.rq.length≤k
 nus:r.us.length≤k
theorem Rc.at.mono {r:Rc}{k m:Nat}(h:r.at k)(hm:k≤m):r.at m:=⟨h.ok,Nat.le_trans h.nrq hm,Nat.le_trans h.nus hm⟩
theorem aiF {r:Rc}{k:Nat}(h:r.at k)(hk:k≤100)(id p:List UInt8)(u now:Int):(qB r id p u now).2.at (k+1):=by
 unfold qB
 split
 ·have hl:=afq (u_ r.rq now) r.rc id (p,aZ u)
  have hw:(u_ r.rq now).length≤r.rq.length:=List.length_filter_le _ _
  have h1:=h.nrq
  have h2:=h.nus
  refine⟨⟨(h.ok.rq.filter _).put _ _,h.ok.us,h.ok.skew,?_,?_⟩,?_,?_⟩
  ·show (D_ _ _ _ _).length≤100000;omega
  ·show r.us.length≤200;omega
  ·show (D_ _ _ _ _).length≤k+1;omega
  ·show r.us.length≤k+1;omega
 ·exact h.mono (by omega)
theorem aib {α:Type}{l:kN α}{c:Nat}(h:GL l c)(s:List UInt8):GL (KP l s) c:=by
 rw[XP h.keys];exact h.filter _
theorem aic {r:Rc}{k:Nat}(h:r.at k)(hk:k≤100)(a:As)(now:Int):(Wq r a now).2.2.at (k+1):=by
 have hm:=h.mono (Nat.le_succ k)
 unfold Wq
 split
 ·exact hm
 split
 ·exact hm
 split
 ·exact hm
 split
 ·exact hm
 ·rename_i hu
  have hu0:(l7 r.us r.uc a.id (iQ a.fG r.skew) now).1=0:=by simpa using hu
  have e:l7 r.us r.uc a.id (iQ a.fG r.skew) now=(0,D_ r.us r.uc a.id (aZ (iQ a.fG r.skew)),tY r.us r.uc a.id):=by
   unfold l7 at hu0 ⊢
   split
   ·rfl
   ·rename_i h0;rw[if_neg h0] at hu0;exact absurd hu0 h0
  rw[e]
  have h1:=h.nrq;have h2:=h.nus
  have hl:=afq r.us r.uc a.id (aZ (iQ a.fG r.skew))
  have hd:=afr r.rq a.req
  refine⟨⟨aib h.ok.rq _,h.ok.us.put _ _,h.ok.skew,?_,?_⟩,?_,?_⟩
  ·show (KP r.rq a.req).length≤100000;omega
  ·show (D_ _ _ _ _).length≤200;omega
  ·show (KP r.rq a.req).length≤k+1;omega
  ·show (D_ _ _ _ _).length≤k+1;omega
theorem aiG {ms:TS}{r:Rc}{k:Nat}(h:r.at k)(hk:k≤100)(s:List UInt8)(now:Int):(lV ms r s now).2.2.at (k+1):=by
 have hm:=h.mono (Nat.le_succ k)
 unfold lV
 split
 ·exact hm
 split
 ·exact hm
 split
 ·exact hm
 split
 ·exact hm
 split
 ·exact hm
 split
 ·exact hm
 split
 ·exact hm
 ·exact aic h hk _ _
theorem adq {ms:TS}{r:Rc}{k:Nat}(h:r.at k)(hk:k≤100)(o:Opx):(doX ms r o).2.2.at (k+1):=by
 unfold doX
 split
 ·exact aiF h hk _ _ _ _
 ·exact aiG h hk _ _
theorem agX {r:Rc}{a:As}{now:Int}(h:(Wq r a now).2.1=0):∃q,ny r.rq a.req=some q∧aZ now<q.2∧(Wq r a now).1=a∧(Wq r a now).2.2.rq=KP r.rq a.req:=by
 cases hq:ny r.rq a.req with
 |none=>unfold Wq at h;rw[hq] at h;simp at h
 |some q=>
  rw[KT hq] at h ⊢
  split at h
  ·simp at h
  rename_i g1
  rw[if_neg g1]
  split at h
  ·simp at h
  rename_i g2
  rw[if_neg g2]
  split at h
  ·rename_i g3;simp at g3 h;exact absurd h g3
  rename_i g3
  rw[if_neg g3]
  exact⟨q,rfl,by simpa using g1,rfl,rfl⟩
theorem ag' {ms:TS}{r:Rc}{s:List UInt8}{now:Int}(h:(lV ms r s now).2.1=0):∃text key code a p q,mG s=some (text,key,code,a)∧gY ms a.iP=some p∧f_ p.f p.u now 0=0∧(kV p.keys key now r.skew).2=0∧
  code=qx (kV p.keys key now r.skew).1.sec text∧a.jI=r.self∧f_ a.jd a.fG now r.skew=0∧ny r.rq a.req=some q∧aZ now<q.2∧(lV ms r s now).1=a∧(lV ms r s now).2.2.rq=KP r.rq a.req:=by
 cases hd:mG s with
 |none=>rw[agd hd] at h;simp at h
 |some d=>
  obtain⟨text,key,code,a⟩:=d
  cases hf:gY ms a.iP with
  |none=>rw[ajS hd hf] at h;simp at h
  |some p=>
   cases hp:(f_ p.f p.u now 0 != 0) with
   |true=>rw[agf hd hf hp] at h;simp at h hp;exact absurd h hp
   |false=>
    rw[XU hd hf hp] at h ⊢
    split at h
    ·rename_i g;simp at g h;exact absurd h g
    rename_i g1
    rw[if_neg g1]
    split at h
    ·simp at h
    rename_i g2
    rw[if_neg g2]
    split at h
    ·simp at h
    rename_i g3
    rw[if_neg g3]
    split at h
    ·rename_i g;simp at g h;exact absurd h g
    rename_i g4
    rw[if_neg g4]
    obtain⟨q,h1,h2,h3,h4⟩:=agX h
    exact⟨text,key,code,a,p,q,rfl,hf,by simpa using hp,by simpa using g1,by simpa using g2,by simpa using g3,by simpa using g4,h1,h2,h3,h4⟩
theorem afs {k:Key}{id:List UInt8}{t s:Int}(h:(kV [k] id t s).2=0):k.id=id∧kV [k] id t s=(k,0):=by
 rw[N7] at h ⊢
 split at h
 ·rename_i g1
  rw[if_pos g1]
  split at h
  ·rename_i g;simp at g h;exact absurd h g
  ·rename_i g;rw[if_neg g];exact⟨by simpa using g1,rfl⟩
 ·rw[show kV [] id t s=(dK,26) from rfl] at h;simp at h
theorem aiI {s:Int}(h0:0≤s)(h1:s≤600):Xb s=s:=by unfold Xb;repeat' split <;> omega
theorem af5 {f u t s:Int}(h:f_ f u t s=0)(h0:0≤s)(h1:s≤600):f≤aZ t+s∧aZ t - s<u:=by
 unfold f_ at h
 rw[aiI h0 h1] at h
 split at h
 ·cases h
 split at h
 ·cases h
 split at h
 ·cases h
 rename_i g1 g2 g3
 simp at g1 g2 g3
 omega
def ado (a:As):List UInt8:=if a.iP=ah2 then [111] else [115]
theorem afB {s:List UInt8}{p:kK}(h:gY QE s=some p):(s=kQ∧p=PI)∨(s=ah2∧p=PO):=by
 obtain⟨n,hn⟩:=Og h
 simp only[QE,List.mem_cons,Prod.mk.injEq,List.not_mem_nil,or_false] at hn
 rcases hn with⟨h1,h2,_⟩ | ⟨h1,h2,_⟩
 ·exact .inl ⟨h1,h2⟩
 ·exact .inr ⟨h1,h2⟩
theorem aht {s:List UInt8}{p:kK}{key:List UInt8}{t k:Int}(a:As)(h:gY QE a.iP=some p)(h2:(kV p.keys key t k).2=0):key=[107,49]∧(kV p.keys key t k).1.sec=ado a∧p.u=100:=by
 unfold ado
 rcases afB h with⟨h1,rfl⟩ | ⟨h1,rfl⟩
 ·obtain⟨e1,e2⟩:=afs (k:=oL [115]) (by exact h2)
  refine⟨e1.symm,?_,rfl⟩
  show (kV [oL [115]] key t k).1.sec=_
  rw[e2,h1,if_neg (by decide)];rfl
 ·obtain⟨e1,e2⟩:=afs (k:=oL [111]) (by exact h2)
  refine⟨e1.symm,?_,rfl⟩
  show (kV [oL [111]] key t k).1.sec=_
  rw[e2,h1,if_pos rfl];rfl
theorem ahu {rq:RQ}{c:Nat}(hq:GL rq c){id:List UInt8}{q:List UInt8 × Int}{t:Int}(h:ny rq id=some q)(ht:aZ t<q.2):
  id∈fQ rq t∧id ∉ fQ (KP rq id) t∧(fQ (KP rq id) t).length+1=(fQ rq t).length:=by
 obtain⟨n,hn⟩:=aeU h
 have hm:id∈fQ rq t:=Eb.2 ⟨q,n,hn,ht⟩
 have e1:(u_ (KP rq id) t).map (·.1)=((u_ rq t).map (·.1)).filter (fun x=>!(x == id)):=by
  rw[XP hq.keys]
  unfold u_
  rw[List.filter_map,List.filter_filter,List.filter_filter]
  congr 1
  refine List.filter_congr fun x hx=>?_
  simp only[Function.comp_apply]
  exact Bool.and_comm _ _
 have hnd:((u_ rq t).map (·.1)).Nodup:=by
  unfold u_
  exact (List.filter_sublist.map _).nodup hq.keys
 refine⟨hm,?_,?_⟩
 ·unfold fQ
  rw[sZ,e1]
  simp
 ·unfold fQ at hm ⊢
  rw[sZ] at hm
  rw[dL,dL,e1]
  have e2:((u_ rq t).map (·.1)).filter (fun x=>!(x == id))=((u_ rq t).map (·.1)).erase id:=by
   rw[hnd.erase_eq_filter];rfl
  rw[e2,List.length_erase_of_mem hm]
  have:=List.length_pos_of_mem hm
  omega
theorem ahT {r:Rc}{s:List UInt8}{now k:Int}(hr:r.ok)(hself:r.self=H7)(hsk:r.skew=k)(h:(lV QE r s now).2.1=0):∃a r',lV QE r s now=(a,0,r')∧a.ok∧a.iP.length≤1000∧dw a=((dw a).1,0)∧s=(dw a).1++[126,107,49,58]++qx (ado a) (dw a).1∧a.jI=H7∧
  a.jd≤aZ now+k∧aZ now - k<a.fG∧aZ now<100∧0≤a.jd∧a.fG≤1099511627776∧
  (fQ r.rq (aZ now)).any (fun x=>x == a.req)=true∧(fQ r'.rq (aZ now)).any (fun x=>x == a.req)=false∧(fQ r'.rq (aZ now)).length+1=(fQ r.rq (aZ now)).length:=by
 obtain⟨text,key,code,a,p,q,h1,h2,h3,h4,h5,h6,h7,h8,h9,h10,h11⟩:=ag' h
 obtain⟨e1,e2,e3⟩:=aht (s:=s) a h2 h4
 obtain⟨sig,d1,d2,d3,_⟩:=Zu h1
 simp only at d1 d2 d3
 have hdx:=Qp (s:=text) (b:=a) (by rw[d3]) (by rw[d3])
 have hck:=(o9 hdx.1).1
 obtain⟨c1,c2,c3,c4⟩:=fO hck
 have hao:a.ok:=by have:=KZ text;rw[d3] at this;exact this
 have ht:(dw a).1=text:=by rw[hdx.1]
 have he:dw a=((dw a).1,0):=by rw[hdx.1]
 rw[hsk] at h7
 have hk:=hr.skew
 rw[hsk] at hk
 obtain⟨g1,g2⟩:=af5 h7 hk.1 hk.2
 obtain⟨_,g3⟩:=af5 h3 (by decide) (by decide)
 obtain⟨w1,w2,w3⟩:=ahu hr.rq (t:=aZ now) h8 (by rw[yE];exact h9)
 refine⟨a,(lV QE r s now).2.2,Prod.ext h10 (Prod.ext h rfl),hao,?_,he,?_,h6.trans hself,g1,g2,by omega,c2.1,c2.2.2,?_,?_,?_⟩
 ·rcases afB h2 with⟨z,_⟩ | ⟨z,_⟩ <;> rw[z] <;> decide
 ·obtain⟨z1,_⟩:=afA d1
  obtain⟨z2,_⟩:=afA d2
  rw[ht,z1,z2,e1,h5,e2]
  simp
 ·rw[List.any_eq_true];exact⟨_,w1,by simp⟩
 ·rw[h11,List.any_eq_false];intro x hx;simp;rintro rfl;exact w2 hx
 ·rw[h11];exact w3
set_option maxRecDepth 10000
set_option maxHeartbeats 4000000
@[simp] theorem afZ {S:Nat→Prop}(o:Opx):(∀d∈o.cs,cZ S d)↔True:=by
 simp only[iff_true]
 intro d hd
 simp only[Opx.cs,List.mem_cons,List.not_mem_nil,or_false] at hd
 rcases hd with rfl|rfl|rfl|rfl|rfl|rfl|rfl|rfl|rfl|rfl|rfl|rfl|rfl|rfl|rfl|rfl <;> simp[aO]
abbrev aaP:List Nat:=[0,2,3,11,56]
theorem afz (l:List Opx)(nl:Bool)(hnl:nl=true→l=[])(hb:∀o∈l,o.a.big):ak Pr 21 [.slice 16 nl (l.map Opx.cs) none] (.bool (ab_ l)):=by
 refine ak.W Tryz.func21 Tryz.ntmps21 ?_
 simp only[ay]
 iterate 2 first|(refine WP.S aaP fun _ z=>?_;simp +decide only[TF,↓reduceIte];apply z;clear z)|apply WP.seq
 refine WP.S [0,3] fun _ z=>?_;simp +decide only[TF,↓reduceIte];apply z;clear z
 apply WP.block
 refine WP.lp [0] (X:={k:Nat // k≤16∧((l.take k).take 16).any (fun o=>!(lgO o))=false}) (fun x=>match x with| ⟨(k),_⟩=>[(3,.int .i64 k)]) (fun x=>match x with| ⟨(k),_⟩=>[]) (fun x=>match x with| ⟨(k),_⟩=>16 - k) (by simp +decide only[W,↓reduceIte];rfl) ?_ ⟨(0),⟨Nat.zero_le _,by simp⟩⟩ ?_
 rotate_left
 ·exact Weak.nil (by simp[St.get,lk,W,Le.refl]) (by simp[afZ])
 rintro ⟨k,⟨hk,hI⟩⟩
 dsimp only
 simp only[List.cons_append,List.nil_append]
 apply WP.seq
 refine WP.S aaP fun _ z=>?_
 refine ah.take 5 fun J hJ=>?_
 simp +decide only[TF,↓reduceIte]
 refine hJ _ _ ?_;clear hJ J
 refine ah.part 8 rfl (fun q1=>?_) (fun q1=>?_)
 ·have hlt:k<l.length:=aK q1
  have hg:(l.map Opx.cs)[k]?=some (Opx.cs l[k]):=getM hlt
  have hnf:=bH hnl hlt
  simp +decide only[TF,q1,hnf,↓reduceIte]
  apply z;clear z
  refine WP.cond rfl (fun q2=>?_) (fun q2=>?_)
  ·have h6:k<16:=by have:=of_decide_eq_true q2;omega
   iterate 3 first|(apply WP.skip;show WP ..)|apply WP.block|apply WP.seq
   refine WP.S aaP fun _ z=>?_
   refine ah.take 8 fun J hJ=>?_
   simp +decide only[TF,hg,q2,Opx.cs,↓reduceIte]
   refine hJ _ _ ?_;clear hJ J
   refine ah.part 21 rfl (fun q3=>?_) (fun q3=>?_)
   ·have hR:=adk hlt h6 (by simp only[lgO,q3,Bool.true_or,Bool.not_true,Bool.false_and])
    simp +decide only[TF,q3,↓reduceIte]
    apply z;clear z
    iterate 2 first|(refine WP.S aaP fun _ z=>?_;simp +decide only[TF,↓reduceIte];apply z;clear z)|refine WP.cT ?_
    apply WP.ret
    exact Ends.P rfl (Le.of_eq (by simp +decide only[St.get,W,hR,↓reduceIte]))
   have n1:=q3
   refine ah.take 9 fun J hJ=>?_
   simp +decide only[TF,hg,q3,Opx.cs,↓reduceIte]
   refine hJ _ _ ?_;clear hJ J
   refine ah.part 30 rfl (fun q4=>?_) (fun q4=>?_)
   ·have hR:=adk hlt h6 (by simp only[lgO,q4,Bool.true_or,Bool.or_true,Bool.not_true,Bool.false_and])
    simp +decide only[TF,q4,↓reduceIte]
    apply z;clear z
    iterate 2 first|(refine WP.S aaP fun _ z=>?_;simp +decide only[TF,↓reduceIte];apply z;clear z)|refine WP.cT ?_
    apply WP.ret
    exact Ends.P rfl (Le.of_eq (by simp +decide only[St.get,W,hR,↓reduceIte]))
   have n2:=q4
   refine ah.take 9 fun J hJ=>?_
   simp +decide only[TF,hg,q4,Opx.cs,↓reduceIte]
   refine hJ _ _ ?_;clear hJ J
   refine ah.part 39 rfl (fun q5=>?_) (fun q5=>?_)
   ·have hR:=adk hlt h6 (by simp only[lgO,q5,Bool.true_or,Bool.or_true,Bool.not_true,Bool.false_and])
    simp +decide only[TF,q5,↓reduceIte]
    apply z;clear z
    iterate 2 first|(refine WP.S aaP fun _ z=>?_;simp +decide only[TF,↓reduceIte];apply z;clear z)|refine WP.cT ?_
    apply WP.ret
    exact Ends.P rfl (Le.of_eq (by simp +decide only[St.get,W,hR,↓reduceIte]))
   have n3:=q5
   refine ah.take 9 fun J hJ=>?_
   simp +decide only[TF,hg,q5,Opx.cs,↓reduceIte]
   refine hJ _ _ ?_;clear hJ J
   refine ah.part 48 rfl (fun q6=>?_) (fun q6=>?_)
   ·have hR:=adk hlt h6 (by simp only[lgO,q6,Bool.or_true,Bool.not_true,Bool.false_and])
    simp +decide only[TF,q6,↓reduceIte]
    apply z;clear z
    iterate 2 first|(refine WP.S aaP fun _ z=>?_;simp +decide only[TF,↓reduceIte];apply z;clear z)|refine WP.cT ?_
    apply WP.ret
    exact Ends.P rfl (Le.of_eq (by simp +decide only[St.get,W,hR,↓reduceIte]))
   have n4:=q6
   simp +decide only[TF,hg,q6,Opx.cs,↓reduceIte]
   refine aj.pure (H9 l[k].a (hb _ (List.getElem_mem hlt))) rfl rfl (by simp[aO]) ?_
   simp +decide only[TF,↓reduceIte]
   apply z;clear z
   refine WP.cond rfl (fun q7=>?_) (fun q7=>?_)
   ·have n5:iR l[k].a=false:=by simpa using q7
    have hR:=adk hlt h6 (by simp only[lgO,n5,Bool.and_false])
    refine WP.S aaP fun _ z=>?_;simp +decide only[TF,q7,↓reduceIte];apply z;clear z
    apply WP.ret
    exact Ends.P rfl (Le.of_eq (by simp +decide only[St.get,W,hR,↓reduceIte]))
   have n5:iR l[k].a=true:=by simpa using q7
   have hF:lgO l[k]=true:=by simp only[lgO,n1,n2,n3,n4,n5,Bool.or_false,Bool.not_false,Bool.and_true]
   iterate 2 first|(refine WP.R fun _ z=>?_;simp +decide only[TF,q7,↓reduceIte];apply z;clear z)|(apply WP.skip;show WP ..)
   show ∃y,_∧Weak _ _ _
   refine⟨⟨k+1,by omega,?_⟩,by dsimp only;omega,?_⟩
   ·rw[MB hlt,List.take_of_length_le (by rw[List.length_append,List.length_take];simp;omega)];rw[List.take_of_length_le (by rw[List.length_take];omega)] at hI;rw[List.any_append,hI];simp[hF]
   exact Weak.nil (by simp[St.get,lk,Le.refl,aT (show k<16 by omega) (by decide),hnf]) (by simp[afZ])
  have h6:16≤k:=by have:=of_decide_eq_false q2;omega
  have hR:=aeK (l:=l) (.inr h6) hI
  iterate 2 first|(refine WP.S aaP fun _ z=>?_;simp +decide only[TF,q2,↓reduceIte];apply z;clear z)|(apply WP.exit;show WP ..)
  apply WP.ret
  exact Ends.P rfl (Le.of_eq (by simp +decide only[St.get,W,hR,↓reduceIte]))
 have hge:l.length≤k:=aN q1
 have hR:=aeK (l:=l) (.inl hge) hI
 simp +decide only[TF,q1,↓reduceIte]
 apply z;clear z
 iterate 3 first|(refine WP.S aaP fun _ z=>?_;simp +decide only[TF,↓reduceIte];apply z;clear z)|(apply WP.exit;show WP ..)|refine WP.cF ?_
 apply WP.ret
 exact Ends.P rfl (Le.of_eq (by simp +decide only[St.get,W,hR,↓reduceIte]))
theorem ad1 (o:Opx)(ho:o.ok):ak Pr 34 [.agg [.int .i64 o.call,.int .i64 o.fG,.int .i64 o.now,.str o.id,.str o.part,.str o.a.id,.str o.a.iP,.str o.a.jI,.str o.a.sub,.str o.a.req,.int .i64 o.a.jd,.int .i64 o.a.fG,.int .i64 o.a.lvl,.slice 2 o.a.nl (o.a.ats.map At.cs) none,.str o.sec,.str o.s]] (.str (adl o)):=by
 refine ak.W Tryz.func34 Tryz.ntmps34 ?_
 simp only[ay]
 iterate 3 first|(refine WP.S [1,2,3,7] fun _ z=>?_;simp +decide only[TF,↓reduceIte];apply z;clear z)|apply WP.seq
 refine WP.cond rfl (fun q1=>?_) (fun q1=>?_)
 ·have hR:adl o=o.s:=by unfold adl;exact if_pos q1
  refine WP.S [1,2,3,7] fun _ z=>?_;simp +decide only[TF,q1,↓reduceIte];apply z;clear z
  apply WP.ret
  exact Ends.P rfl (Le.of_eq (by simp +decide only[St.get,W,hR,↓reduceIte]))
 have hR:adl o=(kP [oL o.sec] o.a 1).1:=by unfold adl;exact if_neg (by rw[q1];decide)
 apply WP.skip;show WP ..
 refine WP.D [1,2,3,7] fun _ z=>?_
 simp +decide only[TF,q1,↓reduceIte]
 refine aj.pure (Qu o.sec) rfl rfl (by simp[aO]) ?_
 simp +decide only[TF,↓reduceIte]
 refine aj.pure (Uk [oL o.sec] false (by simp) nofun (ah' ho.sec) o.a ho.a 1) rfl rfl (by simp[oL,Key.cs]) ?_
 simp +decide only[TF,↓reduceIte]
 refine z _ _ (by kernel_rfl) ?_;clear z
 refine WP.S [1,2,3,7] fun _ z=>?_;simp +decide only[TF,↓reduceIte];apply z;clear z
 apply WP.ret
 exact Ends.P rfl (Le.of_eq (by simp +decide only[St.get,W,hR,↓reduceIte]))
theorem akt (ms:TS)(c:Nat)(hms:TS.ok ms)(r:Rc)(hr:r.ok)(o:Opx)(ho:o.ok):aG Pr 28 [.ref 3 0,.ref 1 0,.agg [.int .i64 o.call,.int .i64 o.fG,.int .i64 o.now,.str o.id,.str o.part,.str o.a.id,.str o.a.iP,.str o.a.jI,.str o.a.sub,.str o.a.req,.int .i64 o.a.jd,.int .i64 o.a.fG,.int .i64 o.a.lvl,.slice 2 o.a.nl (o.a.ats.map At.cs) none,.str o.sec,.str o.s]] [(0,.map (yh ms) c),(1,.box 138 [.map 0]),(2,.map (mE kH r.rq) r.rc),(3,.box 107 [.str r.self,.int .i64 r.skew,.map 2,.ref 4 0]),(4,.box 171 [.map 5,.int .i64 256]),(5,.map (mE oJ r.us) r.uc)] (.aJ [.agg (doX ms r o).1.cs,.int .i64 (doX ms r o).2.1]) [(0,.map (yh ms) c),(1,.box 138 [.map 0]),(2,.map (mE kH (doX ms r o).2.2.rq) (doX ms r o).2.2.rc),(3,.box 107 [.str (doX ms r o).2.2.self,.int .i64 (doX ms r o).2.2.skew,.map 2,.ref 4 0]),(4,.box 171 [.map 5,.int .i64 256]),(5,.map (mE oJ (doX ms r o).2.2.us) (doX ms r o).2.2.uc)]:=by
 refine aG.of_wp Tryz.func28 rfl (by kernel_rfl) Tryz.ntmps28 (by simp) ?_
 simp only[ay,Nat.reduceAdd,Nat.zero_add,List.map_cons,List.map_nil]
 iterate 3 first|(refine WP.S [0,1,5,6,7,10] fun _ z=>?_;simp +decide only[TF,St.lay,dl,↓reduceIte];apply z;clear z)|apply WP.seq
 refine WP.cond rfl (fun q1=>?_) (fun q1=>?_)
 ·have hR:=akm (ms:=ms) (r:=r) q1
  refine WP.S [0,1,5,6,7,10] fun _ z=>?_
  simp +decide only[TF,q1,St.lay,dl,↓reduceIte]
  refine aj.I (yG r hr o.id o.part o.fG o.now (by have:=ho.id;omega) (by have:=ho.part;omega)) rfl rfl ?_
  simp +decide only[TF,St.lay,dl,↓reduceIte]
  apply z;clear z
  apply WP.ret
  refine Ends.imp (d:= .aJ [_,_]) (.inr rfl) rfl (by rw[hR];exact Le.trans (Le.of_eq (by simp +decide only[St.get,W,aB,gI,↓reduceIte])) (mD _)) ?_ ?_ ?_
  ·simp
  ·simp[lk,aA,hR]
  simp[lk]
 have hR:=ah_ (ms:=ms) (r:=r) q1
 apply WP.skip;show WP ..
 refine WP.D [0,1,5,6,7,10] fun _ z=>?_
 simp +decide only[TF,q1,St.lay,dl,↓reduceIte]
 refine aj.pure (ad1 o ho) rfl rfl (by simp[aO]) ?_
 simp +decide only[TF,St.lay,dl,↓reduceIte]
 refine aj.I (tZ ms c hms r hr (adl o) (agA ho) o.now) rfl rfl ?_
 simp +decide only[TF,As.cs,St.lay,dl,↓reduceIte]
 refine z _ _ (by kernel_rfl) ?_;clear z
 apply WP.ret
 refine Ends.imp (d:= .aJ [_,_]) (.inr rfl) rfl (by rw[hR];exact Le.of_eq (by simp +decide only[As.cs,St.get,W,aB,gI,↓reduceIte])) ?_ ?_ ?_
 ·simp
 ·simp[lk,aA,hR]
 simp[lk]
end Go.Proofs
