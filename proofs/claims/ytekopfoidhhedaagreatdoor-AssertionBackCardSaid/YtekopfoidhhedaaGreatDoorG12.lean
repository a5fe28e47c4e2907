import Derived.Test.YtekopfoidhhedaaGreatDoorG11
import Derived.Test.YtekopfoidhhedaaGreatDoorG09
import Derived.Test.YtekopfoidhhedaaGreatDoorG04
import Derived.Test.YtekopfoidhhedaaGreatDoorG08
set_option linter.unusedVariables false
set_option linter.unusedSimpArgs false
set_option linter.unnecessarySimpa false
set_option maxRecDepth 10000
namespace Go.Proofs
open Go Go.Id
def iQ (t d:Int):Int:=aZ (aZ t+aZ d)
theorem CO (t:Int):0≤aZ t∧aZ t≤1099511627776:=by unfold aZ;split <;> (try split) <;> omega
theorem o_ {t:Int}(h0:0≤t)(h1:t≤1099511627776):aZ t=t:=by unfold aZ;rw[if_neg (by omega),if_neg (by omega)]
theorem yE (t:Int):aZ (aZ t)=aZ t:=o_ (CO t).1 (CO t).2
theorem zZ (t:Int):iQ t 0=aZ t:=by
 have:aZ 0=0:=rfl
 unfold iQ
 rw[this,Int.add_zero,yE]
theorem ahG (t d:Int):IntKind.wrap .i64 (aZ t+aZ d)=aZ t+aZ d:=by
 have:=CO t;have:=CO d
 exact wrap_i64 (by omega) (by omega)
abbrev kN (α:Type):=List (List UInt8 × α × Nat)
section
variable {α:Type}
def ny:kN α→List UInt8→Option α
 | [],_=>none
 |(k,d,_)::es,s=>if s=k then some d else ny es s
def Qs:kN α→List UInt8→α→kN α
 | [],_,_=>[]
 |(k,d,n)::es,s,x=>if s=k then (k,x,n)::es else (k,d,n)::Qs es s x
def D_ (es:kN α)(c:Nat)(s:List UInt8)(x:α):kN α:=match ny es s with|some _=>Qs es s x|none=>es++[(s,x,c)]
def tY (es:kN α)(c:Nat)(s:List UInt8):Nat:=match ny es s with|some _=>c|none=>c+1
def KP:kN α→List UInt8→kN α
 | [],_=>[]
 |(k,d,n)::es,s=>if s=k then es else (k,d,n)::KP es s
def mE (f:α→D)(l:kN α):yO:=l.map fun e=>(e.1,f e.2.1,e.2.2)
theorem KQ (f:α→D):∀(l:kN α) (s:List UInt8),je (mE f l) s=(ny l s).map f
 | [],_=>rfl
 |(k,d,n)::es,s=>by
  show (if s=k then some (f d) else je (mE f es) s)=_
  rw[KQ f es s,ny]
  split <;> rfl
theorem af8 (f:α→D):∀(l:kN α) (s:List UInt8) (x:α),OX (mE f l) s (f x)=mE f (Qs l s x)
 | [],_,_=>rfl
 |(k,d,n)::es,s,x=>by
  show (if s=k then (k,f x,n)::mE f es else (k,f d,n)::OX (mE f es) s (f x))=_
  rw[af8 f es s x,Qs]
  split <;> rfl
theorem af9 (f:α→D)(l:kN α)(c:Nat)(s:List UInt8)(x:α):GR (mE f l) c s (f x)=mE f (D_ l c s x):=by
 unfold GR D_
 rw[KQ]
 cases ny l s with
 |none=>simp[mE]
 |some y=>exact af8 f l s x
theorem acs (f:α→D)(l:kN α)(c:Nat)(s:List UInt8):Ic (mE f l) c s=tY l c s:=by
 unfold Ic tY
 rw[KQ]
 cases ny l s <;> rfl
theorem af_ (f:α→D):∀(l:kN α) (s:List UInt8),C_ (mE f l) s=mE f (KP l s)
 | [],_=>rfl
 |(k,d,n)::es,s=>by
  show (if s=k then mE f es else (k,f d,n)::C_ (mE f es) s)=_
  rw[af_ f es s,KP]
  split <;> rfl
theorem ahH (f:α→D)(l:kN α):(mE f l).length=l.length:=by simp[mE]
theorem KR {f:α→D}{l:kN α}{e:List UInt8 × D × Nat}(h:e∈mE f l):∃x,(e.1,x,e.2.2)∈l∧e.2.1=f x:=by
 obtain⟨⟨a,b,c⟩,hy,rfl⟩:=List.mem_map.1 h
 exact⟨b,hy,rfl⟩
theorem afd (f:α→D)(l:kN α):(mE f l).map (·.1)=l.map (·.1):=by simp[mE]
theorem afe (f:α→D)(l:kN α):(mE f l).map (·.2.2)=l.map (·.2.2):=by simp[mE]
theorem acu (g:Nat→Nat)(f:α→D)(h:∀x,dh g (f x)=f x)(l:kN α):(mE f l).map (fun e=>(e.1,dh g e.2.1,e.2.2))=mE f l:=by
 simp only[mE,List.map_map]
 refine List.map_congr_left fun e _=>?_
 simp[h]
structure GL (l:kN α) (c:Nat):Prop where
 keys:(l.map (·.1)).Nodup
 born:(l.map (·.2.2)).Nodup
 lt:∀e∈l,e.2.2<c
theorem GL.es {l:kN α}{c:Nat}(h:GL l c)(f:α→D):aeu (mE f l,c):=
 ⟨by show ((mE f l).map _).Nodup;rw[afd];exact h.keys,by show ((mE f l).map _).Nodup;rw[afe];exact h.born,fun e he=>by
  obtain⟨x,hx,_⟩:=KR he
  exact h.lt _ hx⟩
theorem GL.nil (c:Nat):GL ([]:kN α) c:=⟨by simp,by simp,by simp⟩
theorem OG:∀{l:kN α} {s:List UInt8},ny l s=none↔s ∉ l.map (·.1)
 | [],s=>by simp[ny]
 |(k,d,n)::es,s=>by
  unfold ny
  split
  ·rename_i e;simp[e]
  ·rename_i e;rw[OG];simp[e]
theorem GL.filter {l:kN α}{c:Nat}(h:GL l c)(p:List UInt8 × α × Nat→Bool):GL (l.filter p) c:=
 ⟨(List.filter_sublist.map _).nodup h.keys,(List.filter_sublist.map _).nodup h.born,fun e he=>h.lt e (List.mem_filter.1 he).1⟩
theorem XP:∀{l:kN α},(l.map (·.1)).Nodup→∀s,KP l s=l.filter fun e=>!(e.1 == s)
 | [],_,_=>rfl
 |(k,d,n)::es,h,s=>by
  rw[List.map_cons,List.nodup_cons] at h
  unfold KP
  split
  ·rename_i e;subst e
   rw[List.filter_cons_of_neg (by simp)]
   refine (List.filter_eq_self.2 fun e he=>?_).symm
   have:e.1≠s:=fun q=>h.1 (q ▸ List.mem_map.2 ⟨e,he,rfl⟩)
   simpa using this
  ·rename_i e
   rw[List.filter_cons_of_pos (by simpa using fun q=>e q.symm),XP h.2 s]
theorem OH:∀(l:kN α) (s:List UInt8) (x:α),(Qs l s x).map (·.1)=l.map (·.1)
 | [],_,_=>rfl
 |(k,d,n)::es,s,x=>by unfold Qs;split <;> simp[OH es s x]
theorem Ea:∀(l:kN α) (s:List UInt8) (x:α),(Qs l s x).map (·.2.2)=l.map (·.2.2)
 | [],_,_=>rfl
 |(k,d,n)::es,s,x=>by unfold Qs;split <;> simp[Ea es s x]
theorem GL.put {l:kN α}{c:Nat}(h:GL l c)(s:List UInt8)(x:α):GL (D_ l c s x) (tY l c s):=by
 unfold D_ tY
 cases hf:ny l s with
 |some y=>
  refine⟨by simp only;rw[OH];exact h.keys,by simp only;rw[Ea];exact h.born,fun e he=>?_⟩
  have:e.2.2∈(Qs l s x).map (·.2.2):=List.mem_map_of_mem he
  rw[Ea,List.mem_map] at this
  obtain⟨f,hf,e2⟩:=this
  have:=h.lt f hf
  simp only at *;omega
 |none=>
  have hn:=OG.1 hf
  refine⟨?_,?_,fun e he=>?_⟩
  ·simp only[List.map_append,List.map_cons,List.map_nil]
   rw[List.nodup_append]
   refine⟨h.keys,by simp,fun a ha b hb=>?_⟩
   simp at hb;subst hb
   rintro rfl;exact hn ha
  ·simp only[List.map_append,List.map_cons,List.map_nil]
   rw[List.nodup_append]
   refine⟨h.born,by simp,fun a ha b hb=>?_⟩
   simp at hb;subst hb
   obtain⟨e,he,rfl⟩:=List.mem_map.1 ha
   have:=h.lt e he
   omega
  ·rcases List.mem_append.1 he with he|he
   ·have:=h.lt e he;simp only at *;omega
   ·simp at he;subst he;simp
end
def kH (x:List UInt8 × Int):D:= .agg [.str x.1,.int .i64 x.2]
def oJ (x:Int):D:= .int .i64 x
abbrev RQ:=kN (List UInt8 × Int)
abbrev US:=kN Int
@[simp] theorem ahI {S:Nat→Prop}(l:RQ):(∀e∈mE kH l,cZ S e.2.1)↔True:=by
 simp only[iff_true]
 intro e he
 obtain⟨x,_,h⟩:=KR he
 rw[h];simp[kH]
@[simp] theorem ahJ {S:Nat→Prop}(l:US):(∀e∈mE oJ l,cZ S e.2.1)↔True:=by
 simp only[iff_true]
 intro e he
 obtain⟨x,_,h⟩:=KR he
 rw[h];simp[oJ]
@[simp] theorem akM {S:Nat→Prop}(l:RQ):(∀(a:List UInt8) (d:D) (n:Nat),(a,d,n)∈mE kH l→cZ S d)↔True:=by
 simp only[iff_true]
 intro a d n he
 exact (ahI (S:=S) l).2 trivial _ he
@[simp] theorem akN {S:Nat→Prop}(l:US):(∀(a:List UInt8) (d:D) (n:Nat),(a,d,n)∈mE oJ l→cZ S d)↔True:=by
 simp only[iff_true]
 intro a d n he
 exact (ahJ (S:=S) l).2 trivial _ he
structure Rc where
 self:List UInt8
 skew:Int
 rq:RQ
 rc:Nat
 us:US
 uc:Nat
structure Rc.ok (r:Rc):Prop where
 rq:GL r.rq r.rc
 us:GL r.us r.uc
 skew:0≤r.skew∧r.skew≤600
 nrq:r.rq.length≤100000
 nus:r.us.length≤200
def u_ (rq:RQ)(now:Int):RQ:=rq.filter fun e=>decide (aZ now<e.2.1.2)
def fQ (rq:RQ)(now:Int):List (List UInt8):=bT ((u_ rq now).map (·.1))
def rH (rq:RQ)(now:Int):D:= .slice 1 (fQ rq now).isEmpty ((fQ rq now).map fun x=>[.str x]) none
@[simp] theorem ail {S:Nat→Prop}(rq:RQ)(now:Int):cZ S (rH rq now)↔True:=by simp[rH]
structure WI (rq:RQ) (now:Int) (seen:List Nat) (ks:List (List UInt8)):Prop where
 nodup:ks.Nodup
 old:∀k∈ks,∃d n,(k,d,n)∈rq∧aZ now<d.2∧n∈seen
 all:∀e∈rq,e.2.2∈seen→aZ now<e.2.1.2→e.1∈ks
theorem WI.nil (rq:RQ)(now:Int):WI rq now [] []:=⟨by simp,by simp,by simp⟩
theorem V6 {α:Type}{l:kN α}(h:(l.map (·.1)).Nodup){k:List UInt8}{x y:α}{n m:Nat}(h1:(k,x,n)∈l)(h2:(k,y,m)∈l):x=y∧n=m:=by
 obtain⟨i,hi,e1⟩:=List.mem_iff_getElem.1 h1
 obtain⟨j,hj,e2⟩:=List.mem_iff_getElem.1 h2
 have:=(List.getElem_inj (i:=i) (j:=j) (h₀:=by simpa using hi) (h₁:=by simpa using hj) h).1 (by simp[e1,e2])
 subst this
 rw[e1] at e2
 cases e2;exact⟨rfl,rfl⟩
theorem H6 {α:Type}{l:kN α}(h:(l.map (·.2.2)).Nodup){k k':List UInt8}{x y:α}{n:Nat}(h1:(k,x,n)∈l)(h2:(k',y,n)∈l):k=k'∧x=y:=by
 obtain⟨i,hi,e1⟩:=List.mem_iff_getElem.1 h1
 obtain⟨j,hj,e2⟩:=List.mem_iff_getElem.1 h2
 have:=(List.getElem_inj (i:=i) (j:=j) (h₀:=by simpa using hi) (h₁:=by simpa using hj) h).1 (by simp[e1,e2])
 subst this
 rw[e1] at e2
 cases e2;exact⟨rfl,rfl⟩
theorem WI.step {rq:RQ}{c:Nat}{now:Int}(hq:GL rq c){seen:List Nat}{ks:List (List UInt8)}(h:WI rq now seen ks){k:List UInt8}{x:List UInt8 × Int}{n:Nat}(he:(k,x,n)∈rq)(hs:n ∉ seen)(hw:decide (aZ now<x.2)=true):WI rq now (seen++[n]) (ks++[k]):=by
 have hw':aZ now<x.2:=of_decide_eq_true hw
 refine⟨?_,fun a ha=>?_,fun f hf hfs hfw=>?_⟩
 ·rw[List.nodup_append]
  refine⟨h.nodup,by simp,fun a ha b hb=>?_⟩
  simp at hb;subst hb
  rintro rfl
  obtain⟨d,m,h3,_,h4⟩:=h.old _ ha
  exact hs ((V6 hq.keys he h3).2 ▸ h4)
 ·rcases List.mem_append.1 ha with ha|ha
  ·obtain⟨d,m,h3,h5,h4⟩:=h.old a ha;exact⟨d,m,h3,h5,by simp[h4]⟩
  ·simp at ha;subst ha;exact⟨x,n,he,hw',by simp⟩
 ·rcases List.mem_append.1 hfs with hfs|hfs
  ·exact List.mem_append_left _ (h.all f hf hfs hfw)
  ·simp at hfs
   obtain⟨a,y,m⟩:=f
   simp only at hfs;subst hfs
   rw[(H6 hq.born hf he).1];simp
theorem WI.skip {rq:RQ}{c:Nat}{now:Int}(hq:GL rq c){seen:List Nat}{ks:List (List UInt8)}(h:WI rq now seen ks){k:List UInt8}{x:List UInt8 × Int}{n:Nat}(he:(k,x,n)∈rq)(hs:n ∉ seen)(hw:decide (aZ now<x.2)=false):WI rq now (seen++[n]) ks:=by
 have hw':¬aZ now<x.2:=of_decide_eq_false hw
 refine⟨h.nodup,fun a ha=>?_,fun f hf hfs hfw=>?_⟩
 ·obtain⟨d,m,h3,h5,h4⟩:=h.old a ha;exact⟨d,m,h3,h5,by simp[h4]⟩
 ·rcases List.mem_append.1 hfs with hfs|hfs
  ·exact h.all f hf hfs hfw
  ·simp at hfs
   obtain⟨a,y,m⟩:=f
   simp only at hfs hfw;subst hfs
   rw[(H6 hq.born hf he).2] at hfw
   exact absurd hfw hw'
theorem WI.len {rq:RQ}{now:Int}{seen:List Nat}{ks:List (List UInt8)}(h:WI rq now seen ks):ks.length≤rq.length:=by
 rw[← List.length_map (f:=fun e:List UInt8 × (List UInt8 × Int) × Nat=>e.1)]
 exact DU h.nodup fun x hx=>by
  obtain⟨d,n,h1,_⟩:=h.old x hx
  exact List.mem_map.2 ⟨_,h1,rfl⟩
theorem V7 {rq:RQ}{c:Nat}(hq:GL rq c)(now:Int):((u_ rq now).map (·.1)).Nodup:=(hq.filter _).keys
theorem Eb {rq:RQ}{now:Int}{k:List UInt8}:k∈fQ rq now↔∃d n,(k,d,n)∈rq∧aZ now<d.2:=by
 unfold fQ u_
 rw[sZ,List.mem_map]
 constructor
 ·rintro ⟨⟨a,d,n⟩,h,rfl⟩
  rw[List.mem_filter] at h
  exact⟨d,n,h.1,by simpa using h.2⟩
 ·rintro ⟨d,n,h,hw⟩
  exact⟨(k,d,n),List.mem_filter.2 ⟨h,by simpa using hw⟩,rfl⟩
theorem WI.done {rq:RQ}{c:Nat}{now:Int}(hq:GL rq c){seen:List Nat}{ks:List (List UInt8)}(h:WI rq now seen ks)(hl:iG (mE kH rq) seen=[]):bT ks=fQ rq now:=by
 refine tq h.nodup (yj (V7 hq now)) fun x=>?_
 show x∈ks↔x∈fQ rq now
 rw[Eb]
 constructor
 ·intro hx
  obtain⟨d,n,h1,h2,_⟩:=h.old x hx
  exact⟨d,n,h1,h2⟩
 ·rintro ⟨d,n,h1,h2⟩
  refine h.all _ h1 ?_ h2
  by_cases hs:n∈seen
  ·exact hs
  ·exfalso
   have:(x,kH d,n)∈iG (mE kH rq) seen:=by unfold iG;rw[List.mem_filter];exact⟨List.mem_map.2 ⟨_,h1,rfl⟩,by simpa using hs⟩
   rw[hl] at this;simp at this
theorem Zn (rq:RQ)(now:Int):(fQ rq now).length≤rq.length:=by
 unfold fQ
 rw[dL,List.length_map]
 exact List.length_filter_le _ _
set_option maxRecDepth 10000
theorem Zo (b:Nat):dW Tryz.prog .neq 105 true (.map b) .bG=some (aH (.bool true)):=by
 simp[dW,isEq,eqNil,Dx]
theorem Zp (b:Nat):dW Tryz.prog .neq 169 true (.map b) .bG=some (aH (.bool true)):=by
 simp[dW,isEq,eqNil,Dz]
def newE (self:List UInt8)(skew:Int):Int:=if (!(aX self))=true then 5 else if decide (iQ skew 0>600)=true then 2 else 0
theorem ahK {self:List UInt8}{skew:Int}(h:aX self=false):newE self skew=5:=by unfold newE;rw[if_pos (by rw[h];rfl)]
theorem ahL {self:List UInt8}{skew:Int}(h:aX self=true)(h2:decide (iQ skew 0>600)=true):newE self skew=2:=by unfold newE;rw[if_neg (by rw[h];decide),if_pos h2]
theorem V8 {self:List UInt8}{skew:Int}:newE self skew=0↔(aX self=true∧decide (iQ skew 0>600)=false):=by
 unfold newE
 split
 ·rename_i h;simp at h;rw[h];simp
 split
 ·rename_i h h2;rw[h2];simp
 ·rename_i h h2;exact⟨fun _=>⟨by simpa using h,by simpa using h2⟩,fun _=>rfl⟩
def kP (l:List Key)(a:As)(now:Int):List UInt8 × Int:=if ((dw a).2 != 0)=true then ([],(dw a).2) else if ((fJ l (dw a).1 now).2 != 0)=true then ([],(fJ l (dw a).1 now).2) else ((dw a).1++[126]++(fJ l (dw a).1 now).1,0)
theorem acv {l:List Key}{a:As}{now:Int}(h:((dw a).2 != 0)=true):kP l a now=([],(dw a).2):=by unfold kP;rw[if_pos h]
theorem acw {l:List Key}{a:As}{now:Int}(h:((dw a).2 != 0)=false)(h2:((fJ l (dw a).1 now).2 != 0)=true):kP l a now=([],(fJ l (dw a).1 now).2):=by unfold kP;rw[if_neg (by rw[h];decide),if_pos h2]
theorem V9 {l:List Key}{a:As}{now:Int}(h:((dw a).2 != 0)=false)(h2:((fJ l (dw a).1 now).2 != 0)=false):kP l a now=((dw a).1++[126]++(fJ l (dw a).1 now).1,0):=by
 unfold kP;rw[if_neg (by rw[h];decide),if_neg (by rw[h2];decide)]
theorem CP (a:As):(dw a).1.length≤4096:=by
 unfold dw
 split
 ·simp
 split
 ·simp
 ·rename_i h;simp at h;show (h_ a).length≤4096;omega
theorem OI {l:List Key}(hl:∀k∈l,k.ok)(s:List UInt8)(now:Int):(fJ l s now).1.length≤1099511627800:=by
 unfold fJ
 split
 ·simp
 ·have h1:=(Vz now hl).1
  have h2:=sW (qE l now).sec s
  simp[mY]
  omega
def oL (s:List UInt8):Key:=⟨[107,49],s,0,50,0,80⟩
def LV (id s:List UInt8):kK:=⟨id,[104,116,116,112,115,58,47,47]++id,[oL s],false,0,100⟩
def lJ:As:=⟨[97,49],[105,100,112],[109,101],[97,110,110],[114,49],10,30,2,false,[⟨[67,78],false,[[98],[97]]⟩]⟩
set_option maxHeartbeats 4000000
theorem ajI (h:55<Tryz.prog.types.size):(Tryz.prog.types[55]'h).size=5:=by kernel_rfl
theorem zx (t d:Int):ak Pr 65 [.int .i64 t,.int .i64 d] (.int .i64 (iQ t d)):=by
 refine ak.W Tryz.func65 Tryz.ntmps65 ?_
 simp only[ay,Nat.zero_add]
 refine WP.S [0,1,4] fun _ z=>?_;simp +decide only[TF,↓reduceIte];apply z;clear z
 refine WP.S [0,1,4] fun _ z=>?_
 simp +decide only[TF,↓reduceIte]
 refine aj.P (sN _) rfl rfl ?_
 simp +decide only[TF,↓reduceIte]
 refine aj.P (sN _) rfl rfl ?_
 simp +decide only[TF,ahG,↓reduceIte]
 refine aj.P (sN _) rfl rfl ?_
 simp +decide only[TF,↓reduceIte]
 apply z;clear z
 apply WP.ret
 exact Ends.P rfl (Le.of_eq (by simp +decide only[St.get,W,iQ,↓reduceIte]))
theorem V_:aG Pr 66 [.int .i64 256] [] (.aJ [.ref 1 0,.int .i64 0]) [(1,.box 171 [.map 0,.int .i64 256]),(0,.map [] 0)]:=by
 refine aG.of_wp Tryz.func66 rfl (by kernel_rfl) Tryz.ntmps66 (by simp) ?_
 simp only[ay,List.map_nil]
 iterate 6 first|(refine WP.S [0,2,3,9] fun _ z=>?_;simp +decide only[TF,DT,↓reduceIte];apply z;clear z)|(apply WP.skip;show WP ..)|refine WP.cF ?_|apply WP.seq
 apply WP.ret
 refine Ends.imp (d:= .aJ [_,_]) (.inr rfl) rfl (Le.of_eq (by simp +decide only[St.get,lk,W,↓reduceIte])) ?_ ?_ ?_
 ·simp[lk]
 ·simp[lk,aA]
 simp[lk]
abbrev pU:List Nat:=[0,1,4,5,6,7,13,15]
theorem Zq (self:List UInt8)(skew:Int)(hs:self.length≤140737488355328)(h1:(!(aX self))=false)(h2:decide (iQ skew 0>600)=false):aG Pr 22 [.str self,.int .i64 skew] [] (.aJ [.ref 3 0,.int .i64 0]) [(2,.map [] 0),(3,.box 107 [.str self,.int .i64 (iQ skew 0),.map 2,.ref 1 0]),(1,.box 171 [.map 0,.int .i64 256]),(0,.map [] 0)]:=by
 refine aG.of_wp Tryz.func22 rfl (by kernel_rfl) Tryz.ntmps22 (by simp) ?_
 simp only[ay,Nat.zero_add,List.map_nil]
 refine WP.S pU fun _ z=>?_;simp +decide only[TF,↓reduceIte];apply z;clear z
 refine WP.S pU fun _ z=>?_
 simp +decide only[TF,↓reduceIte]
 refine aj.P (zx _ _) rfl rfl ?_
 simp +decide only[TF,↓reduceIte]
 apply z;clear z
 apply WP.seq
 refine WP.S pU fun _ z=>?_
 simp +decide only[TF,↓reduceIte]
 refine aj.P (jC self hs) rfl rfl ?_
 simp +decide only[TF,h1,↓reduceIte]
 apply z;clear z
 iterate 6 first|(refine WP.S pU fun _ z=>?_;simp +decide only[TF,h2,↓reduceIte];apply z;clear z)|(apply WP.skip;show WP ..)|refine WP.cF ?_|apply WP.seq
 refine WP.S pU fun _ z=>?_
 simp +decide only[TF,↓reduceIte]
 refine aj.I (V_) rfl rfl ?_
 simp +decide only[TF,↓reduceIte]
 apply z;clear z
 refine WP.S pU fun _ z=>?_;simp +decide only[TF,DT,↓reduceIte];apply z;clear z
 apply WP.ret
 refine Ends.imp (d:= .aJ [_,_]) (.inr rfl) rfl (Le.of_eq (by simp[St.get,lk,W])) ?_ ?_ ?_
 ·simp[lk]
 ·simp[lk,aA]
 simp[lk]
theorem Ui (self:List UInt8)(skew:Int)(hs:self.length≤140737488355328)(h:newE self skew=0):aG Pr 22 [.str self,.int .i64 skew] [] (.aJ [.ref 3 0,.int .i64 0]) [(2,.map [] 0),(3,.box 107 [.str self,.int .i64 (iQ skew 0),.map 2,.ref 4 0]),(4,.box 171 [.map 5,.int .i64 256]),(5,.map [] 0)]:=by
 obtain⟨f,g,h1,h2⟩:=kU [5,4,2,3] (by simp)
 have:=aG.rename h1 (Zq self skew hs (by rw[(V8.1 h).1];rfl) (V8.1 h).2)
 have f0:f 0=5:=h2 0 5 rfl
 have f1:f 1=4:=h2 1 4 rfl
 have f2:f 2=2:=h2 2 2 rfl
 have f3:f 3=3:=h2 3 3 rfl
 simpa [kG,oP,dh,jL,f0,f1,f2,f3] using this
abbrev lK:List Nat:=[0,1,4,5,6,13,15]
theorem Uj (self:List UInt8)(skew:Int)(hs:self.length≤140737488355328)(h:newE self skew≠0):ak Pr 22 [.str self,.int .i64 skew] (.aJ [.aP,.int .i64 (newE self skew)]):=by
 refine ak.W Tryz.func22 Tryz.ntmps22 ?_
 simp only[ay,Nat.zero_add]
 refine WP.S lK fun _ z=>?_;simp +decide only[TF,↓reduceIte];apply z;clear z
 refine WP.S lK fun _ z=>?_
 simp +decide only[TF,↓reduceIte]
 refine aj.P (zx _ _) rfl rfl ?_
 simp +decide only[TF,↓reduceIte]
 apply z;clear z
 apply WP.seq
 refine WP.S lK fun _ z=>?_
 simp +decide only[TF,↓reduceIte]
 refine aj.P (jC self hs) rfl rfl ?_
 simp +decide only[TF,↓reduceIte]
 apply z;clear z
 refine WP.cond rfl (fun q1=>?_) (fun q1=>?_)
 ·simp only[Bool.not_eq_true'] at q1
  have hR:=ahK (skew:=skew) q1
  refine WP.S lK fun _ z=>?_;simp +decide only[TF,q1,↓reduceIte];apply z;clear z
  apply WP.ret
  exact Ends.P (d:= .aJ [_,_]) rfl (Le.of_eq (by simp +decide only[St.get,lk,W,hR,↓reduceIte]))
 simp only[Bool.not_eq_false'] at q1
 iterate 3 first|(refine WP.S lK fun _ z=>?_;simp +decide only[TF,q1,↓reduceIte];apply z;clear z)|(apply WP.skip;show WP ..)|apply WP.seq
 refine WP.cond rfl (fun q2=>?_) (fun q2=>?_)
 ·have hR:=ahL (by assumption) q2
  refine WP.S lK fun _ z=>?_;simp +decide only[TF,q2,↓reduceIte];apply z;clear z
  apply WP.ret
  exact Ends.P (d:= .aJ [_,_]) rfl (Le.of_eq (by simp +decide only[St.get,lk,W,hR,↓reduceIte]))
 exact absurd (V8.2 ⟨by assumption,q2⟩) h
theorem Ec (r:Rc):aG Pr 74 [.ref 3 0] [(2,.map (mE kH r.rq) r.rc),(3,.box 107 [.str r.self,.int .i64 r.skew,.map 2,.ref 4 0]),(4,.box 171 [.map 5,.int .i64 256]),(5,.map (mE oJ r.us) r.uc)] (.bool true) [(2,.map (mE kH r.rq) r.rc),(3,.box 107 [.str r.self,.int .i64 r.skew,.map 2,.ref 4 0]),(4,.box 171 [.map 5,.int .i64 256]),(5,.map (mE oJ r.us) r.uc)]:=by
 refine aG.of_wp Tryz.func74 rfl (by kernel_rfl) Tryz.ntmps74 (by simp) ?_
 simp only[ay,List.map_cons,List.map_nil]
 iterate 2 (refine WP.S [0,2] fun _ z=>?_;simp +decide only[TF,Zo,↓reduceIte];apply z;clear z)
 apply WP.ret
 refine Ends.imp (.inr rfl) rfl (Le.of_eq (by simp +decide only[St.get,W,↓reduceIte])) ?_ ?_ ?_
 ·simp[lk]
 ·simp[lk,aA]
 simp[lk]
theorem zy:ak Pr 74 [.aP] (.bool false):=by
 refine ak.W Tryz.func74 Tryz.ntmps74 ?_
 simp only[ay]
 iterate 2 (refine WP.S [0,2] fun _ z=>?_;simp +decide only[TF,↓reduceIte];apply z;clear z)
 apply WP.ret
 exact Ends.P rfl (Le.of_eq (by simp +decide only[St.get,W,↓reduceIte]))
theorem aff (us:US)(c:Nat):aG Pr 144 [.ref 4 0] [(4,.box 171 [.map 5,.int .i64 256]),(5,.map (mE oJ us) c)] (.bool true) [(4,.box 171 [.map 5,.int .i64 256]),(5,.map (mE oJ us) c)]:=by
 refine aG.of_wp Tryz.func144 rfl (by kernel_rfl) Tryz.ntmps144 (by simp) ?_
 simp only[ay,List.map_cons,List.map_nil]
 iterate 2 (refine WP.S [0,2] fun _ z=>?_;simp +decide only[TF,Zp,↓reduceIte];apply z;clear z)
 apply WP.ret
 refine Ends.imp (.inr rfl) rfl (Le.of_eq (by simp +decide only[St.get,W,↓reduceIte])) ?_ ?_ ?_
 ·simp[lk]
 ·simp[lk,aA]
 simp[lk]
abbrev lM:List Nat:=[0,2,4,6,7,8,9,10,11,18,28]
theorem yF (l:List Key)(nl:Bool)(hn:l.length≤1099511627776)(hnl:nl=true→l=[])(hl:∀k∈l,k.ok)(a:As)(ha:a.ok)(now:Int):ak Pr 19 [.slice 6 nl (l.map Key.cs) none,.agg [.str a.id,.str a.iP,.str a.jI,.str a.sub,.str a.req,.int .i64 a.jd,.int .i64 a.fG,.int .i64 a.lvl,.slice 2 a.nl (a.ats.map At.cs) none],.int .i64 now] (.aJ [.str (kP l a now).1,.int .i64 (kP l a now).2]):=by
 have hlen:=CP a
 have hsl:=OI hl (dw a).1 now
 refine ak.W Tryz.func19 Tryz.ntmps19 ?_
 simp only[ay,Nat.reduceAdd,Nat.zero_add]
 refine WP.S lM fun _ z=>?_;simp +decide only[TF,↓reduceIte];apply z;clear z
 refine WP.S lM fun _ z=>?_
 simp +decide only[TF,↓reduceIte]
 refine aj.P (jY a ha) rfl rfl ?_
 simp +decide only[TF,↓reduceIte]
 apply z;clear z
 iterate 2 first|(refine WP.S lM fun _ z=>?_;simp +decide only[TF,↓reduceIte];apply z;clear z)|apply WP.seq
 refine WP.cond rfl (fun q1=>?_) (fun q1=>?_)
 ·have hR:=acv (l:=l) (now:=now) q1
  refine WP.S lM fun _ z=>?_;simp +decide only[TF,q1,↓reduceIte];apply z;clear z
  apply WP.ret
  exact Ends.P (d:= .aJ [_,_]) rfl (Le.of_eq (by simp +decide only[St.get,lk,W,hR,↓reduceIte]))
 apply WP.skip;show WP ..
 refine WP.S lM fun _ z=>?_
 simp +decide only[TF,q1,↓reduceIte]
 refine aj.P (abd l nl hn hnl hl (dw a).1 (by omega) now) rfl rfl ?_
 simp +decide only[TF,↓reduceIte]
 apply z;clear z
 iterate 2 first|(refine WP.S lM fun _ z=>?_;simp +decide only[TF,↓reduceIte];apply z;clear z)|apply WP.seq
 refine WP.cond rfl (fun q2=>?_) (fun q2=>?_)
 ·have hR:=acw (by assumption) q2
  refine WP.S lM fun _ z=>?_;simp +decide only[TF,q2,↓reduceIte];apply z;clear z
  apply WP.ret
  exact Ends.P (d:= .aJ [_,_]) rfl (Le.of_eq (by simp +decide only[St.get,lk,W,hR,↓reduceIte]))
 have hR:=V9 (by assumption) q2
 apply WP.skip;show WP ..
 refine WP.S lM fun _ z=>?_
 simp +decide only[TF,q2,↓reduceIte]
 refine⟨by omega,by simp only[List.length_append,List.length_cons,List.length_nil];omega,?_⟩
 apply z;clear z
 apply WP.ret
 exact Ends.P (d:= .aJ [_,_]) rfl (Le.of_eq (by simp +decide only[St.get,lk,W,hR,↓reduceIte]))
abbrev jr:List Nat:=[0,2,4,6,7,8,9,10,17,27]
theorem Uk (l:List Key)(nl:Bool)(hn:l.length≤1099511627776)(hnl:nl=true→l=[])(hl:∀k∈l,k.ok)(a:As)(ha:a.ok)(now:Int):ak Pr 20 [.slice 6 nl (l.map Key.cs) none,.agg [.str a.id,.str a.iP,.str a.jI,.str a.sub,.str a.req,.int .i64 a.jd,.int .i64 a.fG,.int .i64 a.lvl,.slice 2 a.nl (a.ats.map At.cs) none],.int .i64 now] (.aJ [.str (kP l a now).1,.int .i64 (kP l a now).2]):=by
 have hlen:=CP a
 have hsl:=OI hl (dw a).1 now
 refine ak.W Tryz.func20 Tryz.ntmps20 ?_
 simp only[ay,Nat.reduceAdd,Nat.zero_add]
 refine WP.S jr fun _ z=>?_;simp +decide only[TF,↓reduceIte];apply z;clear z
 refine WP.S jr fun _ z=>?_
 simp +decide only[TF,↓reduceIte]
 refine aj.P (rU a ha) rfl rfl ?_
 simp +decide only[TF,↓reduceIte]
 apply z;clear z
 iterate 2 first|(refine WP.S jr fun _ z=>?_;simp +decide only[TF,↓reduceIte];apply z;clear z)|apply WP.seq
 refine WP.cond rfl (fun q1=>?_) (fun q1=>?_)
 ·have hR:=acv (l:=l) (now:=now) q1
  refine WP.S jr fun _ z=>?_;simp +decide only[TF,q1,↓reduceIte];apply z;clear z
  apply WP.ret
  exact Ends.P (d:= .aJ [_,_]) rfl (Le.of_eq (by simp +decide only[St.get,lk,W,hR,↓reduceIte]))
 apply WP.skip;show WP ..
 refine WP.S jr fun _ z=>?_
 simp +decide only[TF,q1,↓reduceIte]
 refine aj.P (abe l nl hn hnl hl (dw a).1 (by omega) now) rfl rfl ?_
 simp +decide only[TF,↓reduceIte]
 apply z;clear z
 iterate 2 first|(refine WP.S jr fun _ z=>?_;simp +decide only[TF,↓reduceIte];apply z;clear z)|apply WP.seq
 refine WP.cond rfl (fun q2=>?_) (fun q2=>?_)
 ·have hR:=acw (by assumption) q2
  refine WP.S jr fun _ z=>?_;simp +decide only[TF,q2,↓reduceIte];apply z;clear z
  apply WP.ret
  exact Ends.P (d:= .aJ [_,_]) rfl (Le.of_eq (by simp +decide only[St.get,lk,W,hR,↓reduceIte]))
 have hR:=V9 (by assumption) q2
 apply WP.skip;show WP ..
 refine WP.S jr fun _ z=>?_
 simp +decide only[TF,q2,↓reduceIte]
 refine⟨by omega,by simp only[List.length_append,List.length_cons,List.length_nil];omega,?_⟩
 apply z;clear z
 apply WP.ret
 exact Ends.P (d:= .aJ [_,_]) rfl (Le.of_eq (by simp +decide only[St.get,lk,W,hR,↓reduceIte]))
theorem Qu (s:List UInt8):ak Pr 37 [.str s] (.slice 6 false ([oL s].map Key.cs) none):=by
 refine ak.W Tryz.func37 Tryz.ntmps37 ?_
 simp only[ay]
 iterate 2 (refine WP.S [0,2] fun _ z=>?_;simp +decide only[TF,↓reduceIte];apply z;clear z)
 apply WP.ret
 exact Ends.pure (.inr rfl) rfl (Le.of_eq (by simp +decide only[St.get,W,oL,Key.cs,↓reduceIte])) (by simp[oL,Key.cs])
theorem z_ (id s:List UInt8)(h:id.length≤1000):ak Pr 27 [.str id,.str s] (.agg (LV id s).cs):=by
 refine ak.W Tryz.func27 Tryz.ntmps27 ?_
 simp only[ay,Nat.zero_add]
 refine WP.S [0,1,4] fun _ z=>?_;simp +decide only[TF,↓reduceIte];apply z;clear z
 refine WP.S [0,1,4] fun _ z=>?_
 simp +decide only[TF,↓reduceIte]
 refine⟨by first|omega|(simp only[List.length_append,List.length_cons,List.length_nil];omega),?_⟩
 refine aj.P (Qu s) rfl rfl ?_
 simp +decide only[TF,↓reduceIte]
 apply z;clear z
 apply WP.ret
 exact Ends.pure (.inr rfl) rfl (Le.of_eq (by simp +decide only[W,aB,ajI,LV,kK.cs,Key.cs,oL])) (by simp[kK.cs,LV,oL,Key.cs])
theorem acy:ak Pr 42 [] (.agg lJ.cs):=by
 refine ak.W Tryz.func42 Tryz.ntmps42 ?_
 simp only[ay]
 iterate 2 (refine WP.S [0] fun _ z=>?_;simp +decide only[TF,↓reduceIte];apply z;clear z)
 apply WP.ret
 exact Ends.pure (.inr rfl) rfl (Le.of_eq (by simp +decide only[W,aB,gI,lJ,As.cs,At.cs])) (by simp[lJ,As.cs,At.cs])
@[simp] theorem alJ (t:Nat)(l:RQ):(∀(a:List UInt8) (d:D) (n:Nat),(a,d,n)∈mE kH l→Fr t d)↔True:=by
 simp only[iff_true]
 intro a d n h
 obtain⟨x,_,e⟩:=KR h
 simp only at e;subst e
 exact .agg (by simp)
@[simp] theorem alK (t:Nat)(l:US):(∀(a:List UInt8) (d:D) (n:Nat),(a,d,n)∈mE oJ l→Fr t d)↔True:=by
 simp only[iff_true]
 intro a d n h
 obtain⟨x,_,e⟩:=KR h
 simp only at e;subst e
 exact .int _ _
theorem OJ {rq:RQ}{now:Int}{ks:List (List UInt8)}(h:bT ks=fQ rq now):Le (.slice 1 ks.isEmpty ((bT ks).map fun x=>[D.str x]) none) (rH rq now):=by
 have e2:ks.isEmpty=(fQ rq now).isEmpty:=by
  have:=congrArg List.length h
  rw[dL] at this
  rw[Bool.eq_iff_iff,List.isEmpty_iff_length_eq_zero,List.isEmpty_iff_length_eq_zero,this]
 unfold rH
 rw[← h,← e2] at *
 rw[h,e2]
 exact Le.refl _
def Qv (us:US)(id:List UInt8)(u now:Int):Int:=if aX id=false then 5 else if decide (aZ u≤aZ now)=true then 13 else match ny us id with|some old=>if decide (old>aZ now)=true then 18 else 0|none=>0
def l7 (us:US)(c:Nat)(id:List UInt8)(u now:Int):Int × US × Nat:=if Qv us id u now=0 then (0,D_ us c id (aZ u),tY us c id) else (Qv us id u now,us,c)
theorem acz {us:US}{c:Nat}{id:List UInt8}{u now e:Int}(h:Qv us id u now=e)(he:e≠0):l7 us c id u now=(e,us,c):=by unfold l7;rw[if_neg (by rw[h];exact he),h]
theorem af' {us:US}{c:Nat}{id:List UInt8}{u now:Int}(h:Qv us id u now=0):l7 us c id u now=(0,D_ us c id (aZ u),tY us c id):=by unfold l7;rw[if_pos h]
section
variable {us:US} {c:Nat} {id:List UInt8} {u now:Int}
theorem aga (h:aX id=false):l7 us c id u now=(5,us,c):=acz (by unfold Qv;rw[if_pos h]) (by decide)
theorem acA (h:aX id=true)(h2:decide (aZ u≤aZ now)=true):l7 us c id u now=(13,us,c):=acz (by unfold Qv;rw[if_neg (by rw[h];decide),if_pos h2]) (by decide)
theorem Wh {old:Int}(h:aX id=true)(h2:decide (aZ u≤aZ now)=false)(h3:ny us id=some old)(h4:decide (old>aZ now)=true):l7 us c id u now=(18,us,c):=
 acz (by unfold Qv;rw[if_neg (by rw[h];decide),if_neg (by rw[h2];decide),h3];exact if_pos h4) (by decide)
theorem ahM {old:Int}(h:aX id=true)(h2:decide (aZ u≤aZ now)=false)(h3:ny us id=some old)(h4:decide (old>aZ now)=false):l7 us c id u now=(0,D_ us c id (aZ u),tY us c id):=
 af' (by unfold Qv;rw[if_neg (by rw[h];decide),if_neg (by rw[h2];decide),h3];exact if_neg (by rw[h4];decide))
theorem Wi (h:aX id=true)(h2:decide (aZ u≤aZ now)=false)(h3:ny us id=none):l7 us c id u now=(0,D_ us c id (aZ u),tY us c id):=
 af' (by unfold Qv;rw[if_neg (by rw[h];decide),if_neg (by rw[h2];decide),h3])
end
theorem acB (us:US)(c:Nat)(s:List UInt8)(x:Int):GR (mE oJ us) c s (.int .i64 x)=mE oJ (D_ us c s x):=af9 oJ us c s x
theorem XQ (us:US)(c:Nat)(s:List UInt8):Ic (mE oJ us) c s=tY us c s:=acs oJ us c s
theorem XR (us:US)(s:List UInt8):je (mE oJ us) s=(ny us s).map oJ:=KQ oJ us s
theorem ajJ {us:US}(h:us.length≤200):decide (((mE oJ us).length:Int)<256)=true:=decide_eq_true (by rw[ahH];omega)
def Qw (r:Rc)(id p:List UInt8)(u now:Int):Int:=if (!(aX id) || !(aX p))=true then 5 else if decide (aZ u≤aZ now)=true then 13 else if (fQ r.rq now).contains id=true then 7 else if decide (((fQ r.rq now).length:Int)≥256)=true then 3 else 0
def qB (r:Rc)(id p:List UInt8)(u now:Int):Int × Rc:=if Qw r id p u now=0 then (0,{ r with rq:=D_ (u_ r.rq now) r.rc id (p,aZ u),rc:=tY (u_ r.rq now) r.rc id }) else (Qw r id p u now,r)
theorem Ul {r:Rc}{id p:List UInt8}{u now e:Int}(h:Qw r id p u now=e)(he:e≠0):qB r id p u now=(e,r):=by unfold qB;rw[if_neg (by rw[h];exact he),h]
section
variable {r:Rc} {id p:List UInt8} {u now:Int}
theorem ahN (h:aX id=false):qB r id p u now=(5,r):=Ul (by unfold Qw;rw[if_pos (by rw[h];rfl)]) (by decide)
theorem ahO (h:aX id=true)(h1:aX p=false):qB r id p u now=(5,r):=Ul (by unfold Qw;rw[if_pos (by rw[h,h1];rfl)]) (by decide)
theorem ahP (h:aX id=true)(h1:aX p=true)(h2:decide (aZ u≤aZ now)=true):qB r id p u now=(13,r):=Ul (by unfold Qw;rw[if_neg (by rw[h,h1];decide),if_pos h2]) (by decide)
theorem agb (h:aX id=true)(h1:aX p=true)(h2:decide (aZ u≤aZ now)=false)(h3:(fQ r.rq now).contains id=true):qB r id p u now=(7,r):=Ul (by unfold Qw;rw[if_neg (by rw[h,h1];decide),if_neg (by rw[h2];decide),if_pos h3]) (by decide)
theorem ajK (h:aX id=true)(h1:aX p=true)(h2:decide (aZ u≤aZ now)=false)(h3:(fQ r.rq now).contains id=false)(h4:decide (((fQ r.rq now).length:Int)≥256)=true):qB r id p u now=(3,r):=
 Ul (by unfold Qw;rw[if_neg (by rw[h,h1];decide),if_neg (by rw[h2];decide),if_neg (by rw[h3];decide),if_pos h4]) (by decide)
theorem Um (h:aX id=true)(h1:aX p=true)(h2:decide (aZ u≤aZ now)=false)(h3:(fQ r.rq now).contains id=false)(h4:decide (((fQ r.rq now).length:Int)≥256)=false):
  qB r id p u now=(0,{ r with rq:=D_ (u_ r.rq now) r.rc id (p,aZ u),rc:=tY (u_ r.rq now) r.rc id }):=by
 unfold qB
 rw[if_pos (by unfold Qw;rw[if_neg (by rw[h,h1];decide),if_neg (by rw[h2];decide),if_neg (by rw[h3];decide),if_neg (by rw[h4];decide)])]
end
theorem ahQ (rq:RQ)(c:Nat)(s p:List UInt8)(u:Int):GR (mE kH rq) c s (.agg [.str p,.int .i64 u])=mE kH (D_ rq c s (p,u)):=af9 kH rq c s (p,u)
theorem afg (rq:RQ)(c:Nat)(s:List UInt8):Ic (mE kH rq) c s=tY rq c s:=acs kH rq c s
theorem XT (rq:RQ)(s:List UInt8):je (mE kH rq) s=(ny rq s).map kH:=KQ kH rq s
theorem acC (rq:RQ)(s:List UInt8):C_ (mE kH rq) s=mE kH (KP rq s):=af_ kH rq s
def kF (rq:RQ)(now:Int)(seen:List Nat):RQ:=rq.filter fun e=>!(seen.contains e.2.2) || decide (aZ now<e.2.1.2)
theorem Zr (rq:RQ)(now:Int):kF rq now []=rq:=by
 unfold kF
 exact List.filter_eq_self.2 fun e _=>by simp
theorem Wj {rq:RQ}{c:Nat}{now:Int}(hq:GL rq c){seen:List Nat}{k:List UInt8}{x:List UInt8 × Int}{n:Nat}(he:(k,x,n)∈rq)(hw:k∈fQ rq now):kF rq now (seen++[n])=kF rq now seen:=by
 obtain⟨d,m,h1,h2⟩:=Eb.1 hw
 have h3:=(V6 hq.keys he h1).1
 subst h3
 unfold kF
 refine List.filter_congr fun e hm=>?_
 by_cases hn:e.2.2=n
 ·obtain⟨a,y,m'⟩:=e
  simp only at hn;subst hn
  obtain⟨rfl,rfl⟩:=H6 hq.born hm he
  simp[h2]
 ·simp[hn]
theorem acD {rq:RQ}{c:Nat}{now:Int}(hq:GL rq c){seen:List Nat}{k:List UInt8}{x:List UInt8 × Int}{n:Nat}(he:(k,x,n)∈rq)(hw:k ∉ fQ rq now):KP (kF rq now seen) k=kF rq now (seen++[n]):=by
 have hnw:¬aZ now<x.2:=fun h=>hw (Eb.2 ⟨x,n,he,h⟩)
 unfold kF
 rw[XP (hq.filter _).keys]
 rw[List.filter_filter]
 refine List.filter_congr fun e hm=>?_
 obtain⟨a,y,m⟩:=e
 by_cases hn:m=n
 ·subst hn
  obtain⟨rfl,rfl⟩:=H6 hq.born hm he
  simp[hnw]
 ·have hk:a≠k:=fun e2=>hn (by subst e2;exact (V6 hq.keys hm he).2)
  simp[hn,hk]
theorem Wn {rq:RQ}{now:Int}{seen:List Nat}(hl:iG (mE kH (kF rq now seen)) seen=[]):kF rq now seen=u_ rq now:=by
 unfold kF u_
 refine List.filter_congr fun e hm=>?_
 obtain⟨a,y,m⟩:=e
 by_cases hs:m∈seen
 ·simp[hs]
 ·exfalso
  have h1:(a,y,m)∈kF rq now seen:=List.mem_filter.2 ⟨hm,by simp[hs]⟩
  have:(a,kH y,m)∈iG (mE kH (kF rq now seen)) seen:=by
   unfold iG;rw[List.mem_filter];exact⟨List.mem_map.2 ⟨_,h1,rfl⟩,by simpa using hs⟩
  rw[hl] at this;simp at this
theorem Zt {rq:RQ}{now:Int}{seen:List Nat}{e:List UInt8 × (List UInt8 × Int) × Nat}(h:e∈kF rq now seen):e∈rq:=(List.mem_filter.1 h).1
theorem Un {rq:RQ}{now:Int}{seen:List Nat}{k:List UInt8}{x:List UInt8 × Int}{n:Nat}(h:(k,kH x,n)∈iG (mE kH (kF rq now seen)) seen):(iG (mE kH (kF rq now (seen++[n]))) (seen++[n])).length<(iG (mE kH (kF rq now seen)) seen).length:=by
 have e:iG (mE kH (kF rq now (seen++[n]))) (seen++[n])=iG (mE kH (kF rq now seen)) (seen++[n]):=by
  unfold iG mE kF
  rw[List.filter_map,List.filter_map,List.filter_filter,List.filter_filter]
  congr 1
  refine List.filter_congr fun e _=>?_
  simp only[Function.comp,List.contains_eq_mem,List.mem_append,List.mem_singleton]
  by_cases h1:e.2.2∈seen <;> by_cases h2:e.2.2=n <;> simp[h1,h2]
 rw[e]
 have:=P9 h
 exact this
set_option maxRecDepth 10000
set_option maxHeartbeats 4000000
theorem Ed (r:Rc)(hr:r.ok)(now:Int):aG Pr 31 [.ref 3 0,.int .i64 now] [(2,.map (mE kH r.rq) r.rc),(3,.box 107 [.str r.self,.int .i64 r.skew,.map 2,.ref 4 0]),(4,.box 171 [.map 5,.int .i64 256]),(5,.map (mE oJ r.us) r.uc)] (rH r.rq now) [(2,.map (mE kH r.rq) r.rc),(3,.box 107 [.str r.self,.int .i64 r.skew,.map 2,.ref 4 0]),(4,.box 171 [.map 5,.int .i64 256]),(5,.map (mE oJ r.us) r.uc)]:=by
 have he:=hr.rq.es kH
 have hnr:=hr.nrq
 refine aG.of_wp Tryz.func31 rfl (by kernel_rfl) Tryz.ntmps31 (by simp) ?_
 simp only[ay,Nat.zero_add,List.map_cons,List.map_nil]
 refine WP.sr [0,1] (by kernel_rfl) fun K hK=>?_
 simp +decide only[TF,↓reduceIte]
 refine hK _ _ ?_;clear hK K
 refine WP.seq ?_
 refine WP.sr [0,1,10] (by kernel_rfl) fun K hK=>?_
 simp +decide only[TF,↓reduceIte]
 refine aj.imp (Ec r) rfl rfl (by simp[lk,aA]) (by simp[lk]) (by simp[lk]) ?_
 simp +decide only[TF,↓reduceIte]
 refine hK _ _ ?_;clear hK K
 refine WP.cond (b:=false) (by rfl) nofun (fun _=>?_)
 refine WP.skip ?_
 show WP _ _ _ _ _ _
 refine WP.sr [0,1,5] (by kernel_rfl) fun K hK=>?_
 simp +decide only[TF,↓reduceIte]
 refine hK _ _ ?_;clear hK K
 refine WP.seq ?_
 refine WP.sr [1,5,15] (by kernel_rfl) fun K hK=>?_
 simp +decide only[TF,↓reduceIte]
 refine hK _ _ ?_;clear hK K
 refine WP.block ?_
 refine WP.lp [1,15] (X:={x:(List Nat) × (List (List UInt8)) // match x with|(seen,ks)=>WI r.rq now seen ks}) (fun x=>match x with| ⟨(seen,ks),_⟩=>[(5,.slice 1 (ks).isEmpty ((ks).map (fun x=>[D.str x])) (some 11))]) (fun x=>match x with| ⟨(seen,ks),_⟩=>[(11,.aS 9 1 ks.length),(6,.dS 2 r.rc seen r.rc),(2,.map (mE kH r.rq) r.rc),(3,.box 107 [.str r.self,.int .i64 r.skew,.map 2,.ref 4 0]),(4,.box 171 [.map 5,.int .i64 256]),(5,.map (mE oJ r.us) r.uc)]) (fun x=>match x with| ⟨(seen,ks),_⟩=>(iG (mE kH r.rq) seen).length) (by simp +decide only[W,↓reduceIte];rfl) ?_ ⟨([],[]),WI.nil _ _⟩ ?_
 rotate_left
 · refine Weak.trans (Weak.store (st':=⟨[(1,.int .i64 now),(15,.ref 6 0),(5,.slice 0 true [] none)],[(6,.dS 2 r.rc [] r.rc),(2,.map (mE kH r.rq) r.rc),(3,.box 107 [.str r.self,.int .i64 r.skew,.map 2,.ref 4 0]),(4,.box 171 [.map 5,.int .i64 256]),(5,.map (mE oJ r.us) r.uc)]⟩) (by simp[St.get,lk,W,Le.refl]) (by simp[lk]) (by simp[lk]) (by simp[aA,lk]) (by simp[lk])) ?_;refine Weak.trans (Weak.ghost 11 9 1 (F':=[(1,.int .i64 now),(15,.ref 6 0),(5,.slice 1 true [] (some 11))]) (σ':=[(6,.dS 2 r.rc [] r.rc),(2,.map (mE kH r.rq) r.rc),(3,.box 107 [.str r.self,.int .i64 r.skew,.map 2,.ref 4 0]),(4,.box 171 [.map 5,.int .i64 256]),(5,.map (mE oJ r.us) r.uc)]) (by simp[lk]) (by simp[Ac,zC]) (by simp[Dq,Rj,UF,zC])) ?_;exact Weak.store (by simp[St.get,lk,Le.refl]) (by simp[lk]) (by simp[lk]) (by simp[aA,lk]) (by simp[lk])
 rintro ⟨⟨seen,ks⟩,hM⟩
 dsimp only
 simp only[List.cons_append,List.nil_append]
 dsimp only at hM
 have hks:=hM.len
 refine WP.seq ?_
 refine WP.IB (by kernel_rfl) rfl rfl rfl rfl rfl rfl (fun e h=>he.lt e h) (Nat.le_refl _) ?_ ?_
 ·
  intro hl0 K hK
  simp +decide only[TF,↓reduceIte]
  refine hK _ _ ?_;clear hK K
  show WP _ _ _ _ _ _
  refine WP.seq ?_
  refine WP.cond (b:=false) (by rfl) nofun (fun _=>?_)
  refine WP.exit ?_
  show WP _ _ _ _ _ _
  rcases ks with _ | ⟨a0,k0⟩
  ·
   have hS:=hM.done hr.rq hl0
   have hL:=OJ hS
   rw[Oh] at hL
   refine WP.sr [5] (by kernel_rfl) fun K hK=>?_
   simp +decide only[TF,↓reduceIte]
   refine aj.pure (abn) rfl rfl (by simp[-List.map_take]) ?_
   simp +decide only[TF,↓reduceIte]
   refine hK _ _ ?_;clear hK K
   refine WP.sr [4] (by kernel_rfl) fun K hK=>?_
   simp +decide only[TF,↓reduceIte]
   refine hK _ _ ?_;clear hK K
   refine WP.ret ?_
   refine Ends.imp (.inr rfl) rfl ((Le.trans (Le.fg _) hL)) ?_ ?_ ?_
   · simp
   · simp[lk,aA]
   · simp[lk]
  ·
   have hS:=hM.done hr.rq hl0
   have hL:=OJ hS
   refine WP.weak (st':=⟨[(5,.slice 1 false ((a0::k0).map fun x=>[D.str x]) (some 11))],[(11,.aS 9 1 (a0::k0).length),(2,.map (mE kH r.rq) r.rc),(3,.box 107 [.str r.self,.int .i64 r.skew,.map 2,.ref 4 0]),(4,.box 171 [.map 5,.int .i64 256]),(5,.map (mE oJ r.us) r.uc)]⟩) (Weak.store (by simp[St.get,lk,Le.refl]) (by simp[lk]) (by simp[lk]) (by simp[aA,lk]) (by simp[lk])) ?_
   refine WP.weak (st':=⟨[(5,.arr 11 1 (a0::k0).length)],[(11,.arr 9 ((a0::k0).map .str)),(2,.map (mE kH r.rq) r.rc),(3,.box 107 [.str r.self,.int .i64 r.skew,.map 2,.ref 4 0]),(4,.box 171 [.map 5,.int .i64 256]),(5,.map (mE oJ r.us) r.uc)]⟩) ?_ ?_
   ·
    rw[← afW (a0::k0)]
    exact Weak.adN 11 9 1 ((a0::k0).map fun x=>[D.str x]) 5 (by simp[St.get,lk]) (by simp[lk]) (ajt 11 _) (by simp[lk]) (by intro b hb;simp[lk,hb]) (by simp[BFr,aho]) (by simp) (by simp[lk,agP])
   refine WP.sr [5] (by kernel_rfl) fun K hK=>?_
   simp +decide only[TF,↓reduceIte]
   refine aj.imp (JV 11 (a0::k0) (by omega)) rfl rfl (by simp[lk,aA]) (by simp[lk]) (by simp[lk]) ?_
   simp +decide only[TF,↓reduceIte]
   refine hK _ _ ?_;clear hK K
   refine WP.sr [4] (by kernel_rfl) fun K hK=>?_
   simp +decide only[TF,↓reduceIte]
   refine hK _ _ ?_;clear hK K
   refine WP.weak (st':=⟨[(4,.slice 1 false ((bT (a0::k0)).map fun x=>[D.str x]) (some 11))],[(11,.aS 9 1 (bT (a0::k0)).length),(2,.map (mE kH r.rq) r.rc),(3,.box 107 [.str r.self,.int .i64 r.skew,.map 2,.ref 4 0]),(4,.box 171 [.map 5,.int .i64 256]),(5,.map (mE oJ r.us) r.uc)]⟩) ?_ ?_
   ·
    refine Weak.trans (Weak.keep [4]) ?_
    simp only[keep,ins,W,↓reduceIte,Nat.reduceEqDiff]
    exact Weak.agB 11 9 1 ((bT (a0::k0)).map fun x=>[D.str x]) 4 (by simp[St.get,lk,dL]) (by simp[lk,afW]) (ahm _) (by simp) (by simp (decide:=true) [ArF,ArD,dL]) (by simp) (by intro i hi;simp_all[lk]) (by simp[lk]) (by simp[aA])
   refine WP.ret ?_
   refine Ends.imp (.inr rfl) rfl ((Le.trans (Le.fg _) hL)) ?_ ?_ ?_
   · simp
   · simp[lk,aA]
   · simp[lk]
 ·
  intro e hel K hK
  obtain⟨⟨k,x,n⟩,hkm,rfl⟩:=List.mem_map.1 (tu hel).1
  have hns:=(tu hel).2
  simp +decide only[TF,↓reduceIte]
  refine hK _ _ ?_;clear hK K
  show WP _ _ _ _ _ _
  refine WP.seq ?_
  refine WP.cond (b:=true) (by rfl) (fun _=>?_) nofun
  refine WP.skip ?_
  show WP _ _ _ _ _ _
  refine WP.block ?_
  refine WP.seq ?_
  refine WP.Eu (by kernel_rfl) rfl rfl rfl rfl rfl rfl (tu hel).1 he.born ?_
  ·
   intro K hK
   simp +decide only[TF,kH,↓reduceIte]
   refine hK _ _ ?_;clear hK K
   show WP _ _ _ _ _ _
   refine WP.sd [1,5,6,15,25] (by kernel_rfl) (by kernel_rfl) fun K hK=>?_
   simp +decide only[TF,↓reduceIte]
   refine aj.pure (zx _ _) rfl rfl (by simp[-List.map_take]) ?_
   simp +decide only[TF,zZ,↓reduceIte]
   refine hK _ _ (by kernel_rfl) ?_
   clear hK K
   refine WP.cond (b:=_) rfl (fun q1=>?_) (fun q1=>?_)
   ·
    refine WP.region (by kernel_rfl) fun K hK=>?_
    simp +decide only[TF,q1,↓reduceIte]
    repeat (refine⟨⟨by (try simp only[List.length_append,List.length_map,List.length_cons,List.length_nil]);omega,by (try simp only[List.length_append,List.length_map,List.length_cons,List.length_nil]);omega⟩,?_⟩)
    refine hK _ _ ?_;clear hK K
    show ∃y,_∧Weak _ _ _
    refine⟨⟨(seen++[n],ks++[k]),hM.step hr.rq hkm hns q1⟩,P9 hel,?_⟩
    exact Weak.store (by simp[St.get,lk,Le.refl,aa2,-List.append_assoc]) (by simp[lk,-List.append_assoc]) (by simp[lk,-List.map_append,-List.mem_append,-List.append_assoc]) (by simp[aA,lk]) (by simp[lk])
   ·
    refine WP.skip ?_
    show ∃y,_∧Weak _ _ _
    refine⟨⟨(seen++[n],ks),hM.skip hr.rq hkm hns q1⟩,P9 hel,?_⟩
    exact Weak.store (by simp[St.get,lk,W,Le.refl,-List.append_assoc,q1]) (by simp[lk,-List.append_assoc]) (by simp[lk,-List.map_append,-List.mem_append,-List.append_assoc]) (by simp[aA,lk]) (by simp[lk])
theorem LW (now:Int):ak Pr 31 [.aP,.int .i64 now] (.slice 0 true [] none):=by
 refine ak.W Tryz.func31 Tryz.ntmps31 ?_
 simp only[ay,Nat.zero_add]
 iterate 2 first|(refine WP.S [0,1,4,10] fun _ z=>?_;simp +decide only[TF,↓reduceIte];apply z;clear z)|apply WP.seq
 refine WP.S [0,1,4,10] fun _ z=>?_
 simp +decide only[TF,↓reduceIte]
 refine aj.P (zy) rfl rfl ?_
 simp +decide only[TF,↓reduceIte]
 apply z;clear z
 iterate 2 first|(refine WP.S [0,1,4,10] fun _ z=>?_;simp +decide only[TF,↓reduceIte];apply z;clear z)|refine WP.cT ?_
 apply WP.ret
 exact Ends.P rfl (Le.of_eq (by simp +decide only[St.get,W,↓reduceIte]))
theorem ahR (us:US)(c:Nat)(t:Int)(h:us.length≤200):aG Pr 146 [.ref 4 0,.int .i64 t] [(4,.box 171 [.map 5,.int .i64 256]),(5,.map (mE oJ us) c)] (.bool true) [(4,.box 171 [.map 5,.int .i64 256]),(5,.map (mE oJ us) c)]:=by
 have hlt:=ajJ h
 refine aG.of_wp Tryz.func146 rfl (by kernel_rfl) Tryz.ntmps146 (by simp) ?_
 simp only[ay,Nat.zero_add,List.map_cons,List.map_nil]
 iterate 2 first|(refine WP.S [0,1,4] fun _ z=>?_;simp +decide only[TF,↓reduceIte];apply z;clear z)|(refine WP.D [0,1,4] fun _ z=>?_;simp +decide only[TF,hlt,↓reduceIte];refine z _ _ (by kernel_rfl) ?_;clear z)
 apply WP.ret
 refine Ends.imp (.inr rfl) rfl (Le.of_eq (by simp +decide only[St.get,W,↓reduceIte])) ?_ ?_ ?_
 ·simp[lk]
 ·simp[lk,aA]
 simp[lk]
abbrev l9:List Nat:=[0,1,2,3,8,9,10,11,12,15,29,33,37,44]
theorem ajL (us:US)(c:Nat)(id:List UInt8)(u now:Int)(h:us.length≤200)(hid:id.length≤140737488355328):aG Pr 87 [.ref 4 0,.str id,.int .i64 u,.int .i64 now] [(4,.box 171 [.map 5,.int .i64 256]),(5,.map (mE oJ us) c)] (.int .i64 (l7 us c id u now).1) [(4,.box 171 [.map 5,.int .i64 256]),(5,.map (mE oJ (l7 us c id u now).2.1) (l7 us c id u now).2.2)]:=by
 refine aG.of_wp Tryz.func87 rfl (by kernel_rfl) Tryz.ntmps87 (by simp) ?_
 simp only[ay,Nat.reduceAdd,Nat.zero_add,List.map_cons,List.map_nil]
 iterate 2 first|(refine WP.S l9 fun _ z=>?_;simp +decide only[TF,↓reduceIte];apply z;clear z)|apply WP.seq
 refine WP.S l9 fun _ z=>?_
 simp +decide only[TF,↓reduceIte]
 refine aj.I (aff us c) rfl rfl ?_
 simp +decide only[TF,↓reduceIte]
 apply z;clear z
 iterate 2 first|(apply WP.skip;show WP ..)|refine WP.cF ?_
 refine WP.S l9 fun _ z=>?_
 simp +decide only[TF,↓reduceIte]
 refine aj.P (zx _ _) rfl rfl ?_
 simp +decide only[TF,zZ,↓reduceIte]
 refine aj.P (zx _ _) rfl rfl ?_
 simp +decide only[TF,zZ,↓reduceIte]
 apply z;clear z
 rcases hF:ny us id with _|old
 ·iterate 3 first|(refine WP.S l9 fun _ z=>?_;simp +decide only[TF,hF,XR,↓reduceIte];apply z;clear z)|apply WP.block|apply WP.seq
  refine WP.S l9 fun _ z=>?_
  simp +decide only[TF,↓reduceIte]
  refine aj.P (Px id (by omega)) rfl rfl ?_
  simp +decide only[TF,↓reduceIte]
  apply z;clear z
  refine WP.cond rfl (fun q1=>?_) (fun q1=>?_)
  ·have hR:=aga (us:=us) (c:=c) (u:=u) (now:=now) (by simpa using q1)
   refine WP.S l9 fun _ z=>?_;simp +decide only[TF,q1,↓reduceIte];apply z;clear z
   apply WP.ret
   refine Ends.imp (.inr rfl) rfl (Le.of_eq (by simp +decide only[St.get,W,hR,↓reduceIte])) ?_ ?_ ?_
   ·simp
   ·simp[lk,aA,hR]
   simp[lk]
  have hw:aX id=true:=by simpa using q1
  refine WP.S l9 fun _ z=>?_;simp +decide only[TF,q1,↓reduceIte];apply z;clear z
  refine WP.cond rfl (fun q2=>?_) (fun q2=>?_)
  ·have hR:=acA (us:=us) (c:=c) hw q2
   refine WP.S l9 fun _ z=>?_;simp +decide only[TF,q2,↓reduceIte];apply z;clear z
   apply WP.ret
   refine Ends.imp (.inr rfl) rfl (Le.of_eq (by simp +decide only[St.get,W,hR,↓reduceIte])) ?_ ?_ ?_
   ·simp
   ·simp[lk,aA,hR]
   simp[lk]
  have h13:=q2
  have hR:=Wi (c:=c) hw h13 hF
  iterate 2 first|(refine WP.S l9 fun _ z=>?_;simp +decide only[TF,q2,↓reduceIte];apply z;clear z)|refine WP.cF ?_
  refine WP.S l9 fun _ z=>?_
  simp +decide only[TF,↓reduceIte]
  refine aj.I (ahR us c _ h) rfl rfl ?_
  simp +decide only[TF,↓reduceIte]
  apply z;clear z
  iterate 4 first|(refine WP.S l9 fun _ z=>?_;simp +decide only[TF,acB,XQ,↓reduceIte];apply z;clear z)|(apply WP.skip;show WP ..)|refine WP.cF ?_
  apply WP.ret
  refine Ends.imp (.inr rfl) rfl (Le.of_eq (by simp +decide only[St.get,W,hR,↓reduceIte])) ?_ ?_ ?_
  ·simp
  ·simp[lk,aA,hR]
  simp[lk]
 iterate 3 first|(refine WP.S l9 fun _ z=>?_;simp +decide only[TF,hF,XR,oJ,↓reduceIte];apply z;clear z)|apply WP.block|apply WP.seq
 refine WP.S l9 fun _ z=>?_
 simp +decide only[TF,↓reduceIte]
 refine aj.P (Px id (by omega)) rfl rfl ?_
 simp +decide only[TF,↓reduceIte]
 apply z;clear z
 refine WP.cond rfl (fun q3=>?_) (fun q3=>?_)
 ·have hR:=aga (us:=us) (c:=c) (u:=u) (now:=now) (by simpa using q3)
  refine WP.S l9 fun _ z=>?_;simp +decide only[TF,q3,↓reduceIte];apply z;clear z
  apply WP.ret
  refine Ends.imp (.inr rfl) rfl (Le.of_eq (by simp +decide only[St.get,W,hR,↓reduceIte])) ?_ ?_ ?_
  ·simp
  ·simp[lk,aA,hR]
  simp[lk]
 have hw:aX id=true:=by simpa using q3
 refine WP.S l9 fun _ z=>?_;simp +decide only[TF,q3,↓reduceIte];apply z;clear z
 refine WP.cond rfl (fun q4=>?_) (fun q4=>?_)
 ·have hR:=acA (us:=us) (c:=c) hw q4
  refine WP.S l9 fun _ z=>?_;simp +decide only[TF,q4,↓reduceIte];apply z;clear z
  apply WP.ret
  refine Ends.imp (.inr rfl) rfl (Le.of_eq (by simp +decide only[St.get,W,hR,↓reduceIte])) ?_ ?_ ?_
  ·simp
  ·simp[lk,aA,hR]
  simp[lk]
 have h13:=q4
 refine WP.S l9 fun _ z=>?_;simp +decide only[TF,q4,↓reduceIte];apply z;clear z
 refine WP.cond rfl (fun q5=>?_) (fun q5=>?_)
 ·have hR:=Wh (c:=c) hw h13 hF q5
  refine WP.S l9 fun _ z=>?_;simp +decide only[TF,q5,↓reduceIte];apply z;clear z
  apply WP.ret
  refine Ends.imp (.inr rfl) rfl (Le.of_eq (by simp +decide only[St.get,W,hR,↓reduceIte])) ?_ ?_ ?_
  ·simp
  ·simp[lk,aA,hR]
  simp[lk]
 have hR:=ahM (c:=c) hw h13 hF q5
 iterate 5 first|(refine WP.S l9 fun _ z=>?_;simp +decide only[TF,q5,acB,XQ,↓reduceIte];apply z;clear z)|(apply WP.skip;show WP ..)|refine WP.cF ?_
 apply WP.ret
 refine Ends.imp (.inr rfl) rfl (Le.of_eq (by simp +decide only[St.get,W,hR,↓reduceIte])) ?_ ?_ ?_
 ·simp
 ·simp[lk,aA,hR]
 simp[lk]
theorem yG (r:Rc)(hr:r.ok)(id p:List UInt8)(u now:Int)(hid:id.length≤140737488355328)(hp:p.length≤140737488355328):aG Pr 38 [.ref 3 0,.str id,.str p,.int .i64 u,.int .i64 now] [(2,.map (mE kH r.rq) r.rc),(3,.box 107 [.str r.self,.int .i64 r.skew,.map 2,.ref 4 0]),(4,.box 171 [.map 5,.int .i64 256]),(5,.map (mE oJ r.us) r.uc)] (.int .i64 (qB r id p u now).1) [(2,.map (mE kH (qB r id p u now).2.rq) (qB r id p u now).2.rc),(3,.box 107 [.str (qB r id p u now).2.self,.int .i64 (qB r id p u now).2.skew,.map 2,.ref 4 0]),(4,.box 171 [.map 5,.int .i64 256]),(5,.map (mE oJ (qB r id p u now).2.us) (qB r id p u now).2.uc)]:=by
 have he:=hr.rq.es kH
 have hnr:=hr.nrq
 have hwl:=Zn r.rq now
 refine aG.of_wp Tryz.func38 rfl (by kernel_rfl) Tryz.ntmps38 (by simp) ?_
 simp only[ay,Nat.reduceAdd,Nat.zero_add,List.map_cons,List.map_nil]
 refine WP.sr [0,1,2,3,4] (by kernel_rfl) fun K hK=>?_
 simp +decide only[TF,↓reduceIte]
 refine hK _ _ ?_;clear hK K
 refine WP.seq ?_
 refine WP.sr [0,1,2,3,4,15] (by kernel_rfl) fun K hK=>?_
 simp +decide only[TF,↓reduceIte]
 refine aj.imp (Ec r) rfl rfl (by simp[lk,aA]) (by simp[lk]) (by simp[lk]) ?_
 simp +decide only[TF,↓reduceIte]
 refine hK _ _ ?_;clear hK K
 refine WP.cond (b:=false) (by rfl) nofun (fun _=>?_)
 refine WP.skip ?_
 show WP _ _ _ _ _ _
 refine WP.seq ?_
 refine WP.sr [0,1,2,3,4,23] (by kernel_rfl) fun K hK=>?_
 simp +decide only[TF,↓reduceIte]
 refine aj.pure (jC id hid) rfl rfl (by simp[-List.map_take]) ?_
 refine ah.take 2 fun J hJ=>?_
 simp +decide only[TF,↓reduceIte]
 refine hJ _ _ ?_;clear hJ J
 refine ah.part 19 rfl (fun q1=>?_) (fun q1=>?_)
 ·
  simp only[Bool.not_eq_true'] at q1
  have hR:=ahN (r:=r) (p:=p) (u:=u) (now:=now) (by simpa using q1)
  simp +decide only[TF,q1,↓reduceIte]
  refine hK _ _ ?_;clear hK K
  refine WP.cond (b:=true) (by rfl) (fun _=>?_) nofun
  refine WP.sr [10] (by kernel_rfl) fun K hK=>?_
  simp +decide only[TF,↓reduceIte]
  refine hK _ _ ?_;clear hK K
  refine WP.ret ?_
  refine Ends.imp (.inr rfl) rfl (Le.of_eq (by simp +decide only[St.get,W,hR,↓reduceIte])) ?_ ?_ ?_
  · simp
  · simp[lk,aA,hR]
  · simp[lk]
 ·
  simp only[Bool.not_eq_false'] at q1
  have hw1:aX id=true:=(by simpa using q1)
  simp +decide only[TF,q1,↓reduceIte]
  refine aj.pure (jC p hp) rfl rfl (by simp[-List.map_take]) ?_
  simp +decide only[TF,↓reduceIte]
  refine hK _ _ ?_;clear hK K
  refine WP.cond (b:=_) rfl (fun q2=>?_) (fun q2=>?_)
  ·
   have hR:=ahO (r:=r) (u:=u) (now:=now) hw1 (by simpa using q2)
   refine WP.sr [10] (by kernel_rfl) fun K hK=>?_
   simp +decide only[TF,q2,↓reduceIte]
   refine hK _ _ ?_;clear hK K
   refine WP.ret ?_
   refine Ends.imp (.inr rfl) rfl (Le.of_eq (by simp +decide only[St.get,W,hR,↓reduceIte])) ?_ ?_ ?_
   · simp
   · simp[lk,aA,hR]
   · simp[lk]
  ·
   have hw2:aX p=true:=(by simpa using q2)
   refine WP.skip ?_
   show WP _ _ _ _ _ _
   refine WP.seq ?_
   refine WP.sr [0,1,2,3,4,28] (by kernel_rfl) fun K hK=>?_
   simp +decide only[TF,q2,↓reduceIte]
   refine aj.pure (zx _ _) rfl rfl (by simp[-List.map_take]) ?_
   simp +decide only[TF,zZ,↓reduceIte]
   refine aj.pure (zx _ _) rfl rfl (by simp[-List.map_take]) ?_
   simp +decide only[TF,zZ,↓reduceIte]
   refine hK _ _ ?_;clear hK K
   refine WP.cond (b:=_) rfl (fun q3=>?_) (fun q3=>?_)
   ·
    have hR:=ahP (r:=r) hw1 hw2 q3
    refine WP.sr [10] (by kernel_rfl) fun K hK=>?_
    simp +decide only[TF,q3,↓reduceIte]
    refine hK _ _ ?_;clear hK K
    refine WP.ret ?_
    refine Ends.imp (.inr rfl) rfl (Le.of_eq (by simp +decide only[St.get,W,hR,↓reduceIte])) ?_ ?_ ?_
    · simp
    · simp[lk,aA,hR]
    · simp[lk]
   ·
    have h13:=q3
    refine WP.skip ?_
    show WP _ _ _ _ _ _
    refine WP.sr [0,1,2,3,11] (by kernel_rfl) fun K hK=>?_
    simp +decide only[TF,q3,↓reduceIte]
    refine aj.imp (Ed r hr now) rfl rfl (by simp[lk,aA]) (by simp[lk]) (by simp[lk]) ?_
    simp +decide only[TF,rH,↓reduceIte]
    refine hK _ _ ?_;clear hK K
    refine WP.seq ?_
    refine WP.sr [0,1,2,3,11,34] (by kernel_rfl) fun K hK=>?_
    simp +decide only[TF,↓reduceIte]
    refine aj.pure (zS (fQ r.rq now) (fQ r.rq now).isEmpty id (by omega) (fun e=>List.isEmpty_iff.1 e)) rfl rfl (by simp[fE]) ?_
    simp +decide only[TF,↓reduceIte]
    refine hK _ _ ?_;clear hK K
    refine WP.cond (b:=_) rfl (fun q4=>?_) (fun q4=>?_)
    ·
     have hR:=agb hw1 hw2 h13 q4
     refine WP.sr [10] (by kernel_rfl) fun K hK=>?_
     simp +decide only[TF,q4,↓reduceIte]
     refine hK _ _ ?_;clear hK K
     refine WP.ret ?_
     refine Ends.imp (.inr rfl) rfl (Le.of_eq (by simp +decide only[St.get,W,hR,↓reduceIte])) ?_ ?_ ?_
     · simp
     · simp[lk,aA,hR]
     · simp[lk]
    ·
     have h7:=q4
     refine WP.skip ?_
     show WP _ _ _ _ _ _
     refine WP.seq ?_
     refine WP.sr [0,1,2,3,11,37] (by kernel_rfl) fun K hK=>?_
     simp +decide only[TF,q4,↓reduceIte]
     refine hK _ _ ?_;clear hK K
     refine WP.cond (b:=_) rfl (fun q5=>?_) (fun q5=>?_)
     ·
      have hR:=ajK hw1 hw2 h13 h7 q5
      refine WP.sr [10] (by kernel_rfl) fun K hK=>?_
      simp +decide only[TF,q5,↓reduceIte]
      refine hK _ _ ?_;clear hK K
      refine WP.ret ?_
      refine Ends.imp (.inr rfl) rfl (Le.of_eq (by simp +decide only[St.get,W,hR,↓reduceIte])) ?_ ?_ ?_
      · simp
      · simp[lk,aA,hR]
      · simp[lk]
     ·
      have hR:=Um hw1 hw2 h13 h7 q5
      refine WP.skip ?_
      show WP _ _ _ _ _ _
      refine WP.seq ?_
      refine WP.sr [0,1,2,3,11,42] (by kernel_rfl) fun K hK=>?_
      simp +decide only[TF,q5,↓reduceIte]
      refine hK _ _ ?_;clear hK K
      refine WP.block ?_
      refine WP.lp [0,1,2,3,11,42] (X:={seen:List Nat // True}) (fun x=>match x with| ⟨(seen),_⟩=>[]) (fun x=>match x with| ⟨(seen),_⟩=>[(6,.dS 2 r.rc seen r.rc),(2,.map (mE kH (kF r.rq now seen)) r.rc),(3,.box 107 [.str r.self,.int .i64 r.skew,.map 2,.ref 4 0]),(4,.box 171 [.map 5,.int .i64 256]),(5,.map (mE oJ r.us) r.uc)]) (fun x=>match x with| ⟨(seen),_⟩=>(iG (mE kH (kF r.rq now seen)) seen).length) (by simp +decide only[W,↓reduceIte];rfl) ?_ ⟨([]),trivial⟩ ?_
      rotate_left
      · exact Weak.store (by simp[St.get,lk,W,Le.refl]) (by simp[lk,Zr]) (by simp[lk]) (by simp[aA,lk]) (by simp[lk])
      rintro ⟨seen,_⟩
      dsimp only
      simp only[List.nil_append]
      refine WP.seq ?_
      refine WP.IB (by kernel_rfl) rfl rfl rfl rfl rfl rfl (fun e h=>(((hr.rq.filter _).es kH).lt e h)) (Nat.le_refl _) ?_ ?_
      ·
       intro hl0 K hK
       have hKD:=Wn hl0
       simp +decide only[TF,hKD,↓reduceIte]
       refine hK _ _ ?_;clear hK K
       show WP _ _ _ _ _ _
       refine WP.seq ?_
       refine WP.cond (b:=false) (by rfl) nofun (fun _=>?_)
       refine WP.exit ?_
       show WP _ _ _ _ _ _
       refine WP.sd [] (by kernel_rfl) (by kernel_rfl) fun K hK=>?_
       simp +decide only[TF,↓reduceIte]
       refine aj.pure (zx _ _) rfl rfl (by simp[-List.map_take]) ?_
       simp +decide only[TF,zZ,ahQ,afg,↓reduceIte]
       refine hK _ _ (by kernel_rfl) ?_
       clear hK K
       refine WP.sr [10] (by kernel_rfl) fun K hK=>?_
       simp +decide only[TF,↓reduceIte]
       refine hK _ _ ?_;clear hK K
       refine WP.ret ?_
       refine Ends.imp (.inr rfl) rfl (Le.of_eq (by simp +decide only[St.get,W,hR,↓reduceIte])) ?_ ?_ ?_
       · simp
       · simp[lk,aA,hR]
       · simp[lk]
      ·
       intro e hel K hK
       obtain⟨⟨k,x,n⟩,alL,rfl⟩:=List.mem_map.1 (tu hel).1
       have hkm:=Zt alL
       simp +decide only[TF,↓reduceIte]
       refine hK _ _ ?_;clear hK K
       show WP _ _ _ _ _ _
       refine WP.seq ?_
       refine WP.cond (b:=true) (by rfl) (fun _=>?_) nofun
       refine WP.skip ?_
       show WP _ _ _ _ _ _
       refine WP.block ?_
       refine WP.seq ?_
       refine WP.Eu (by kernel_rfl) rfl rfl rfl rfl rfl rfl (tu hel).1 ((hr.rq.filter _).es kH).born ?_
       ·
        intro K hK
        simp +decide only[TF,↓reduceIte]
        refine hK _ _ ?_;clear hK K
        show WP _ _ _ _ _ _
        refine WP.sr [0,1,2,3,11,12,42,50] (by kernel_rfl) fun K hK=>?_
        simp +decide only[TF,↓reduceIte]
        refine aj.pure (zS (fQ r.rq now) (fQ r.rq now).isEmpty k (by omega) (fun e=>List.isEmpty_iff.1 e)) rfl rfl (by simp[fE]) ?_
        simp +decide only[TF,↓reduceIte]
        refine hK _ _ ?_;clear hK K
        refine WP.cond (b:=_) rfl (fun q6=>?_) (fun q6=>?_)
        ·
         simp only[Bool.not_eq_true'] at q6
         refine WP.region (by kernel_rfl) fun K hK=>?_
         simp +decide only[TF,q6,acC,↓reduceIte]
         refine hK _ _ ?_;clear hK K
         show ∃y,_∧Weak _ _ _
         refine⟨⟨seen++[n],trivial⟩,Un hel,?_⟩
         have hK9:=acD (seen:=seen) hr.rq hkm (by simpa using q6)
         exact Weak.store (by simp[St.get,lk,Le.refl]) (by simp[lk,hK9]) (by simp[lk]) (by simp[aA,lk]) (by simp[lk])
        ·
         simp only[Bool.not_eq_false'] at q6
         refine WP.skip ?_
         show ∃y,_∧Weak _ _ _
         refine⟨⟨seen++[n],trivial⟩,Un hel,?_⟩
         have hK9:=Wj (seen:=seen) hr.rq hkm (by simpa using q6)
         exact Weak.store (by simp[St.get,lk,W,Le.refl]) (by simp[lk,hK9]) (by simp[lk]) (by simp[aA,lk]) (by simp[lk])
theorem LX (id p:List UInt8)(u now:Int):ak Pr 38 [.aP,.str id,.str p,.int .i64 u,.int .i64 now] (.int .i64 1):=by
 refine ak.W Tryz.func38 Tryz.ntmps38 ?_
 simp only[ay,Nat.reduceAdd,Nat.zero_add]
 iterate 2 first|(refine WP.S [0,1,2,3,4,10,15] fun _ z=>?_;simp +decide only[TF,↓reduceIte];apply z;clear z)|apply WP.seq
 refine WP.S [0,1,2,3,4,10,15] fun _ z=>?_
 simp +decide only[TF,↓reduceIte]
 refine aj.P (zy) rfl rfl ?_
 simp +decide only[TF,↓reduceIte]
 apply z;clear z
 iterate 2 first|(refine WP.S [0,1,2,3,4,10,15] fun _ z=>?_;simp +decide only[TF,↓reduceIte];apply z;clear z)|refine WP.cT ?_
 apply WP.ret
 exact Ends.P rfl (Le.of_eq (by simp +decide only[St.get,W,↓reduceIte]))
def mg (c:UInt8)(s:List UInt8):Int:=Lib.lastIndexByte ⟨s.toArray⟩ c.toNat
theorem rJ (c:UInt8)(s:List UInt8):(mg c s=-1∧c ∉ s)∨∃i:Nat,i<s.length∧mg c s=i∧s=s.take i++c::s.drop (i+1)∧c ∉ s.drop (i+1):=by
 have hat:∀j,j<s.length→((⟨s.toArray⟩:ByteArray).data[j]!)=(s[j]?).getD default:=by
  intro j hj
  simp[hj]
 have hsz:(⟨s.toArray⟩:ByteArray).size=s.length:=by simp[ByteArray.size]
 rcases Lib.lastIndexByte_spec ⟨s.toArray⟩ c.toNat with⟨h1,h2⟩ | ⟨i,hi,h1,h2,h3⟩
 ·refine .inl ⟨h1,fun hm=>?_⟩
  obtain⟨j,hj,he⟩:=List.mem_iff_getElem.1 hm
  refine h2 j (by rw[hsz];exact hj) ?_
  rw[hat j hj,List.getElem?_eq_getElem hj,Option.getD_some,he]
 ·rw[hsz] at hi
  refine .inr ⟨i,hi,h1,?_,fun hm=>?_⟩
  ·have hc:s[i]=c:=by
    rw[hat i hi,List.getElem?_eq_getElem hi,Option.getD_some] at h2
    refine UInt8.toNat_inj.1 ?_
    omega
   have:=List.take_append_drop i s
   rw[List.drop_eq_getElem_cons hi,hc] at this
   exact this.symm
  ·obtain⟨j,hj,he⟩:=List.mem_iff_getElem.1 hm
   rw[List.length_drop] at hj
   refine h3 (i+1+j) (by omega) (by rw[hsz];omega) ?_
   rw[hat _ (by omega),List.getElem?_eq_getElem (by omega),Option.getD_some]
   rw[List.getElem_drop] at he
   rw[he]
theorem CQ (c:UInt8)(s:List UInt8)(hs:s.length≤1099511627776):ak Pr 141 [.str s,.int .u8 c.toNat] (.int .i64 (mg c s)):=BF s c.toNat (by omega)
def Qx (c:UInt8)(s:List UInt8):Option (List UInt8 × List UInt8):=if mg c s<0 then none else some (s.take (mg c s).toNat,s.drop ((mg c s).toNat+1))
theorem Wp {c:UInt8}{s:List UInt8}(h:mg c s=-1):Qx c s=none:=by unfold Qx;rw[if_pos (by omega)]
theorem uU {c:UInt8}{s:List UInt8}{i:Nat}(h:mg c s=i):Qx c s=some (s.take i,s.drop (i+1)):=by unfold Qx;rw[h,if_neg (by omega),Int.toNat_natCast]
theorem acE {c:UInt8}{l r:List UInt8}(hr:c ∉ r):mg c (l++c::r)=l.length:=by
 rcases rJ c (l++c::r) with⟨_,h⟩ | ⟨i,hi,h1,h2,h3⟩
 ·exact absurd (by simp) h
 ·rw[h1]
  have:i=l.length:=by
   rcases Nat.lt_trichotomy i l.length with h|h|h
   ·refine absurd ?_ h3
    rw[List.drop_append_of_le_length (by omega)]
    simp
   ·exact h
   ·exfalso
    have h4:(l++c::r)[i]?=some c:=by
     have h5:((l++c::r).take i).length=i:=by rw[List.length_take];omega
     rw[h2,List.getElem?_append_right (by omega),h5];simp
    rw[List.getElem?_append_right (by omega)] at h4
    obtain⟨j,hj⟩:∃j,i - l.length=j+1:=⟨i - l.length - 1,by omega⟩
    rw[hj,List.getElem?_cons_succ] at h4
    exact hr (List.mem_of_getElem? h4)
  rw[this]
theorem Uo {c:UInt8}{l r:List UInt8}(hr:c ∉ r):Qx c (l++c::r)=some (l,r):=by
 rw[uU (acE hr)]
 simp
def mG (s:List UInt8):Option (List UInt8 × List UInt8 × List UInt8 × As):=
 (Qx 126 s).bind fun q=>if ((ig q.1).2 != 0)=true then none else (Qx 58 q.2).bind fun k=>if ((Tn k.2).2 != 0)=true then none else if aX k.1=false then none else some (q.1,k.1,k.2,(ig q.1).1)
def Ur (o:Option (List UInt8 × List UInt8 × List UInt8 × As)):D:=match o with
 |some q=> .aJ [.str q.1,.str q.2.1,.str q.2.2.1,.agg q.2.2.2.cs,.int .i64 0]
 |none=> .aJ [.str [],.str [],.str [],.agg bD.cs,.int .i64 4]
theorem yH:Le (.aJ [.str [],.str [],.str [],.agg [.str [],.str [],.str [],.str [],.str [],.int .i64 0,.int .i64 0,.int .i64 0,.slice 0 true [] none],.int .i64 4]) (Ur none):=
 Le.aJ ⟨Le.refl _,Le.refl _,Le.refl _,Le.agg ⟨Le.refl _,Le.refl _,Le.refl _,Le.refl _,Le.refl _,Le.refl _,Le.refl _,Le.refl _,Le.nil _ _ _,trivial⟩,Le.refl _,trivial⟩
@[simp] theorem ajM {S:Nat→Prop}(o:Option (List UInt8 × List UInt8 × List UInt8 × As)):cZ S (Ur o)↔True:=by
 cases o with
 |none=>simp[Ur]
 |some q=>simp[Ur]
section
variable {s:List UInt8} {i k:Nat}
theorem ajN (h:mg 126 s=-1):mG s=none:=by unfold mG;rw[Wp h];rfl
theorem agc (h:mg 126 s=i)(h2:((ig (s.take i)).2 != 0)=true):mG s=none:=by unfold mG;rw[uU h,Option.bind_some,if_pos h2]
theorem ajO (h:mg 126 s=i)(h2:((ig (s.take i)).2 != 0)=false)(h3:mg 58 (s.drop (i+1))=-1):mG s=none:=by unfold mG;rw[uU h,Option.bind_some,if_neg (by rw[h2];decide),Wp h3];rfl
theorem ajP (h:mg 126 s=i)(h2:((ig (s.take i)).2 != 0)=false)(h3:mg 58 (s.drop (i+1))=k)(h4:((Tn ((s.drop (i+1)).drop (k+1))).2 != 0)=true):mG s=none:=by
 unfold mG;rw[uU h,Option.bind_some,if_neg (by rw[h2];decide),uU h3,Option.bind_some,if_pos h4]
theorem ajQ (h:mg 126 s=i)(h2:((ig (s.take i)).2 != 0)=false)(h3:mg 58 (s.drop (i+1))=k)(h4:((Tn ((s.drop (i+1)).drop (k+1))).2 != 0)=false)(h5:aX ((s.drop (i+1)).take k)=false):mG s=none:=by
 unfold mG;rw[uU h,Option.bind_some,if_neg (by rw[h2];decide),uU h3,Option.bind_some,if_neg (by rw[h4];decide),if_pos h5]
theorem ajR (h:mg 126 s=i)(h2:((ig (s.take i)).2 != 0)=false)(h3:mg 58 (s.drop (i+1))=k)(h4:((Tn ((s.drop (i+1)).drop (k+1))).2 != 0)=false)(h5:aX ((s.drop (i+1)).take k)=true):
  mG s=some (s.take i,(s.drop (i+1)).take k,(s.drop (i+1)).drop (k+1),(ig (s.take i)).1):=by
 unfold mG;rw[uU h,Option.bind_some,if_neg (by rw[h2];decide),uU h3,Option.bind_some,if_neg (by rw[h4];decide),if_neg (by rw[h5];decide)]
end
theorem Zu {s:List UInt8}{q:List UInt8 × List UInt8 × List UInt8 × As}(h:mG s=some q):∃sig,Qx 126 s=some (q.1,sig)∧Qx 58 sig=some (q.2.1,q.2.2.1)∧ig q.1=(q.2.2.2,0)∧(Tn q.2.2.1).2=0∧aX q.2.1=true:=by
 unfold mG at h
 rw[Option.bind_eq_some_iff] at h
 obtain⟨⟨t,sig⟩,h1,h⟩:=h
 simp only at h
 split at h
 ·cases h
 rename_i hd
 rw[Option.bind_eq_some_iff] at h
 obtain⟨⟨key,code⟩,h2,h⟩:=h
 simp only at h
 split at h
 ·cases h
 rename_i hr
 split at h
 ·cases h
 rename_i hw
 cases h
 exact⟨sig,h1,h2,Prod.ext rfl (by simpa using hd),by simpa using hr,by simpa using hw⟩
theorem acF {s:List UInt8}{q:List UInt8 × List UInt8 × List UInt8 × As}(h:mG s=some q):q.1.length≤4096∧bC q.2.2.2=0:=by
 obtain⟨sig,_,_,h3,_⟩:=Zu h
 obtain⟨e1,_,_,e4⟩:=Qp (s:=q.1) (by rw[h3]) (b:=q.2.2.2) (by rw[h3])
 exact⟨e4,(o9 e1).1⟩
set_option maxRecDepth 10000
set_option maxHeartbeats 4000000
abbrev dP:List Nat:=[0,2,3,4,5,6,7,8,9,11,15,34,61]
theorem OL (s:List UInt8)(hs:s.length≤1099511627776):ak Pr 83 [.str s] (Ur (mG s)):=by
 refine ak.W Tryz.func83 Tryz.ntmps83 ?_
 simp only[ay]
 refine WP.S dP fun _ z=>?_;simp +decide only[TF,↓reduceIte];apply z;clear z
 rcases rJ 126 s with⟨hl,_⟩ | ⟨i,hi,hl,_,_⟩
 ·have hR:=ajN hl
  have hi0:decide ((-1:Int)<0)=true:=by decide
  refine WP.S dP fun _ z=>?_
  simp +decide only[TF,↓reduceIte]
  refine aj.P (CQ 126 s (by omega)) rfl rfl ?_
  simp +decide only[TF,hl,↓reduceIte]
  apply z;clear z
  iterate 4 first|(refine WP.S dP fun _ z=>?_;simp +decide only[TF,↓reduceIte];apply z;clear z)|refine WP.cT ?_|apply WP.seq
  apply WP.ret
  exact Ends.P (d:= .aJ [_,_,_,_,_]) rfl (by rw[hR];exact Le.trans (Le.of_eq (by simp +decide only[St.get,lk,W,aB,gI,↓reduceIte])) yH)
 have hi0:decide ((i:Int)<0)=false:=decide_eq_false (by omega)
 have hle:i≤s.length:=by omega
 have hle1:i+1≤s.length:=by omega
 have hwi:IntKind.wrap .i64 ((i:Int)+1)=((i+1:Nat):Int):=by rw[wrap_i64 (by omega) (by omega)];rfl
 refine WP.S dP fun _ z=>?_
 simp +decide only[TF,↓reduceIte]
 refine aj.P (CQ 126 s (by omega)) rfl rfl ?_
 simp +decide only[TF,hl,↓reduceIte]
 apply z;clear z
 iterate 4 first|(refine WP.S dP fun _ z=>?_;simp +decide only[TF,hi0,↓reduceIte];apply z;clear z)|(apply WP.skip;show WP ..)|refine WP.cF ?_|apply WP.seq
 refine WP.S dP fun _ z=>?_
 simp +decide only[TF,hle,↓reduceIte]
 refine aj.P (xI (s.take i) (by simp only[List.length_take];omega)) rfl rfl ?_
 simp +decide only[TF,iy,As.cs,↓reduceIte]
 apply z;clear z
 rcases rJ 58 (s.drop (i+1)) with⟨hk,_⟩ | ⟨k,hk1,hk,_,_⟩
 ·have hk0:decide ((-1:Int)<0)=true:=by decide
  refine WP.S dP fun _ z=>?_
  simp +decide only[TF,hle1,hwi,List.take_length,↓reduceIte]
  refine aj.P (CQ 58 (s.drop (i+1)) (by simp only[List.length_drop];omega)) rfl rfl ?_
  simp +decide only[TF,hk,↓reduceIte]
  apply z;clear z
  apply WP.seq
  refine WP.S dP fun _ z=>?_
  refine ah.take 3 fun J hJ=>?_
  simp +decide only[TF,↓reduceIte]
  refine hJ _ _ ?_;clear hJ J
  refine ah.part 31 rfl (fun q1=>?_) (fun q1=>?_)
  ·have hR:=agc hl q1
   simp +decide only[TF,q1,↓reduceIte]
   apply z;clear z
   iterate 2 first|(refine WP.S dP fun _ z=>?_;simp +decide only[TF,↓reduceIte];apply z;clear z)|refine WP.cT ?_
   apply WP.ret
   exact Ends.P (d:= .aJ [_,_,_,_,_]) rfl (by rw[hR];exact Le.trans (Le.of_eq (by simp +decide only[St.get,lk,W,aB,gI,↓reduceIte])) yH)
  have hf:=q1
  have hR:=ajO hl hf hk
  simp +decide only[TF,q1,↓reduceIte]
  apply z;clear z
  iterate 2 first|(refine WP.S dP fun _ z=>?_;simp +decide only[TF,↓reduceIte];apply z;clear z)|refine WP.cT ?_
  apply WP.ret
  exact Ends.P (d:= .aJ [_,_,_,_,_]) rfl (by rw[hR];exact Le.trans (Le.of_eq (by simp +decide only[St.get,lk,W,aB,gI,↓reduceIte])) yH)
 rw[List.length_drop] at hk1
 have hk0:decide ((k:Int)<0)=false:=decide_eq_false (by omega)
 have hwk:IntKind.wrap .i64 (((i+1:Nat):Int)+(k:Int))=((i+1+k:Nat):Int):=by rw[wrap_i64 (by omega) (by omega)];omega
 have hw2:IntKind.wrap .i64 ((i:Int)+2)=((i+2:Nat):Int):=by rw[wrap_i64 (by omega) (by omega)];rfl
 have hw3:IntKind.wrap .i64 (((i+2:Nat):Int)+(k:Int))=((i+2+k:Nat):Int):=by rw[wrap_i64 (by omega) (by omega)];omega
 have hb1:(i+1≤i+1+k)=True:=eq_true (by omega)
 have hb2:(i+1+k≤s.length)=True:=eq_true (by omega)
 have hb3:(i+2+k≤s.length)=True:=eq_true (by omega)
 have hd1:(s.take (i+1+k)).drop (i+1)=(s.drop (i+1)).take k:=by rw[List.drop_take];congr 1;omega
 have hd2:s.drop (i+2+k)=(s.drop (i+1)).drop (k+1):=by rw[List.drop_drop];congr 1;omega
 refine WP.S dP fun _ z=>?_
 simp +decide only[TF,hle1,hwi,List.take_length,↓reduceIte]
 refine aj.P (CQ 58 (s.drop (i+1)) (by simp only[List.length_drop];omega)) rfl rfl ?_
 simp +decide only[TF,hk,↓reduceIte]
 apply z;clear z
 apply WP.seq
 refine WP.S dP fun _ z=>?_
 refine ah.take 3 fun J hJ=>?_
 simp +decide only[TF,↓reduceIte]
 refine hJ _ _ ?_;clear hJ J
 refine ah.part 31 rfl (fun q2=>?_) (fun q2=>?_)
 ·have hR:=agc hl q2
  simp +decide only[TF,q2,↓reduceIte]
  apply z;clear z
  iterate 2 first|(refine WP.S dP fun _ z=>?_;simp +decide only[TF,↓reduceIte];apply z;clear z)|refine WP.cT ?_
  apply WP.ret
  exact Ends.P (d:= .aJ [_,_,_,_,_]) rfl (by rw[hR];exact Le.trans (Le.of_eq (by simp +decide only[St.get,lk,W,aB,gI,↓reduceIte])) yH)
 have hf:=q2
 simp +decide only[TF,hk0,q2,↓reduceIte]
 apply z;clear z
 iterate 4 first|(refine WP.D dP fun _ z=>?_;simp +decide only[TF,hwi,hwk,hw2,hw3,hb1,hb2,hb3,hd1,hd2,List.take_length,↓reduceIte];refine z _ _ (by kernel_rfl) ?_;clear z)|(apply WP.skip;show WP ..)|refine WP.cF ?_|apply WP.seq
 refine WP.S dP fun _ z=>?_
 simp +decide only[TF,↓reduceIte]
 refine aj.P (YO ((s.drop (i+1)).drop (k+1)) (by simp only[List.length_drop];omega)) rfl rfl ?_
 simp +decide only[TF,yN,↓reduceIte]
 apply z;clear z
 refine WP.S dP fun _ z=>?_
 refine ah.take 3 fun J hJ=>?_
 simp +decide only[TF,↓reduceIte]
 refine hJ _ _ ?_;clear hJ J
 refine ah.part 57 rfl (fun q3=>?_) (fun q3=>?_)
 ·have hR:=ajP hl hf hk q3
  simp +decide only[TF,q3,↓reduceIte]
  apply z;clear z
  iterate 2 first|(refine WP.S dP fun _ z=>?_;simp +decide only[TF,↓reduceIte];apply z;clear z)|refine WP.cT ?_
  apply WP.ret
  exact Ends.P (d:= .aJ [_,_,_,_,_]) rfl (by rw[hR];exact Le.trans (Le.of_eq (by simp +decide only[St.get,lk,W,aB,gI,↓reduceIte])) yH)
 have hx:=q3
 simp +decide only[TF,q3,↓reduceIte]
 refine aj.P (jC ((s.drop (i+1)).take k) (by simp only[List.length_drop,List.length_take];omega)) rfl rfl ?_
 simp +decide only[TF,↓reduceIte]
 apply z;clear z
 refine WP.cond rfl (fun q4=>?_) (fun q4=>?_)
 ·have hR:=ajQ hl hf hk hx (by simpa using q4)
  refine WP.S dP fun _ z=>?_;simp +decide only[TF,q4,↓reduceIte];apply z;clear z
  apply WP.ret
  exact Ends.P (d:= .aJ [_,_,_,_,_]) rfl (by rw[hR];exact Le.trans (Le.of_eq (by simp +decide only[St.get,lk,W,aB,gI,↓reduceIte])) yH)
 have hR:=ajR hl hf hk hx (by simpa using q4)
 iterate 2 first|(refine WP.D dP fun _ z=>?_;simp +decide only[TF,hle,q4,↓reduceIte];refine z _ _ (by kernel_rfl) ?_;clear z)|(apply WP.skip;show WP ..)
 apply WP.ret
 exact Ends.P (d:= .aJ [_,_,_,_,_]) rfl (by rw[hR];exact Le.of_eq (by simp +decide only[Ur,As.cs,St.get,lk,W,aB,gI,↓reduceIte]))
def Wq (r:Rc)(a:As)(now:Int):As × Int × Rc:=
 match ny r.rq a.req with
 |none=>(bD,6,r)
 |some q=>if decide (aZ now≥q.2)=true then (bD,6,r) else if (q.1 == a.iP)=false then (bD,16,r) else
  if ((l7 r.us r.uc a.id (iQ a.fG r.skew) now).1 != 0)=true then (bD,(l7 r.us r.uc a.id (iQ a.fG r.skew) now).1,r)
  else (a,0,{ r with us:=(l7 r.us r.uc a.id (iQ a.fG r.skew) now).2.1,uc:=(l7 r.us r.uc a.id (iQ a.fG r.skew) now).2.2,rq:=KP r.rq a.req })
theorem KT {r:Rc}{a:As}{now:Int}{q:List UInt8 × Int}(h:ny r.rq a.req=some q):Wq r a now=if decide (aZ now≥q.2)=true then (bD,6,r) else if (q.1 == a.iP)=false then (bD,16,r) else
  if ((l7 r.us r.uc a.id (iQ a.fG r.skew) now).1 != 0)=true then (bD,(l7 r.us r.uc a.id (iQ a.fG r.skew) now).1,r)
  else (a,0,{ r with us:=(l7 r.us r.uc a.id (iQ a.fG r.skew) now).2.1,uc:=(l7 r.us r.uc a.id (iQ a.fG r.skew) now).2.2,rq:=KP r.rq a.req }):=by unfold Wq;rw[h]
def lV (ms:TS)(r:Rc)(s:List UInt8)(now:Int):As × Int × Rc:=
 match mG s with
 |none=>(bD,4,r)
 |some (text,key,code,a)=>match gY ms a.iP with
  |none=>(bD,6,r)
  |some p=>if (f_ p.f p.u now 0 != 0)=true then (bD,f_ p.f p.u now 0,r) else
   if ((kV p.keys key now r.skew).2 != 0)=true then (bD,(kV p.keys key now r.skew).2,r) else
   if (code == qx (kV p.keys key now r.skew).1.sec text)=false then (bD,17,r) else
   if (a.jI == r.self)=false then (bD,15,r) else
   if (f_ a.jd a.fG now r.skew != 0)=true then (bD,f_ a.jd a.fG now r.skew,r) else Wq r a now
section
variable {ms:TS} {r:Rc} {s text key code:List UInt8} {a:As} {p:kK} {now:Int}
theorem agd (h:mG s=none):lV ms r s now=(bD,4,r):=by unfold lV;rw[h]
theorem ajS (h:mG s=some (text,key,code,a))(h1:gY ms a.iP=none):lV ms r s now=(bD,6,r):=by unfold lV;simp only[h,h1]
theorem agf (h:mG s=some (text,key,code,a))(h1:gY ms a.iP=some p)(h2:(f_ p.f p.u now 0 != 0)=true):lV ms r s now=(bD,f_ p.f p.u now 0,r):=by unfold lV;simp only[h,h1];exact if_pos h2
theorem XU (h:mG s=some (text,key,code,a))(h1:gY ms a.iP=some p)(h2:(f_ p.f p.u now 0 != 0)=false):lV ms r s now=
  if ((kV p.keys key now r.skew).2 != 0)=true then (bD,(kV p.keys key now r.skew).2,r) else
   if (code == qx (kV p.keys key now r.skew).1.sec text)=false then (bD,17,r) else
   if (a.jI == r.self)=false then (bD,15,r) else
   if (f_ a.jd a.fG now r.skew != 0)=true then (bD,f_ a.jd a.fG now r.skew,r) else Wq r a now:=by
 unfold lV;simp only[h,h1];exact if_neg (by rw[h2];decide)
end
theorem Ws (ms:TS)(id:List UInt8)(t:Int):(gY ms id=none∧uZ ms id t= .aJ [YQ,.int .i64 6])∨(∃p,gY ms id=some p∧(f_ p.f p.u t 0 != 0)=true∧uZ ms id t= .aJ [YQ,.int .i64 (f_ p.f p.u t 0)])∨
  ∃p,gY ms id=some p∧(f_ p.f p.u t 0 != 0)=false∧uZ ms id t= .aJ [.agg p.cs,.int .i64 0]:=by
 cases h:gY ms id with
 |none=>exact .inl ⟨rfl,abg h⟩
 |some p=>
  cases h2:(f_ p.f p.u t 0 != 0) with
  |true=>exact .inr (.inl ⟨p,rfl,h2,abh h h2⟩)
  |false=>exact .inr (.inr ⟨p,rfl,h2,abj h h2⟩)
theorem ahS {us:US}{c:Nat}{id:List UInt8}{u now:Int}(h:((l7 us c id u now).1 != 0)=true):(l7 us c id u now).2.1=us∧(l7 us c id u now).2.2=c:=by
 unfold l7 at h ⊢
 split
 ·rename_i h0;rw[if_pos h0] at h;simp at h
 ·exact⟨rfl,rfl⟩
theorem mD (e:Int):Le (.aJ [.agg [.str [],.str [],.str [],.str [],.str [],.int .i64 0,.int .i64 0,.int .i64 0,.slice 0 true [] none],.int .i64 e]) (.aJ [.agg bD.cs,.int .i64 e]):=ni e
set_option maxRecDepth 10000
set_option maxHeartbeats 4000000
theorem acG {a b:List UInt8}(h:(!(a == b))=true):(a == b)=false:=by simpa using h
theorem acH {a b:List UInt8}(h:(!(a == b))=false):(a == b)=true:=by simpa using h
theorem alM:((4:Int) != 0)=true:=by decide
abbrev bI:List Nat:=[0,1,2,3,8,9,10,11,12,13,14,15,16,17,18,19,20,23,34,46,62,70,78,92,113,119,137]
theorem tZ (ms:TS)(c:Nat)(hms:TS.ok ms)(r:Rc)(hr:r.ok)(s:List UInt8)(hs:s.length≤1099511627776)(now:Int):aG Pr 39 [.ref 3 0,.ref 1 0,.str s,.int .i64 now] [(0,.map (yh ms) c),(1,.box 138 [.map 0]),(2,.map (mE kH r.rq) r.rc),(3,.box 107 [.str r.self,.int .i64 r.skew,.map 2,.ref 4 0]),(4,.box 171 [.map 5,.int .i64 256]),(5,.map (mE oJ r.us) r.uc)] (.aJ [.agg (lV ms r s now).1.cs,.int .i64 (lV ms r s now).2.1]) [(0,.map (yh ms) c),(1,.box 138 [.map 0]),(2,.map (mE kH (lV ms r s now).2.2.rq) (lV ms r s now).2.2.rc),(3,.box 107 [.str (lV ms r s now).2.2.self,.int .i64 (lV ms r s now).2.2.skew,.map 2,.ref 4 0]),(4,.box 171 [.map 5,.int .i64 256]),(5,.map (mE oJ (lV ms r s now).2.2.us) (lV ms r s now).2.2.uc)]:=by
 refine aG.of_wp Tryz.func39 rfl (by kernel_rfl) Tryz.ntmps39 (by simp) ?_
 simp only[ay,Nat.reduceAdd,Nat.zero_add,List.map_cons,List.map_nil]
 iterate 2 first|(refine WP.S bI fun _ z=>?_;simp +decide only[TF,↓reduceIte];apply z;clear z)|apply WP.seq
 refine WP.S bI fun _ z=>?_
 simp +decide only[TF,↓reduceIte]
 refine aj.I (Ec r) rfl rfl ?_
 simp +decide only[TF,↓reduceIte]
 apply z;clear z
 iterate 2 first|(apply WP.skip;show WP ..)|refine WP.cF ?_
 rcases hD:mG s with _ | ⟨text,key,code,a⟩
 ·have hR:=agd (ms:=ms) (r:=r) (now:=now) hD
  refine WP.S bI fun _ z=>?_
  simp +decide only[TF,↓reduceIte]
  refine aj.P (OL s hs) rfl rfl ?_
  simp +decide only[TF,hD,Ur,As.cs,↓reduceIte]
  apply z;clear z
  iterate 4 first|(refine WP.S bI fun _ z=>?_;simp +decide only[TF,alM,↓reduceIte];apply z;clear z)|refine WP.cT ?_|apply WP.seq
  apply WP.ret
  refine Ends.imp (d:= .aJ [_,_]) (.inr rfl) rfl (by rw[hR];exact Le.trans (Le.of_eq (by simp +decide only[St.get,W,aB,gI,↓reduceIte])) (mD _)) ?_ ?_ ?_
  ·simp
  ·simp[lk,aA,hR]
  simp[lk]
 obtain⟨ht1,ht2⟩:=acF hD
 have alN:=nJ (fO ht2).1.1
 simp only at ht1 alN
 refine WP.S bI fun _ z=>?_
 simp +decide only[TF,↓reduceIte]
 refine aj.P (OL s hs) rfl rfl ?_
 simp +decide only[TF,hD,Ur,As.cs,↓reduceIte]
 apply z;clear z
 iterate 4 first|(refine WP.S bI fun _ z=>?_;simp +decide only[TF,↓reduceIte];apply z;clear z)|(apply WP.skip;show WP ..)|refine WP.cF ?_|apply WP.seq
 rcases Ws ms a.iP now with⟨hF,hP⟩ | ⟨p,hF,hC,hP⟩ | ⟨p,hF,hC,hP⟩
 ·have hR:=ajS (r:=r) (now:=now) hD hF
  have hb:((6:Int) != 0)=true:=by decide
  refine WP.S bI fun _ z=>?_
  simp +decide only[TF,↓reduceIte]
  refine aj.I (zN ms c hms a.iP now) rfl rfl ?_
  simp +decide only[TF,hP,YQ,↓reduceIte]
  apply z;clear z
  iterate 4 first|(refine WP.S bI fun _ z=>?_;simp +decide only[TF,hb,↓reduceIte];apply z;clear z)|refine WP.cT ?_|apply WP.seq
  apply WP.ret
  refine Ends.imp (d:= .aJ [_,_]) (.inr rfl) rfl (by rw[hR];exact Le.trans (Le.of_eq (by simp +decide only[St.get,W,aB,gI,↓reduceIte])) (mD _)) ?_ ?_ ?_
  ·simp
  ·simp[lk,aA,hR]
  simp[lk]
 ·have hR:=agf (r:=r) hD hF hC
  refine WP.S bI fun _ z=>?_
  simp +decide only[TF,↓reduceIte]
  refine aj.I (zN ms c hms a.iP now) rfl rfl ?_
  simp +decide only[TF,hP,YQ,↓reduceIte]
  apply z;clear z
  iterate 4 first|(refine WP.S bI fun _ z=>?_;simp +decide only[TF,hC,↓reduceIte];apply z;clear z)|refine WP.cT ?_|apply WP.seq
  apply WP.ret
  refine Ends.imp (d:= .aJ [_,_]) (.inr rfl) rfl (by rw[hR];exact Le.trans (Le.of_eq (by simp +decide only[St.get,W,aB,gI,↓reduceIte])) (mD _)) ?_ ?_ ?_
  ·simp
  ·simp[lk,aA,hR]
  simp[lk]
 have hY:=XU (r:=r) hD hF hC
 obtain⟨hpo,_⟩:=Tz hms hF
 have alO:=(Xr (id:=key) (now:=now) (skew:=r.skew) hpo.2.2.2.2).2
 have hb:((0:Int) != 0)=false:=by decide
 refine WP.S bI fun _ z=>?_
 simp +decide only[TF,↓reduceIte]
 refine aj.I (zN ms c hms a.iP now) rfl rfl ?_
 simp +decide only[TF,hP,kK.cs,↓reduceIte]
 apply z;clear z
 iterate 4 first|(refine WP.S bI fun _ z=>?_;simp +decide only[TF,↓reduceIte];apply z;clear z)|(apply WP.skip;show WP ..)|refine WP.cF ?_|apply WP.seq
 refine WP.D bI fun _ z=>?_
 simp +decide only[TF,↓reduceIte]
 refine aj.pure (SG p.keys p.nk key now r.skew hpo.2.2.1 hpo.2.2.2.1) rfl rfl (by simp[BG]) ?_
 simp +decide only[TF,↓reduceIte]
 refine z _ _ (by kernel_rfl) ?_;clear z
 iterate 2 first|(refine WP.S bI fun _ z=>?_;simp +decide only[TF,↓reduceIte];apply z;clear z)|apply WP.seq
 refine WP.cond rfl (fun q1=>?_) (fun q1=>?_)
 ·have hR:=hY.trans (if_pos q1)
  refine WP.S bI fun _ z=>?_;simp +decide only[TF,q1,↓reduceIte];apply z;clear z
  apply WP.ret
  refine Ends.imp (d:= .aJ [_,_]) (.inr rfl) rfl (by rw[hR];exact Le.trans (Le.of_eq (by simp +decide only[St.get,W,aB,gI,↓reduceIte])) (mD _)) ?_ ?_ ?_
  ·simp
  ·simp[lk,aA,hR]
  simp[lk]
 rw[if_neg (by rw[q1];decide)] at hY
 iterate 2 first|(apply WP.skip;show WP ..)|apply WP.seq
 refine WP.S bI fun _ z=>?_
 simp +decide only[TF,q1,↓reduceIte]
 refine aj.P (aa' (kV p.keys key now r.skew).1.sec text alO (by omega)) rfl rfl ?_
 simp +decide only[TF,↓reduceIte]
 apply z;clear z
 refine WP.cond rfl (fun q2=>?_) (fun q2=>?_)
 ·have hq9:=acG q2
  have hR:=hY.trans (if_pos hq9)
  refine WP.S bI fun _ z=>?_;simp +decide only[TF,q2,↓reduceIte];apply z;clear z
  apply WP.ret
  refine Ends.imp (d:= .aJ [_,_]) (.inr rfl) rfl (by rw[hR];exact Le.trans (Le.of_eq (by simp +decide only[St.get,W,aB,gI,↓reduceIte])) (mD _)) ?_ ?_ ?_
  ·simp
  ·simp[lk,aA,hR]
  simp[lk]
 have hq9:=acH q2
 rw[if_neg (by rw[hq9];decide)] at hY
 iterate 3 first|(refine WP.D bI fun _ z=>?_;simp +decide only[TF,q2,↓reduceIte];refine z _ _ (by kernel_rfl) ?_;clear z)|(apply WP.skip;show WP ..)|apply WP.seq
 refine WP.cond rfl (fun q3=>?_) (fun q3=>?_)
 ·have hq9:=acG q3
  have hR:=hY.trans (if_pos hq9)
  refine WP.S bI fun _ z=>?_;simp +decide only[TF,q3,↓reduceIte];apply z;clear z
  apply WP.ret
  refine Ends.imp (d:= .aJ [_,_]) (.inr rfl) rfl (by rw[hR];exact Le.trans (Le.of_eq (by simp +decide only[St.get,W,aB,gI,↓reduceIte])) (mD _)) ?_ ?_ ?_
  ·simp
  ·simp[lk,aA,hR]
  simp[lk]
 have hq9:=acH q3
 rw[if_neg (by rw[hq9];decide)] at hY
 iterate 2 first|(apply WP.skip;show WP ..)|apply WP.seq
 refine WP.D bI fun _ z=>?_
 simp +decide only[TF,q3,↓reduceIte]
 refine aj.P (zJ a.jd a.fG now r.skew) rfl rfl ?_
 simp +decide only[TF,↓reduceIte]
 refine z _ _ (by kernel_rfl) ?_;clear z
 refine WP.S bI fun _ z=>?_;simp +decide only[TF,↓reduceIte];apply z;clear z
 refine WP.cond rfl (fun q4=>?_) (fun q4=>?_)
 ·have hR:=hY.trans (if_pos q4)
  refine WP.S bI fun _ z=>?_;simp +decide only[TF,q4,↓reduceIte];apply z;clear z
  apply WP.ret
  refine Ends.imp (d:= .aJ [_,_]) (.inr rfl) rfl (by rw[hR];exact Le.trans (Le.of_eq (by simp +decide only[St.get,W,aB,gI,↓reduceIte])) (mD _)) ?_ ?_ ?_
  ·simp
  ·simp[lk,aA,hR]
  simp[lk]
 rw[if_neg (by rw[q4];decide)] at hY
 apply WP.skip;show WP ..
 rcases hQ:ny r.rq a.req with _|q
 ·have hR:=hY.trans (by unfold Wq;rw[hQ])
  iterate 5 first|(refine WP.D bI fun _ z=>?_;simp +decide only[TF,q4,hQ,XT,↓reduceIte];refine z _ _ (by kernel_rfl) ?_;clear z)|(refine WP.S bI fun _ z=>?_;simp +decide only[TF,↓reduceIte];apply z;clear z)|refine WP.cT ?_|apply WP.seq
  apply WP.ret
  refine Ends.imp (d:= .aJ [_,_]) (.inr rfl) rfl (by rw[hR];exact Le.trans (Le.of_eq (by simp +decide only[St.get,W,aB,gI,↓reduceIte])) (mD _)) ?_ ?_ ?_
  ·simp
  ·simp[lk,aA,hR]
  simp[lk]
 have hU:=KT (now:=now) hQ
 iterate 2 first|(refine WP.D bI fun _ z=>?_;simp +decide only[TF,q4,hQ,kH,XT,↓reduceIte];refine z _ _ (by kernel_rfl) ?_;clear z)|apply WP.seq
 refine WP.D bI fun _ z=>?_
 simp +decide only[TF,↓reduceIte]
 refine aj.P (zx _ _) rfl rfl ?_
 simp +decide only[TF,zZ,↓reduceIte]
 refine z _ _ (by kernel_rfl) ?_;clear z
 refine WP.cond rfl (fun q5=>?_) (fun q5=>?_)
 ·rw[if_pos (by simpa using q5)] at hU
  have hR:=hY.trans hU
  refine WP.S bI fun _ z=>?_;simp +decide only[TF,q5,↓reduceIte];apply z;clear z
  apply WP.ret
  refine Ends.imp (d:= .aJ [_,_]) (.inr rfl) rfl (by rw[hR];exact Le.trans (Le.of_eq (by simp +decide only[St.get,W,aB,gI,↓reduceIte])) (mD _)) ?_ ?_ ?_
  ·simp
  ·simp[lk,aA,hR]
  simp[lk]
 rw[if_neg (by simpa using q5)] at hU
 iterate 3 first|(refine WP.S bI fun _ z=>?_;simp +decide only[TF,q5,↓reduceIte];apply z;clear z)|(apply WP.skip;show WP ..)|apply WP.seq
 refine WP.cond rfl (fun q6=>?_) (fun q6=>?_)
 ·rw[if_pos (acG q6)] at hU
  have hR:=hY.trans hU
  refine WP.S bI fun _ z=>?_;simp +decide only[TF,q6,↓reduceIte];apply z;clear z
  apply WP.ret
  refine Ends.imp (d:= .aJ [_,_]) (.inr rfl) rfl (by rw[hR];exact Le.trans (Le.of_eq (by simp +decide only[St.get,W,aB,gI,↓reduceIte])) (mD _)) ?_ ?_ ?_
  ·simp
  ·simp[lk,aA,hR]
  simp[lk]
 rw[if_neg (by rw[acH q6];decide)] at hU
 iterate 2 first|(apply WP.skip;show WP ..)|apply WP.seq
 refine WP.D bI fun _ z=>?_
 simp +decide only[TF,q6,↓reduceIte]
 refine aj.P (zx _ _) rfl rfl ?_
 simp +decide only[TF,↓reduceIte]
 refine aj.I (ajL r.us r.uc a.id (iQ a.fG r.skew) now hr.nus (by omega)) rfl rfl ?_
 simp +decide only[TF,↓reduceIte]
 refine z _ _ (by kernel_rfl) ?_;clear z
 refine WP.S bI fun _ z=>?_;simp +decide only[TF,↓reduceIte];apply z;clear z
 refine WP.cond rfl (fun q7=>?_) (fun q7=>?_)
 ·rw[if_pos q7] at hU
  have hR:=hY.trans hU
  obtain⟨hu1,hu2⟩:=ahS q7
  refine WP.S bI fun _ z=>?_;simp +decide only[TF,q7,hu1,hu2,↓reduceIte];apply z;clear z
  apply WP.ret
  refine Ends.imp (d:= .aJ [_,_]) (.inr rfl) rfl (by rw[hR];exact Le.trans (Le.of_eq (by simp +decide only[St.get,W,aB,gI,↓reduceIte])) (mD _)) ?_ ?_ ?_
  ·simp
  ·simp[lk,aA,hR]
  simp[lk]
 rw[if_neg (by rw[q7];decide)] at hU
 have hR:=hY.trans hU
 iterate 3 first|(refine WP.D bI fun _ z=>?_;simp +decide only[TF,q7,acC,↓reduceIte];refine z _ _ (by kernel_rfl) ?_;clear z)|(refine WP.S bI fun _ z=>?_;simp +decide only[TF,↓reduceIte];apply z;clear z)|(apply WP.skip;show WP ..)
 apply WP.ret
 refine Ends.imp (d:= .aJ [_,_]) (.inr rfl) rfl (by rw[hR];exact Le.of_eq (by simp +decide only[As.cs,St.get,W,aB,gI,↓reduceIte])) ?_ ?_ ?_
 ·simp
 ·simp[lk,aA,hR]
 simp[lk]
set_option maxRecDepth 20000
theorem Qy {c:UInt8}(h:∀d:Fin 16,He d.val≠c)(n:Int):∀k:Nat,c ∉ wS n k
 | 0=>by simp[wS]
 |k+1=>by
  have h1:=h ⟨hdN n k,PY n k⟩
  simp only[wS,List.mem_cons,not_or]
  exact⟨fun e=>h1 e.symm,Qy h n k⟩
theorem ahU (k s:List UInt8):(58:UInt8) ∉ qx k s:=Qy (by decide) _ 16
theorem afh (k s:List UInt8):(126:UInt8) ∉ qx k s:=Qy (by decide) _ 16
theorem ahV (k s:List UInt8):(Tn (qx k s)).2=0:=by
 have:Tn (qx k s)=_:=aef (sU _).1 (sU _).2
 rw[this]
theorem acI {s:List UInt8}(h:aX s=true):(126:UInt8) ∉ s:=by
 intro hm
 simp only[aX,Bool.and_eq_true,List.all_eq_true] at h
 have:=h.1.1 _ hm
 revert this;decide
theorem afi {k:Key}(h:aX k.id=true)(s:List UInt8):(126:UInt8) ∉ mY k s:=by
 unfold mY
 simp only[List.mem_append,List.mem_singleton,not_or]
 exact⟨⟨acI h,by decide⟩,afh _ _⟩
theorem Us {a:As}{t:List UInt8}{k:Key}(he:dw a=(t,0))(hw:aX k.id=true):mG (t++[126]++mY k t)=some (t,k.id,qx k.sec t,nrm a):=by
 have e1:t++[126]++mY k t=t++126::mY k t:=by simp
 have e2:mY k t=k.id++58::qx k.sec t:=by simp[mY]
 rw[e1]
 unfold mG
 rw[Uo (afi hw t),Option.bind_some]
 simp only[Qo he]
 rw[if_neg (by decide),e2,Uo (ahU _ _),Option.bind_some]
 simp only
 rw[if_neg (by rw[ahV];decide),if_neg (by rw[hw];decide)]
theorem acJ {l:List Key}{now:Int}(h:eqK (qE l now) dK=false):aX (qE l now).id=true:=by
 obtain⟨h1,h2,_⟩:=JO h
 obtain⟨_,hg,_⟩:=(Vt l).1 h1
 exact (hg _ h2).1
theorem Zv {l:List Key}{s:List UInt8}{now:Int}(h:(fJ l s now).2=0):eqK (qE l now) dK=false∧(fJ l s now).1=mY (qE l now) s:=by
 unfold fJ at h ⊢
 split at h
 ·cases h
 ·rename_i he;rw[if_neg he];exact⟨by simpa using he,rfl⟩
theorem XV {l:List Key}{a:As}{now:Int}{s:List UInt8}(h:kP l a now=(s,0)):∃t,dw a=(t,0)∧eqK (qE l now) dK=false∧s=t++[126]++mY (qE l now) t:=by
 unfold kP at h
 split at h
 ·rename_i h1
  have:=congrArg Prod.snd h
  simp only at this
  rw[this] at h1;simp at h1
 split at h
 ·rename_i h1
  have:=congrArg Prod.snd h
  simp only at this
  rw[this] at h1;simp at h1
 ·rename_i h1 h2
  have h3:(fJ l (dw a).1 now).2=0:=by simpa using h2
  obtain⟨q1,q2⟩:=Zv h3
  refine⟨(dw a).1,Prod.ext rfl (by simpa using h1),q1,?_⟩
  have:=congrArg Prod.fst h
  simp only at this
  rw[← this,q2]
theorem Ut {l:List Key}{a:As}{now:Int}{s:List UInt8}(h:kP l a now=(s,0)):mG s=some ((dw a).1,(qE l now).id,qx (qE l now).sec (dw a).1,nrm a):=by
 obtain⟨t,h1,h2,rfl⟩:=XV h
 rw[Us h1 (acJ h2),h1]
def kQ:List UInt8:=[105,100,112]
def H7:List UInt8:=[109,101]
def ZP:List UInt8:=[114,49]
def PI:kK:=LV kQ [115]
def Zw:At:=⟨[99,110],false,[[97],[98]]⟩
def rM:As:=⟨[97,49],[105,100,112],[109,101],[97,110,110],[114,49],10,30,2,false,[Zw]⟩
theorem Uu:iI [⟨[67,78],false,[[98],[97]]⟩]=[Zw]:=by
 have hs:bT [[98],[97]]=[[97],[98]]:=tq (by decide) (by unfold Asc;decide) (by intro x;simp;exact Or.comm)
 have hl:bg [67,78]=[99,110]:=by decide
 simp[iI,UH,hs,hl,Zw]
theorem acK:nrm lJ=rM:=by
 show As.mk _ _ _ _ _ _ _ _ (iI [⟨[67,78],false,[[98],[97]]⟩]).isEmpty (iI [⟨[67,78],false,[[98],[97]]⟩])=_
 rw[Uu];rfl
theorem XW:lJ.ok:=by
 refine⟨⟨by decide,by decide,by decide,by decide,by decide⟩,⟨by unfold iL;decide,by unfold iL;decide,by unfold iL;decide⟩,by decide,nofun,?_⟩
 intro x hx
 have:x=⟨[67,78],false,[[98],[97]]⟩:=by simpa [lJ] using hx
 subst this
 exact⟨by decide,by decide,nofun,by simp⟩
theorem Uw:bC lJ=0:=by decide +kernel
theorem Zx:Lib.itoa 10=[49,48]∧Lib.itoa 30=[51,48]∧Lib.itoa 2=[50]:=by
 refine⟨?_,?_,?_⟩ <;> simp[Lib.itoa,Lib.decDigits]
def TL:List UInt8:=(dw lJ).1
theorem KU:h_ lJ=bU lT (aF [97,49])++bU fP (aF [105,100,112])++bU gQ (aF [109,101])++bU iJ (aF [97,110,110])++bU jk (aF [114,49])++bU jO [49,48]++bU kY [51,48]++bU oz [50]++Hg Zw:=by
 obtain⟨h1,h2,h3⟩:=Zx
 unfold h_
 show lI lJ++((iI [⟨[67,78],false,[[98],[97]]⟩]).map Hg).flatten=_
 rw[Uu]
 show (bU lT (aF [97,49])++bU fP (aF [105,100,112])++bU gQ (aF [109,101])++bU iJ (aF [97,110,110])++bU jk (aF [114,49])++bU jO (Lib.itoa 10)++bU kY (Lib.itoa 30)++bU oz (Lib.itoa 2))++_=_
 rw[h1,h2,h3]
 simp
theorem Ee:(h_ lJ).length=91:=by rw[KU];decide +kernel
theorem xJ:dw lJ=(TL,0):=by
 have:dw lJ=(h_ lJ,0):=Qn Uw rfl (by rw[Ee];decide)
 unfold TL;rw[this]
theorem agh:TL=h_ lJ:=by
 have:dw lJ=(h_ lJ,0):=Qn Uw rfl (by rw[Ee];decide)
 unfold TL;rw[this]
theorem Ef:TL.length=91:=by rw[agh,Ee]
theorem afj:TL.take 6=[105,100,61,97,49,10]:=by rw[agh,KU];decide +kernel
def afk:As:=⟨[97,49],[105,100,112],[109,101],[97,110,110],[],10,30,2,false,[⟨[67,78],false,[[98],[97]]⟩]⟩
theorem ahW:afk.ok:=by
 refine⟨⟨by decide,by decide,by decide,by decide,by decide⟩,⟨by unfold iL;decide,by unfold iL;decide,by unfold iL;decide⟩,by decide,nofun,?_⟩
 intro x hx
 have:x=⟨[67,78],false,[[98],[97]]⟩:=by simpa [afk] using hx
 subst this
 exact⟨by decide,by decide,nofun,by simp⟩
theorem acL:bC afk=5:=by decide +kernel
def kX:Key:=oL [115]
theorem acM:qE [kX] 10=kX:=by kernel_rfl
theorem acN:eqK (qE [kX] 10) dK=false:=by kernel_rfl
def SL:List UInt8:=TL++[126]++mY kX TL
theorem acO:kP [kX] lJ 10=(SL,0):=by
 have hs:fJ [kX] TL 10=(mY kX TL,0):=by
  unfold fJ;rw[acN,acM];rfl
 rw[V9 (by rw[xJ];rfl) (by rw[xJ];rw[hs];rfl),xJ]
 show (TL++[126]++(fJ [kX] TL 10).1,(0:Int))=_
 rw[hs];rfl
theorem acP:∀k∈[kX],k.ok:=by simp[kX,oL,Key.ok]
theorem ajT:(SL == TL++[126,107,49,58]++qx [115] TL)=true:=by simp[SL,mY,kX,oL]
theorem Qz:SL.length≤1099511627776:=by
 have:=Ef
 have:=sW [115] TL
 simp[SL,mY,kX,oL, *]
theorem acQ:mG SL=some (TL,[107,49],qx [115] TL,rM):=by
 have:=Us (k:=kX) xJ (by decide)
 rw[acK] at this
 exact this
theorem afl:mG []=none:=by
 unfold mG
 rcases rJ 126 [] with⟨h,_⟩ | ⟨i,hi,_⟩
 ·rw[Wp h];rfl
 ·simp at hi
def ML:TS:=[(kQ,PI,0)]
theorem XY:PI.ok:=⟨by decide,by decide,by decide,nofun,by simp[PI,LV,oL,Key.ok]⟩
theorem OM:TS.ok ML:=by
 intro e he
 rw[List.mem_singleton.1 he]
 exact⟨XY,by simp[PI,LV]⟩
theorem acR:TS.ok []:=by simp[TS.ok]
theorem OO:anch [] 0 PI 0=(0,ML,1):=VD (by decide +kernel) (by decide) rfl rfl
def R0:Rc:=⟨H7,0,[],0,[],0⟩
def R1:Rc:=⟨H7,0,[(ZP,(kQ,40),0)],1,[],0⟩
def R2:Rc:=⟨H7,0,[],1,[([97,49],30,0)],1⟩
def R3:Rc:=⟨H7,0,[(ZP,(kQ,40),1)],2,[([97,49],30,0)],1⟩
theorem acS:R0.ok:=⟨GL.nil _,GL.nil _,by decide,by decide,by decide⟩
theorem acT:R1.ok:=⟨⟨by simp[R1],by simp[R1],by simp[R1]⟩,GL.nil _,by decide,by decide,by decide⟩
theorem agi:R2.ok:=⟨GL.nil _,⟨by simp[R2],by simp[R2],by simp[R2]⟩,by decide,by decide,by decide⟩
theorem ajU:R3.ok:=⟨⟨by simp[R3],by simp[R3],by simp[R3]⟩,⟨by simp[R3],by simp[R3],by simp[R3]⟩,by decide,by decide,by decide⟩
theorem acU:newE H7 0=0:=by decide +kernel
theorem XZ:newE H7 601=2:=by decide +kernel
theorem ahX:iQ 0 0=0:=by decide
theorem Zy (now:Int):u_ [] now=[]:=rfl
theorem kD (now:Int):fQ [] now=[]:=by simp[fQ,Zy,Oh]
theorem acV {n:Int}(h:aZ n<40):u_ R1.rq n=R1.rq:=by simp[u_,R1,h]
theorem Ux {n:Int}(h:aZ n<40):fQ R1.rq n=[ZP]:=by
 unfold fQ
 rw[acV h]
 simp[R1,bT]
theorem Zz:qB R0 ZP kQ 40 5=(0,R1):=by
 rw[Um (by decide) (by decide) (by decide) (by show (fQ [] 5).contains ZP=false;rw[kD];rfl) (by show decide (((fQ [] 5).length:Int)≥256)=false;rw[kD];rfl)]
 rfl
theorem ZA:qB R1 ZP kQ 40 5=(7,R1):=agb (by decide) (by decide) (by decide) (by rw[Ux (by decide)];simp)
theorem ZB:qB R2 ZP kQ 40 11=(0,R3):=by
 rw[Um (by decide) (by decide) (by decide) (by show (fQ [] 11).contains ZP=false;rw[kD];rfl) (by show decide (((fQ [] 11).length:Int)≥256)=false;rw[kD];rfl)]
 rfl
theorem ZC:rH R1.rq 10= .slice 1 false [[.str ZP]] none:=by
 unfold rH;rw[Ux (by decide)];rfl
theorem H8 {r:Rc}{now:Int}(hs:r.self=H7)(hk:r.skew=0)(hn:now=10∨now=12):lV ML r SL now=Wq r rM now:=by
 have hf:gY ML rM.iP=some PI:=rfl
 have hc:(f_ PI.f PI.u now 0 != 0)=false:=by rcases hn with rfl|rfl <;> decide
 have ha:kV PI.keys [107,49] now 0=(kX,0):=by rcases hn with rfl|rfl <;> kernel_rfl
 have hw:(f_ rM.jd rM.fG now 0 != 0)=false:=by rcases hn with rfl|rfl <;> decide
 rw[XU acQ hf hc,hs,hk,ha,if_neg (by decide),if_neg (by simp[kX,oL]),if_neg (by decide),if_neg (by rw[hw];decide)]
theorem QA:lV ML R0 [] 10=(bD,4,R0):=agd afl
theorem ZE:lV ML R0 SL 10=(bD,6,R0):=by rw[H8 rfl rfl (.inl rfl)];rfl
theorem ZF:lV ML R1 SL 10=(rM,0,R2):=by
 rw[H8 rfl rfl (.inl rfl),KT (q:=(kQ,40)) rfl,if_neg (by decide),if_neg (by decide)]
 have hu:l7 R1.us R1.uc rM.id (iQ rM.fG R1.skew) 10=(0,[([97,49],30,0)],1):=by
  rw[Wi (by decide) (by decide) rfl];rfl
 rw[hu];rfl
theorem ZG:lV ML R2 SL 10=(bD,6,R2):=by rw[H8 rfl rfl (.inl rfl)];rfl
theorem ZH:lV ML R3 SL 12=(bD,18,R3):=by
 rw[H8 rfl rfl (.inr rfl),KT (q:=(kQ,40)) rfl,if_neg (by decide),if_neg (by decide)]
 have hu:l7 R3.us R3.uc rM.id (iQ rM.fG R3.skew) 12=(18,[([97,49],30,0)],1):=Wh (old:=30) (by decide) (by decide) rfl (by decide)
 rw[hu];rfl
theorem ahY:aG Pr 22 [.str H7,.int .i64 0] [] (.aJ [.ref 3 0,.int .i64 0]) [(2,.map (mE kH R0.rq) R0.rc),(3,.box 107 [.str R0.self,.int .i64 R0.skew,.map 2,.ref 4 0]),(4,.box 171 [.map 5,.int .i64 256]),(5,.map (mE oJ R0.us) R0.uc)]:=by
 have:=Ui H7 0 (by decide) acU
 rw[ahX] at this
 exact this
set_option maxRecDepth 10000
set_option maxHeartbeats 16000000
set_option maxRecDepth 200000
theorem ajV:decide ((TL.length:Int)<6)=false:=by rw[Ef];decide
theorem ajW:(6≤TL.length)=True:=eq_true (by rw[Ef];decide)
theorem sN1:rM.sub=[97,110,110]:=rfl
theorem sN2:rM.ats=[Zw]:=rfl
theorem sN3:rM.nl=false:=rfl
theorem aI1:Zw.name=[99,110]:=rfl
theorem lw1:(((1:Nat):Int) != 1)=false:=by decide
theorem lw2:(((1:Nat):Int) == 1)=true:=by decide
theorem lw3:(((0:Nat):Int) == 0)=true:=by decide
abbrev gJ:List Nat:=[0,1,2,3,5,6,7,8,9,10,11,13,15,16,17,18,19,20,22,23,25,26,55,99,181]
theorem fF:ak Pr 10 [] (.bool true):=by
 refine ak.W Tryz.func10 Tryz.ntmps10 ?_
 simp only[ay]
 refine WP.S gJ fun _ z=>?_;simp +decide only[TF,St.lay,dl,↓reduceIte];apply z;clear z
 refine WP.S gJ fun _ z=>?_
 simp +decide only[TF,↓reduceIte]
 refine aj.I (afV) rfl rfl ?_
 simp +decide only[TF,St.lay,dl,↓reduceIte]
 apply z;clear z
 refine WP.S gJ fun _ z=>?_
 simp +decide only[TF,↓reduceIte]
 refine aj.I (ahY) rfl rfl ?_
 simp +decide only[TF,St.lay,dl,↓reduceIte]
 apply z;clear z
 refine WP.S gJ fun _ z=>?_
 simp +decide only[TF,↓reduceIte]
 refine aj.pure (Uj H7 601 (by decide) (by rw[XZ];decide)) rfl rfl (by simp[As.cs]) ?_
 simp +decide only[TF,XZ,St.lay,dl,↓reduceIte]
 apply z;clear z
 apply WP.seq
 refine WP.S gJ fun _ z=>?_
 simp +decide only[TF,St.lay,dl,↓reduceIte]
 refine aj.pure (z_ kQ [115] (by decide)) rfl rfl (by simp[As.cs]) ?_
 simp +decide only[TF,St.lay,dl,↓reduceIte]
 refine aj.I (JU [] 0 acR PI XY 0) rfl rfl ?_
 simp +decide only[TF,OO,St.lay,dl,↓reduceIte]
 apply z;clear z
 iterate 2 first|(apply WP.skip;show WP ..)|refine WP.cF ?_
 refine WP.S gJ fun _ z=>?_
 simp +decide only[TF,↓reduceIte]
 refine aj.pure (acy) rfl rfl (by simp[As.cs]) ?_
 simp +decide only[TF,St.lay,dl,As.cs,↓reduceIte]
 apply z;clear z
 iterate 2 (refine WP.S gJ fun _ z=>?_;simp +decide only[TF,St.lay,dl,↓reduceIte];apply z;clear z)
 refine WP.S gJ fun _ z=>?_
 simp +decide only[TF,St.lay,dl,↓reduceIte]
 refine aj.pure (jY lJ XW) rfl rfl (by simp[At.cs]) ?_
 simp +decide only[TF,xJ,St.lay,dl,↓reduceIte]
 apply z;clear z
 refine WP.D gJ fun _ z=>?_
 simp +decide only[TF,↓reduceIte]
 refine aj.pure (Qu [115]) rfl rfl (by simp[As.cs]) ?_
 simp +decide only[TF,St.lay,dl,↓reduceIte]
 refine aj.pure (yF [kX] false (by decide) nofun acP lJ XW 10) rfl rfl (by simp[At.cs,Key.cs,oL,kX]) ?_
 simp +decide only[TF,acO,St.lay,dl,↓reduceIte]
 refine z _ _ (by kernel_rfl) ?_;clear z
 apply WP.seq
 refine WP.S gJ fun _ z=>?_
 simp +decide only[TF,St.lay,dl,↓reduceIte]
 refine aj.pure (zX afk ahW) rfl rfl (by simp[At.cs]) ?_
 simp +decide only[TF,acL,ajV,ajW,afj,St.lay,dl,↓reduceIte]
 refine⟨by rw[Ef];decide,?_⟩
 refine aj.pure (aa' [115] TL (by decide) (by rw[Ef];decide)) rfl rfl (by simp[As.cs]) ?_
 simp +decide only[TF,ajT,St.lay,dl,↓reduceIte]
 refine⟨by rw[List.length_append,Ef,sW];decide,?_⟩
 apply z;clear z
 iterate 2 first|(apply WP.skip;show WP ..)|refine WP.cF ?_
 refine WP.S gJ fun _ z=>?_
 simp +decide only[TF,St.lay,dl,↓reduceIte]
 refine aj.I (tZ ML 1 OM R0 acS [] (by decide) 10) rfl rfl ?_
 simp +decide only[TF,QA,St.lay,dl,As.cs,↓reduceIte]
 apply z;clear z
 refine WP.S gJ fun _ z=>?_
 simp +decide only[TF,St.lay,dl,↓reduceIte]
 refine aj.I (tZ ML 1 OM R0 acS SL Qz 10) rfl rfl ?_
 simp +decide only[TF,ZE,St.lay,dl,As.cs,↓reduceIte]
 apply z;clear z
 refine WP.S gJ fun _ z=>?_
 simp +decide only[TF,St.lay,dl,↓reduceIte]
 refine aj.I (yG R0 acS ZP kQ 40 5 (by decide) (by decide)) rfl rfl ?_
 simp +decide only[TF,Zz,St.lay,dl,↓reduceIte]
 refine aj.I (yG R1 acT ZP kQ 40 5 (by decide) (by decide)) rfl rfl ?_
 simp +decide only[TF,ZA,St.lay,dl,↓reduceIte]
 apply z;clear z
 refine WP.S gJ fun _ z=>?_
 simp +decide only[TF,St.lay,dl,↓reduceIte]
 refine aj.I (Ed R1 acT 10) rfl rfl ?_
 simp +decide only[TF,ZC,St.lay,dl,↓reduceIte]
 apply z;clear z
 refine WP.S gJ fun _ z=>?_
 simp +decide only[TF,St.lay,dl,↓reduceIte]
 refine aj.I (tZ ML 1 OM R1 acT SL Qz 10) rfl rfl ?_
 simp +decide only[TF,ZF,sN1,sN2,sN3,aI1,St.lay,dl,As.cs,At.cs,↓reduceIte]
 apply z;clear z
 refine WP.S gJ fun _ z=>?_
 simp +decide only[TF,St.lay,dl,↓reduceIte]
 refine aj.I (tZ ML 1 OM R2 agi SL Qz 10) rfl rfl ?_
 simp +decide only[TF,ZG,St.lay,dl,As.cs,↓reduceIte]
 apply z;clear z
 refine WP.S gJ fun _ z=>?_
 simp +decide only[TF,St.lay,dl,↓reduceIte]
 refine aj.I (yG R2 agi ZP kQ 40 11 (by decide) (by decide)) rfl rfl ?_
 simp +decide only[TF,ZB,St.lay,dl,↓reduceIte]
 apply z;clear z
 refine WP.S gJ fun _ z=>?_
 simp +decide only[TF,St.lay,dl,↓reduceIte]
 refine aj.I (tZ ML 1 OM R3 ajU SL Qz 12) rfl rfl ?_
 simp +decide only[TF,ZH,St.lay,dl,As.cs,↓reduceIte]
 apply z;clear z
 iterate 5 first|(refine WP.S gJ fun _ z=>?_;simp +decide only[TF,lw1,St.lay,dl,↓reduceIte];apply z;clear z)|(apply WP.skip;show WP ..)|refine WP.cF ?_|apply WP.seq
 refine WP.S gJ fun _ z=>?_
 simp +decide only[TF,lw2,St.lay,dl,↓reduceIte]
 refine aj.pure (LX [114] [112] 5 1) rfl rfl (by simp[As.cs]) ?_
 simp +decide only[TF,St.lay,dl,↓reduceIte]
 refine aj.pure (LW 1) rfl rfl (by simp[As.cs]) ?_
 simp +decide only[TF,lw3,St.lay,dl,↓reduceIte]
 apply z;clear z
 apply WP.ret
 exact Ends.P rfl (Le.of_eq (by simp +decide only[St.get,W,↓reduceIte]))
set_option maxRecDepth 10000
def mO (s:List UInt8):List (List UInt8):=(bn 10 [] s).dropLast
def okR (s:List UInt8):Bool:=(bn 10 [] s).getLastD [] == []
theorem acW {s:List UInt8}{l:List (List UInt8)}{x:List UInt8}(h:bn 10 [] s=l++[x]):mO s=l∧okR s=(x == []):=by
 unfold mO okR
 rw[h]
 exact⟨List.dropLast_concat,by rw[List.getLastD_concat]⟩
theorem drop_nil {s:List UInt8}{f:Nat}(hf:f≤s.length):((s.drop f) == [])=((f:Int) == (s.length:Int)):=by
 rw[Bool.eq_iff_iff,beq_iff_eq,beq_iff_eq,List.drop_eq_nil_iff]
 omega
theorem X0 (s:List UInt8):(mO s).length≤s.length:=by
 unfold mO
 have:=(n_ 10 s []).1
 rw[List.length_dropLast];omega
theorem X3 {s x:List UInt8}(h:x∈mO s):x.length≤s.length:=by
 have:=qp 10 s [] x (List.dropLast_subset _ h)
 simpa using this
def qI (p s:List UInt8):Option (List UInt8):=if s.take p.length=p then some (s.drop p.length) else none
theorem ajX {p s:List UInt8}(h:s.length<p.length):qI p s=none:=by
 unfold qI
 rw[if_neg]
 intro e
 have:=congrArg List.length e
 rw[List.length_take] at this
 omega
theorem ajY {p s:List UInt8}(h:(s.take p.length == p)=false):qI p s=none:=by
 unfold qI
 rw[if_neg (by simpa using h)]
theorem ajZ {p s:List UInt8}(h:(s.take p.length == p)=true):qI p s=some (s.drop p.length):=by
 unfold qI
 rw[if_pos (by simpa using h)]
theorem mF (k v:List UInt8):qI (k++[61]) (D8 k v)=some v:=by
 unfold qI D8
 rw[List.take_left' rfl,if_pos rfl,List.drop_left' rfl]
theorem yI {p s q:List UInt8}(h:qI p s=some q):q.length≤s.length:=by
 unfold qI at h
 split at h
 ·cases h;simp
 ·cases h
abbrev Hd:=List UInt8 × Int
def K8:List (List UInt8):=[lT,fP,gQ,iJ,jk,jO,kY,oz]
def hv1 (q:List UInt8):Hd:=((qG q).getD [],(uY q).1)
def QS:List (List UInt8)→List (List UInt8)→Option (List Hd)
 | [],_=>some []
 |k::ks,x::l=>match qI (k++[61]) x with
  |none=>none
  |some q=>(QS ks l).map (hv1 q::·)
 | _::_,[]=>none
theorem Uy {k x:List UInt8}{ks l:List (List UInt8)}(h:qI (k++[61]) x=none):QS (k::ks) (x::l)=none:=by simp[QS,h]
theorem kR {k x q:List UInt8}{ks l:List (List UInt8)}(h:qI (k++[61]) x=some q):QS (k::ks) (x::l)=(QS ks l).map (hv1 q::·):=by simp[QS,h]
def atR (x:List UInt8):Option At:=(qI (kZ++[61]) x).bind fun v=>(o8 v).bind fun l=>match l with|n::vs=>some ⟨n,false,vs⟩ | []=>none
def yQ:List (List UInt8)→List At→Option (List At)
 | [],acc=>some acc
 |x::l,acc=>(atR x).bind fun a=>yQ l (acc++[a])
def mkA:List Hd→List At→Option As
 | [p0,p1,p2,p3,p4,p5,p6,p7],l=>some ⟨p0.1,p1.1,p2.1,p3.1,p4.1,p5.2,p6.2,p7.2,l.isEmpty,l⟩
 | _,_=>none
def qC (s:List UInt8):Option As:=if (!(okR s))=true then none else if decide (((mO s).length:Int)<8)=true then none else (QS K8 (mO s)).bind fun h=>(yQ ((mO s).drop 8) []).bind fun l=>mkA h l
def Wu (o:Option As):D:=match o with|some a=> .aJ [.agg a.cs,.bool true]|none=> .aJ [.agg bD.cs,.bool false]
@[simp] theorem aj0 {S:Nat→Prop}(o:Option As):cZ S (Wu o)↔True:=by cases o <;> simp[Wu]
theorem acX (x:List UInt8):(qG (aF x)).getD []=x:=by rw[qw];rfl
theorem Eh {n:Int}(h:iL n):(uY (Lib.itoa n)).1=n:=by rw[SY n h.1 h.2]
theorem acY {x:At}(h1:x.nl=false):atR (D8 kZ (ng (x.name::x.vals)))=some x:=by
 unfold atR
 rw[mF,Option.bind_some,OA,Option.bind_some]
 obtain⟨nm,nl,vs⟩:=x
 simp only at h1;subst h1;rfl
theorem KW:∀(xs:List At) (acc:List At),(∀x∈xs,x.nl=false)→yQ (xs.map fun x=>D8 kZ (ng (x.name::x.vals))) acc=some (acc++xs)
 | [],acc,_=>by simp[yQ]
 |x::l,acc,h=>by
  rw[List.map_cons,yQ,acY (h x (by simp)),Option.bind_some,KW l _ fun y hy=>h y (List.mem_cons_of_mem _ hy)]
  simp
theorem Wv {a:As}(hc:bC a=0):qC (h_ a)=some (nrm a):=by
 obtain⟨_,⟨q6,q7,q8⟩,⟨q9,q10⟩,hA⟩:=fO hc
 have i1:iL a.jd:=⟨by omega,by omega⟩
 have i2:iL a.fG:=⟨by omega,by omega⟩
 have i3:iL a.lvl:=⟨by omega,by omega⟩
 obtain⟨e1,e2⟩:=acW (KH a)
 unfold qC
 rw[e1,e2,if_neg (by decide),if_neg (by simp[LU];omega)]
 have hd:QS K8 (LU a)=some [hv1 (aF a.id),hv1 (aF a.iP),hv1 (aF a.jI),hv1 (aF a.sub),hv1 (aF a.req),hv1 (Lib.itoa a.jd),hv1 (Lib.itoa a.fG),hv1 (Lib.itoa a.lvl)]:=by
  unfold LU K8
  simp only[List.cons_append,List.nil_append]
  rw[kR (mF _ _),kR (mF _ _),kR (mF _ _),kR (mF _ _),kR (mF _ _),kR (mF _ _),kR (mF _ _),kR (mF _ _)]
  rfl
 have ht:(LU a).drop 8=(iI a.ats).map fun x=>D8 kZ (ng (x.name::x.vals)):=rfl
 rw[hd,Option.bind_some,ht,KW _ _ fun x hx=>(oC hA hx).2.1,Option.bind_some,List.nil_append]
 simp only[mkA,hv1,acX,Eh i1,Eh i2,Eh i3]
 rfl
def QB (s:List UInt8):As × Int:=
 if decide ((s.length:Int)>4096)=true then (bD,3) else match qC s with
  |none=>(bD,4)
  |some a=>if ((dw a).2 != 0)=true then (bD,4) else if ((dw a).1 == s)=false then (bD,4) else (nrm a,0)
theorem CS (s:List UInt8):QB s=ig s:=by
 rcases KO s with⟨h1,h2⟩ | ⟨h1,h2,h3⟩ | ⟨h1,b,h2,h3,h4,h5⟩
 ·rw[h2];unfold QB;rw[if_pos (by simp;omega)]
 ·rw[h2]
  unfold QB
  rw[if_neg (by simp;omega)]
  cases hp:qC s with
  |none=>rfl
  |some a=>
   simp only
   split
   ·rfl
   split
   ·rfl
   ·rename_i g1 g2
    exact absurd (Prod.ext (by simpa using g2) (by simpa using g1)) (h3 a)
 ·rw[h2]
  obtain⟨e1,e2,_⟩:=o9 h3
  have hp:=Wv e1
  rw[e2,h4] at hp
  unfold QB
  rw[if_neg (by simp;omega),hp]
  simp only[h3,h4]
  rw[if_neg (by decide),if_neg (by simp)]
theorem alP {s:List UInt8}(h:decide ((s.length:Int)>4096)=true):ig s=(bD,3):=by rw[← CS];unfold QB;rw[if_pos h]
theorem alQ {s:List UInt8}(h:decide ((s.length:Int)>4096)=false)(hp:qC s=none):ig s=(bD,4):=by rw[← CS];unfold QB;rw[if_neg (by rw[h];decide),hp]
theorem alR {s:List UInt8}{a:As}(h:decide ((s.length:Int)>4096)=false)(hp:qC s=some a)(h2:((dw a).2 != 0)=true):ig s=(bD,4):=by
 rw[← CS];unfold QB;rw[if_neg (by rw[h];decide),hp];exact if_pos h2
theorem alS {s:List UInt8}{a:As}(h:decide ((s.length:Int)>4096)=false)(hp:qC s=some a)(h2:((dw a).2 != 0)=false)(h3:((dw a).1 == s)=false):ig s=(bD,4):=by
 rw[← CS];unfold QB;rw[if_neg (by rw[h];decide),hp];simp only[h2,h3];rfl
theorem alT {s:List UInt8}{a:As}(h:decide ((s.length:Int)>4096)=false)(hp:qC s=some a)(h2:((dw a).2 != 0)=false)(h3:((dw a).1 == s)=true):ig s=(nrm a,0):=by
 rw[← CS];unfold QB;rw[if_neg (by rw[h];decide),hp];simp only[h2,h3];rfl
section
variable {s:List UInt8}
theorem aj1 (h:okR s=false):qC s=none:=by unfold qC;rw[if_pos (by rw[h];rfl)]
theorem aj2 (h:okR s=true)(h2:decide (((mO s).length:Int)<8)=true):qC s=none:=by unfold qC;rw[if_neg (by rw[h];decide),if_pos h2]
theorem aj3 (h:okR s=true)(h2:decide (((mO s).length:Int)<8)=false)(h3:QS K8 (mO s)=none):qC s=none:=by unfold qC;rw[if_neg (by rw[h];decide),if_neg (by rw[h2];decide),h3];rfl
theorem acZ {hs:List Hd}(h:okR s=true)(h2:decide (((mO s).length:Int)<8)=false)(h3:QS K8 (mO s)=some hs)(h4:yQ ((mO s).drop 8) []=none):qC s=none:=by unfold qC;rw[if_neg (by rw[h];decide),if_neg (by rw[h2];decide),h3,Option.bind_some,h4];rfl
theorem aj6 {hs:List Hd}{l:List At}(h:okR s=true)(h2:decide (((mO s).length:Int)<8)=false)(h3:QS K8 (mO s)=some hs)(h4:yQ ((mO s).drop 8) []=some l):qC s=mkA hs l:=by unfold qC;rw[if_neg (by rw[h];decide),if_neg (by rw[h2];decide),h3,Option.bind_some,h4,Option.bind_some]
end
theorem aj7 {l:List Hd}(h:l.length=8):∃p0 p1 p2 p3 p4 p5 p6 p7,l=[p0,p1,p2,p3,p4,p5,p6,p7]:=by
 match l,h with
 | [p0,p1,p2,p3,p4,p5,p6,p7],_=>exact⟨_,_,_,_,_,_,_,_,rfl⟩
def ac0 (l:List Hd):Prop:=∀p∈l,p.1.length≤4096∧iL p.2
theorem ac1 {q:List UInt8}(h:q.length≤4096):(hv1 q).1.length≤4096∧iL (hv1 q).2:=⟨Nat.le_trans (ad6 q) h,XM q⟩
theorem ac0.snoc {l:List Hd}{p:Hd}(h:ac0 l)(hp:p.1.length≤4096∧iL p.2):ac0 (l++[p]):=by
 intro x hx
 rcases List.mem_append.1 hx with hx|hx
 ·exact h x hx
 ·rw[List.mem_singleton] at hx;subst hx;exact hp
theorem OQ {n:List UInt8}{vs:List (List UInt8)}{s:List UInt8}(hs:s.length≤4096)(h:o8 s=some (n::vs)):(At.mk n false vs).ok:=by
 obtain⟨h1,h2⟩:=Ug h
 exact⟨Nat.le_trans (h2 n (by simp)) (by omega),Nat.le_trans (show vs.length≤s.length+1 by simp at h1 ⊢;omega) (by omega),nofun,fun x hx=>Nat.le_trans (h2 x (List.mem_cons_of_mem _ hx)) (by omega)⟩
theorem OT (x:List UInt8):(qI (kZ++[61]) x=none∧atR x=none)∨(∃q,qI (kZ++[61]) x=some q∧o8 q=none∧atR x=none)∨(∃q,qI (kZ++[61]) x=some q∧o8 q=some []∧atR x=none)∨
  ∃q n vs,qI (kZ++[61]) x=some q∧o8 q=some (n::vs)∧atR x=some ⟨n,false,vs⟩:=by
 unfold atR
 cases h:qI (kZ++[61]) x with
 |none=>exact .inl ⟨rfl,rfl⟩
 |some q=>
  cases hs:o8 q with
  |none=>exact .inr (.inl ⟨q,rfl,hs,by simp only[Option.bind_some,hs];rfl⟩)
  |some l=>
   match l,hs with
   | [],hs=>exact .inr (.inr (.inl ⟨q,rfl,hs,by simp only[Option.bind_some,hs]⟩))
   |n::vs,hs=>exact .inr (.inr (.inr ⟨q,n,vs,rfl,hs,by simp only[Option.bind_some,hs]⟩))
theorem yJ {x:List UInt8}{l:List (List UInt8)}{acc:List At}(h:atR x=none):yQ (x::l) acc=none:=by rw[yQ,h];rfl
theorem X4 {x:List UInt8}{l:List (List UInt8)}{acc:List At}{a:At}(h:atR x=some a):yQ (x::l) acc=yQ l (acc++[a]):=by rw[yQ,h];rfl
def Hl (o:Option (List UInt8)):D:= .aJ [.str (o.getD []),.bool o.isSome]
@[simp] theorem aj8 {S:Nat→Prop}(o:Option (List UInt8)):cZ S (Hl o)↔True:=by simp[Hl]
set_option maxRecDepth 10000
theorem ac2:∀{ks l:List (List UInt8)} {h:List Hd},(∀x∈l,x.length≤4096)→QS ks l=some h→ac0 h
 | [],l,h,_,e=>by simp only[QS,Option.some.injEq] at e;subst e;intro p hp;simp at hp
 |k::ks,[],h,_,e=>by simp[QS] at e
 |k::ks,x::l,h,hl,e=>by
  cases ha:qI (k++[61]) x with
  |none=>rw[Uy ha] at e;cases e
  |some q=>
   rw[kR ha,Option.map_eq_some_iff] at e
   obtain⟨m,hm,rfl⟩:=e
   intro p hp
   rcases List.mem_cons.1 hp with rfl|hp
   ·exact ac1 (Nat.le_trans (yI ha) (hl x (by simp)))
   ·exact ac2 (fun y hy=>hl y (List.mem_cons_of_mem _ hy)) hm p hp
theorem X5:∀{l:List (List UInt8)} {acc r:List At},(∀x∈l,x.length≤4096)→GK acc→yQ l acc=some r→GK r∧r.length≤acc.length+l.length
 | [],acc,r,_,ha,e=>by simp only[yQ,Option.some.injEq] at e;subst e;exact⟨ha,by simp⟩
 |x::l,acc,r,hl,ha,e=>by
  rcases OT x with⟨_,h⟩ | ⟨q,_,_,h⟩ | ⟨q,_,_,h⟩ | ⟨q,n,vs,h1,h2,h⟩
  ·rw[yJ h] at e;cases e
  ·rw[yJ h] at e;cases e
  ·rw[yJ h] at e;cases e
  ·rw[X4 h] at e
   have hq:=Nat.le_trans (yI h1) (hl x (by simp))
   obtain⟨h3,h4⟩:=X5 (fun y hy=>hl y (List.mem_cons_of_mem _ hy)) (ha.snoc (OQ hq h2)) e
   exact⟨h3,by simp at h4 ⊢;omega⟩
theorem afm {s:List UInt8}{a:As}(hs:s.length≤4096)(h:qC s=some a):a.ok:=by
 unfold qC at h
 split at h
 ·cases h
 split at h
 ·cases h
 rw[Option.bind_eq_some_iff] at h
 obtain⟨hd,h1,h⟩:=h
 rw[Option.bind_eq_some_iff] at h
 obtain⟨l,h2,h⟩:=h
 have hm:∀x∈mO s,x.length≤4096:=fun x hx=>Nat.le_trans (X3 hx) hs
 have b1:=ac2 hm h1
 obtain⟨b2,b3⟩:=X5 (fun x hx=>hm x (List.mem_of_mem_drop hx)) (show GK [] from nofun) h2
 have b4:=X0 s
 unfold mkA at h
 split at h
 ·cases h
  rename_i p0 p1 p2 p3 p4 p5 p6 p7
  have c:=fun p hp=>b1 p hp
  have q0:=c p0 (by simp);have q1:=c p1 (by simp);have q2:=c p2 (by simp);have q3:=c p3 (by simp);have q4:=c p4 (by simp);have q5:=c p5 (by simp);have q6:=c p6 (by simp);have q7:=c p7 (by simp)
  exact⟨⟨Nat.le_trans q0.1 (by omega),Nat.le_trans q1.1 (by omega),Nat.le_trans q2.1 (by omega),Nat.le_trans q3.1 (by omega),Nat.le_trans q4.1 (by omega)⟩,⟨q5.2,q6.2,q7.2⟩,Nat.le_trans b3 (by simp;omega),fun e=>List.isEmpty_iff.1 e,b2⟩
 ·cases h
theorem afn {o:Option (List Hd)}{acc:List Hd}{p:Hd}:(o.map (p::·)).map (acc++·)=o.map ((acc++[p])++·):=by cases o <;> simp
theorem ac3:o8 []=some [[]]:=by decide +kernel
theorem QC:K8.length=8:=rfl
theorem X6:∀k∈K8,k.length≤8:=by decide
theorem yK:Le (.aJ [.agg [.str [],.str [],.str [],.str [],.str [],.int .i64 0,.int .i64 0,.int .i64 0,.slice 0 true [] none],.bool false]) (Wu none):=
 Le.aJ ⟨Le.agg ⟨Le.refl _,Le.refl _,Le.refl _,Le.refl _,Le.refl _,Le.refl _,Le.refl _,Le.refl _,Le.nil _ _ _,trivial⟩,Le.refl _,trivial⟩
theorem Wx:ak Pr 44 [] (.slice 1 false (K8.map fun x=>[D.str x]) none):=Oy
theorem afo {S:Nat→Prop}(l:List Hd):(∀e∈l.map (fun p=>[D.int .i64 p.2]),∀d∈e,cZ S d)↔True:=by
 simp only[iff_true,List.mem_map]
 rintro e ⟨x,_,rfl⟩ d hd
 simp only[List.mem_singleton] at hd;subst hd;exact .int _ _
theorem afp {S:Nat→Prop}(l:List Hd):(∀e∈l.map (fun p=>[D.str p.1]),∀d∈e,cZ S d)↔True:=by
 simp only[iff_true,List.mem_map]
 rintro e ⟨x,_,rfl⟩ d hd
 simp only[List.mem_singleton] at hd;subst hd;exact .str _
set_option maxHeartbeats 4000000
theorem d40:((4:Int) != 0)=true:=by decide
theorem ac4 {α:Type}{l:List α}{k:Nat}(h:k<l.length):l.isEmpty=false:=by cases l <;> simp at *
abbrev oH:List Nat:=[0,2,3,4,5,6,10,16]
theorem Uz (s:List UInt8)(hs:s.length≤1099511627776):ak Pr 105 [.str s] (.aJ [.slice 1 (mO s).isEmpty ((mO s).map (fun x=>[D.str x])) none,.bool (okR s)]):=by
 refine ak.W Tryz.func105 Tryz.ntmps105 ?_
 simp only[ay]
 iterate 4 first|(refine WP.S oH fun _ z=>?_;simp +decide only[TF,↓reduceIte];apply z;clear z)|apply WP.seq
 refine WP.S [0,4,5,6] fun _ z=>?_;simp +decide only[TF,↓reduceIte];apply z;clear z
 apply WP.block
 refine WP.lp [0] (X:={x:(Nat) × (Nat) × (List (List UInt8)) // match x with|(k,f,out)=>f≤k∧out.length≤k∧k≤s.length∧bn 10 [] s=out++bn 10 ((s.take k).drop f) (s.drop k)}) (fun x=>match x with| ⟨(k,f,out),_⟩=>[(4,.slice 1 out.isEmpty (out.map (fun x=>[D.str x])) (some 0)),(5,.int .i64 f),(6,.int .i64 k)]) (fun x=>match x with| ⟨(k,f,out),_⟩=>[(0,.aS 9 1 out.length)]) (fun x=>match x with| ⟨(k,f,out),_⟩=>s.length - k) (by simp +decide only[W,↓reduceIte];rfl) ?_ ⟨(0,0,[]),⟨Nat.le_refl _,Nat.le_refl _,Nat.zero_le _,by simp⟩⟩ ?_
 rotate_left
 ·refine Weak.trans (Weak.store (st':=⟨[(6,.int .i64 0),(5,.int .i64 0),(4,.slice 0 true [] none),(0,.str s)],[]⟩) (by simp[St.get,lk,keep,ins,W,Le.refl]) (by simp[lk]) (by simp[lk]) (by simp[aA,lk]) (by simp[lk])) ?_;refine Weak.trans (Weak.ghost 0 9 1 (F':=[(6,.int .i64 0),(5,.int .i64 0),(4,.slice 1 true [] (some 0)),(0,.str s)]) (σ':=[]) (by simp[lk]) (by simp[Ac,zC]) (by simp[Dq])) ?_;exact Weak.store (by simp[St.get,lk,Le.refl]) (by simp[lk]) (by simp[lk]) (by simp[aA,lk]) (by simp[lk])
 rintro ⟨⟨k,f,out⟩,hfk,ho,hks,hI⟩
 dsimp only
 simp only[List.cons_append,List.nil_append]
 iterate 2 first|(refine WP.S oH fun _ z=>?_;simp +decide only[TF,↓reduceIte];apply z;clear z)|apply WP.seq
 refine WP.cond rfl (fun q1=>?_) (fun q1=>?_)
 ·have hlt:=aK q1
  have hg:=j_ hlt
  rw[dI hlt,bn] at hI
  iterate 4 first|(refine WP.S oH fun _ z=>?_;simp +decide only[TF,q1,hg,↓reduceIte];apply z;clear z)|(apply WP.skip;show WP ..)|apply WP.block|apply WP.seq
  refine WP.cond rfl (fun q2=>?_) (fun q2=>?_)
  ·have hsc:((s[k].toNat:Int) == ((10:UInt8).toNat:Int))=true:=q2
   refine WP.S oH fun _ z=>?_
   simp +decide only[TF,hfk,hks,q2,↓reduceIte]
   refine⟨⟨by simp only[List.length_append,List.length_map,List.length_cons,List.length_nil];omega,by simp only[List.length_append,List.length_map,List.length_cons,List.length_nil];omega⟩,?_⟩
   apply z;clear z
   iterate 2 first|(refine WP.R fun _ z=>?_;simp +decide only[TF,↓reduceIte];apply z;clear z;show WP ..)|(refine WP.R fun _ z=>?_;simp +decide only[TF,↓reduceIte];apply z;clear z)
   show ∃y,_∧Weak _ _ _
   rw[if_pos hsc] at hI
   refine⟨⟨(k+1,k+1,out++[(s.take k).drop f]),?_⟩,?_,?_⟩
   ·exact⟨Nat.le_refl _,by simp;omega,by dsimp only;omega,by rw[hI];simp⟩
   ·dsimp only;omega
   exact Weak.store (by simp[St.get,lk,Le.refl,aa2,aT hlt (show s.length≤140737488355328 by omega)]) (by simp[lk]) (by simp[lk,fE,-List.map_append,-List.mem_map,-List.mem_append]) (by simp[aA,lk,-List.map_append,-List.mem_map,-List.mem_append]) (by simp[lk])
  have hsc:((s[k].toNat:Int) == ((10:UInt8).toNat:Int))=false:=q2
  iterate 2 first|(refine WP.R fun _ z=>?_;simp +decide only[TF,q2,↓reduceIte];apply z;clear z)|(apply WP.skip;show WP ..)
  show ∃y,_∧Weak _ _ _
  rw[if_neg (by rw[hsc];decide)] at hI
  refine⟨⟨(k+1,f,out),?_⟩,?_,?_⟩
  ·refine⟨by dsimp only;omega,by dsimp only;omega,by dsimp only;omega,?_⟩;dsimp only;rw[hI,MB hlt,List.drop_append_of_le_length (by simp;omega)]
  ·dsimp only;omega
  exact Weak.store (by simp[St.get,lk,Le.refl,aT hlt (show s.length≤140737488355328 by omega)]) (by simp[lk]) (by simp[lk,fE,-List.map_append,-List.mem_map,-List.mem_append]) (by simp[aA,lk,-List.map_append,-List.mem_map,-List.mem_append]) (by simp[lk])
 have hge:=aN q1
 have hfs:f≤s.length:=by omega
 rw[eP hge,List.take_of_length_le hge,bn] at hI
 obtain⟨hL1,hL2⟩:=acW hI
 iterate 2 first|(refine WP.S oH fun _ z=>?_;simp +decide only[TF,q1,↓reduceIte];apply z;clear z)|(apply WP.exit;show WP ..)
 apply WP.ret
 exact Ends.pure (d:= .aJ [_,_]) (.inr rfl) rfl (by rw[hL1,hL2,drop_nil hfs];exact Le.aJ ⟨Le.trans (Le.fg _) (Le.of_eq (by simp[fg,St.get,lk,W])),Le.of_eq (by simp[St.get,W]),trivial⟩) (by simp[fE])
theorem lN (p s:List UInt8)(hp:p.length≤100)(hs:s.length≤1099511627776):ak Pr 106 [.str s,.str p] (Hl (qI p s)):=by
 refine ak.W Tryz.func106 Tryz.ntmps106 ?_
 simp only[ay,Nat.zero_add]
 iterate 2 first|(refine WP.S [0,1,4,5,18] fun _ z=>?_;simp +decide only[TF,↓reduceIte];apply z;clear z)|apply WP.seq
 refine WP.S [0,1,4,5,18] fun _ z=>?_
 refine ah.take 6 fun J hJ=>?_
 simp +decide only[TF,↓reduceIte]
 refine hJ _ _ ?_;clear hJ J
 refine ah.part 11 rfl (fun q1=>?_) (fun q1=>?_)
 ·have hR:=ajX (p:=p) (s:=s) (by have:=of_decide_eq_true q1;omega)
  simp +decide only[TF,q1,↓reduceIte]
  apply z;clear z
  iterate 2 first|(refine WP.S [0,1,4,5,18] fun _ z=>?_;simp +decide only[TF,↓reduceIte];apply z;clear z)|refine WP.cT ?_
  apply WP.ret
  exact Ends.P (d:= .aJ [_,_]) rfl (Le.of_eq (by simp[St.get,lk,W,Hl,hR]))
 have hle:p.length≤s.length:=by have:=of_decide_eq_false q1;omega
 simp +decide only[TF,q1,hle,↓reduceIte]
 apply z;clear z
 refine WP.cond rfl (fun q2=>?_) (fun q2=>?_)
 ·have hR:=ajY (by simpa using q2)
  refine WP.S [0,1,4,5,18] fun _ z=>?_;simp +decide only[TF,q2,↓reduceIte];apply z;clear z
  apply WP.ret
  exact Ends.P (d:= .aJ [_,_]) rfl (Le.of_eq (by simp[St.get,lk,W,Hl,hR]))
 have hR:=ajZ (by simpa using q2)
 iterate 2 first|(refine WP.S [0,1,4,5,18] fun _ z=>?_;simp +decide only[TF,hle,q2,↓reduceIte];apply z;clear z)|(apply WP.skip;show WP ..)
 apply WP.ret
 exact Ends.P (d:= .aJ [_,_]) rfl (Le.of_eq (by simp[St.get,lk,W,Hl,hR]))
abbrev aV:List Nat:=[0,2,3,4,5,6,7,8,9,10,11,12,14,16,17,18,19,20,21,36,41,58,108,134]
theorem KX (s:List UInt8)(hs:s.length≤4096):ak Pr 55 [.str s] (Wu (qC s)):=by
 have hm:∀x∈mO s,x.length≤4096:=fun x hx=>Nat.le_trans (X3 hx) hs
 have hln:=X0 s
 have hKL:=QC
 refine ak.W Tryz.func55 Tryz.ntmps55 ?_
 simp only[ay]
 refine WP.S aV fun _ z=>?_;simp +decide only[TF,↓reduceIte];apply z;clear z
 refine WP.S aV fun _ z=>?_
 simp +decide only[TF,↓reduceIte]
 refine aj.P (Uz s (by omega)) rfl rfl ?_
 simp +decide only[TF,↓reduceIte]
 apply z;clear z
 refine WP.S aV fun _ z=>?_
 simp +decide only[TF,↓reduceIte]
 refine aj.pure Wx rfl rfl (by simp) ?_
 simp +decide only[TF,↓reduceIte]
 apply z;clear z
 apply WP.seq
 rcases hq:okR s with _ | _
 ·have hR:=aj1 hq
  iterate 3 first|(refine WP.S aV fun _ z=>?_;simp +decide only[TF,↓reduceIte];apply z;clear z)|refine WP.cT ?_
  apply WP.ret
  exact Ends.P (d:= .aJ [_,_]) rfl (by rw[hR];exact Le.trans (Le.of_eq (by simp +decide only[St.get,W,aB,gI,↓reduceIte])) yK)
 refine WP.S aV fun _ z=>?_;simp +decide only[TF,QC,↓reduceIte];apply z;clear z
 refine WP.cond rfl (fun q1=>?_) (fun q1=>?_)
 ·have hR:=aj2 hq q1
  refine WP.S aV fun _ z=>?_;simp +decide only[TF,q1,↓reduceIte];apply z;clear z
  apply WP.ret
  exact Ends.P (d:= .aJ [_,_]) rfl (by rw[hR];exact Le.trans (Le.of_eq (by simp +decide only[St.get,W,aB,gI,↓reduceIte])) yK)
 have h8:decide (((mO s).length:Int)<8)=false:=q1
 have h8n:8≤(mO s).length:=by simp at h8;omega
 iterate 4 first|(refine WP.S aV fun _ z=>?_;simp +decide only[TF,q1,↓reduceIte];apply z;clear z)|(apply WP.skip;show WP ..)|apply WP.seq
 refine WP.S [2,4,6,7,8,9] fun _ z=>?_;simp +decide only[TF,↓reduceIte];apply z;clear z
 apply WP.block
 refine WP.lp [2,4,6] (X:={x:(Nat) × (List Hd) // match x with|(k,acc)=>k≤8∧acc.length=k∧QS K8 (mO s)=(QS (K8.drop k) ((mO s).drop k)).map (acc++·)∧ac0 acc}) (fun x=>match x with| ⟨(k,acc),_⟩=>[(7,.slice 1 acc.isEmpty (acc.map fun p=>[D.str p.1]) (some 1)),(8,.slice 1 acc.isEmpty (acc.map fun p=>[D.int .i64 p.2]) (some 2)),(9,.int .i64 k)]) (fun x=>match x with| ⟨(k,acc),_⟩=>[(1,.aS 9 1 acc.length),(2,.aS 3 1 acc.length),(0,.box 24 [.str [],.str [],.str [],.str [],.str [],.int .i64 0,.int .i64 0,.int .i64 0,.slice 0 true [] none])]) (fun x=>match x with| ⟨(k,acc),_⟩=>8 - k) (by simp +decide only[W,↓reduceIte];rfl) ?_ ⟨(0,[]),⟨Nat.zero_le _,rfl,by simp,nofun⟩⟩ ?_
 rotate_left
 ·refine Weak.trans (Weak.store (st':=⟨[(9,.int .i64 0),(8,.slice 0 true [] none),(7,.slice 0 true [] none),(2,.ref 0 0),(4,.slice 1 (mO s).isEmpty ((mO s).map fun x=>[D.str x]) none),(6,.slice 1 false (K8.map fun x=>[D.str x]) none)],[(0,.box 24 [.str [],.str [],.str [],.str [],.str [],.int .i64 0,.int .i64 0,.int .i64 0,.slice 0 true [] none])]⟩) (by simp[St.get,lk,keep,ins,W,Le.refl]) (by simp[lk]) (by simp[lk]) (by simp[aA,lk]) (by simp[lk])) ?_;refine Weak.trans (Weak.ghost 1 9 1 (F':=[(9,.int .i64 0),(8,.slice 0 true [] none),(7,.slice 1 true [] (some 1)),(2,.ref 0 0),(4,.slice 1 (mO s).isEmpty ((mO s).map fun x=>[D.str x]) none),(6,.slice 1 false (K8.map fun x=>[D.str x]) none)]) (σ':=[(0,.box 24 [.str [],.str [],.str [],.str [],.str [],.int .i64 0,.int .i64 0,.int .i64 0,.slice 0 true [] none])]) (by simp[lk]) (by simp[Ac,zC]) (by simp[Dq,Rj,UF,zC])) ?_;refine Weak.trans (Weak.ghost 2 3 1 (F':=[(9,.int .i64 0),(8,.slice 1 true [] (some 2)),(7,.slice 1 true [] (some 1)),(2,.ref 0 0),(4,.slice 1 (mO s).isEmpty ((mO s).map fun x=>[D.str x]) none),(6,.slice 1 false (K8.map fun x=>[D.str x]) none)]) (σ':=[(1,.aS 9 1 0),(0,.box 24 [.str [],.str [],.str [],.str [],.str [],.int .i64 0,.int .i64 0,.int .i64 0,.slice 0 true [] none])]) (by simp[lk]) (by simp[Ac,zC]) (by simp[Dq,Rj,UF,zC])) ?_;exact Weak.store (by simp[St.get,lk,Le.refl]) (by simp[lk]) (by simp[lk]) (by simp[aA,lk]) (by simp[lk])
 rintro ⟨⟨k,acc⟩,hk8,hal,hI,hHO⟩
 dsimp only
 simp only[List.cons_append,List.nil_append]
 iterate 2 first|(refine WP.S aV fun _ z=>?_;simp +decide only[TF,QC,↓reduceIte];apply z;clear z)|apply WP.seq
 refine WP.cond rfl (fun q2=>?_) (fun q2=>?_)
 ·have hlt:=aK q2
  have hlL:k<(mO s).length:=by omega
  have hg:(K8.map fun x=>[D.str x])[k]?=some [D.str K8[k]]:=getM hlt
  have hg2:((mO s).map fun x=>[D.str x])[k]?=some [D.str (mO s)[k]]:=getM hlL
  have hnf:(mO s).isEmpty=false:=ac4 hlL
  rw[dI hlt,dI hlL] at hI
  iterate 3 first|(apply WP.skip;show WP ..)|apply WP.block|apply WP.seq
  rcases ha:qI (K8[k]++[61]) (mO s)[k] with _|q
  ·have hR:=aj3 hq h8 (by rw[hI,Uy ha];rfl)
   refine WP.D aV fun _ z=>?_
   simp +decide only[TF,q2,hg,hg2,hnf,↓reduceIte]
   refine⟨by have:=X6 _ (List.getElem_mem hlt);omega,?_⟩
   refine aj.P (lN (K8[k]++[61]) (mO s)[k] (by have:=X6 _ (List.getElem_mem hlt);simp;omega) (by have:=hm _ (List.getElem_mem hlL);omega)) rfl rfl ?_
   simp +decide only[TF,ha,Hl,↓reduceIte]
   refine z _ _ (by kernel_rfl) ?_;clear z
   iterate 4 first|(refine WP.S aV fun _ z=>?_;simp +decide only[TF,↓reduceIte];apply z;clear z)|refine WP.cT ?_|apply WP.seq
   apply WP.ret
   exact Ends.P (d:= .aJ [_,_]) rfl (by rw[hR];exact Le.trans (Le.of_eq (by simp +decide only[St.get,W,aB,gI,↓reduceIte])) yK)
  have hql:=Nat.le_trans (yI ha) (hm _ (List.getElem_mem hlL))
  refine WP.D aV fun _ z=>?_
  simp +decide only[TF,q2,hg,hg2,hnf,↓reduceIte]
  refine⟨by have:=X6 _ (List.getElem_mem hlt);omega,?_⟩
  refine aj.P (lN (K8[k]++[61]) (mO s)[k] (by have:=X6 _ (List.getElem_mem hlt);simp;omega) (by have:=hm _ (List.getElem_mem hlL);omega)) rfl rfl ?_
  simp +decide only[TF,ha,Hl,↓reduceIte]
  refine z _ _ (by kernel_rfl) ?_;clear z
  iterate 4 first|(refine WP.S aV fun _ z=>?_;simp +decide only[TF,↓reduceIte];apply z;clear z)|(apply WP.skip;show WP ..)|refine WP.cF ?_|apply WP.seq
  refine WP.S aV fun _ z=>?_
  simp +decide only[TF,↓reduceIte]
  refine aj.P (uK q (by omega)) rfl rfl ?_
  simp +decide only[TF,ahe,adV,↓reduceIte]
  apply z;clear z
  refine WP.S aV fun _ z=>?_
  simp +decide only[TF,↓reduceIte]
  refine aj.P (SA q (by omega)) rfl rfl ?_
  simp +decide only[TF,Ld,↓reduceIte]
  apply z;clear z
  refine WP.S aV fun _ z=>?_
  simp +decide only[TF,↓reduceIte]
  refine⟨⟨by simp only[List.length_append,List.length_map,List.length_cons,List.length_nil];omega,by simp only[List.length_append,List.length_map,List.length_cons,List.length_nil];omega⟩,?_⟩
  apply z;clear z
  refine WP.R fun _ z=>?_
  simp +decide only[TF,↓reduceIte]
  refine⟨⟨by simp only[List.length_append,List.length_map,List.length_cons,List.length_nil];omega,by simp only[List.length_append,List.length_map,List.length_cons,List.length_nil];omega⟩,?_⟩
  apply z;clear z
  show WP ..
  refine WP.R fun _ z=>?_;simp +decide only[TF,↓reduceIte];apply z;clear z
  show ∃y,_∧Weak _ _ _
  refine⟨⟨(k+1,acc++[hv1 q]),?_⟩,?_,?_⟩
  ·exact⟨by dsimp only;omega,by simp;omega,by rw[hI,kR ha];exact afn,hHO.snoc (ac1 hql)⟩
  ·dsimp only;omega
  exact Weak.store (by simp[St.get,lk,Le.refl,aa2,hv1,aT hlt (show K8.length≤140737488355328 by omega),hnf]) (by simp[lk,hv1]) (by simp[lk,fE,afp,afo,-List.map_append,-List.mem_map,-List.mem_append]) (by simp[aA,lk,-List.map_append,-List.mem_map,-List.mem_append]) (by simp[lk])
 have hge:=aN q2
 rw[eP hge] at hI
 have hI8:QS K8 (mO s)=some acc:=by rw[hI];simp[QS]
 obtain⟨p0,p1,p2,p3,p4,p5,p6,p7,rfl⟩:=aj7 (show acc.length=8 by omega)
 iterate 3 first|(refine WP.D aV fun _ z=>?_;simp +decide only[TF,q2,↓reduceIte];refine z _ _ (by kernel_rfl) ?_;clear z)|(apply WP.exit;show WP ..)|apply WP.seq
 refine WP.S [2,4,16,17] fun _ z=>?_;simp +decide only[TF,QC,↓reduceIte];apply z;clear z
 apply WP.block
 refine WP.lp [2,4,16] (X:={x:(Nat) × (List At) // match x with|(k,at2)=>k≤(mO s).length∧yQ ((mO s).drop 8) []=yQ ((mO s).drop k) at2∧GK at2∧at2.length≤k}) (fun x=>match x with| ⟨(k,at2),_⟩=>[(17,.int .i64 k)]) (fun x=>match x with| ⟨(k,at2),_⟩=>[(4,.aS 75 2 at2.length),(3,.box 24 [.str p0.1,.str p1.1,.str p2.1,.str p3.1,.str p4.1,.int .i64 p5.2,.int .i64 p6.2,.int .i64 p7.2,.slice 2 at2.isEmpty (at2.map At.cs) (some 4)]),(0,.box 24 [.str [],.str [],.str [],.str [],.str [],.int .i64 0,.int .i64 0,.int .i64 0,.slice 0 true [] none])]) (fun x=>match x with| ⟨(k,at2),_⟩=>(mO s).length - k) (by simp +decide only[W,↓reduceIte];rfl) ?_ ⟨(8,[]),⟨h8n,rfl,nofun,Nat.zero_le _⟩⟩ ?_
 rotate_left
 ·refine Weak.trans (Weak.store (st':=⟨[(17,.int .i64 8),(2,.ref 0 0),(4,.slice 1 (mO s).isEmpty ((mO s).map fun x=>[D.str x]) none),(16,.ref 3 0)],[(3,.box 24 [.str p0.1,.str p1.1,.str p2.1,.str p3.1,.str p4.1,.int .i64 p5.2,.int .i64 p6.2,.int .i64 p7.2,.slice 0 true [] none]),(0,.box 24 [.str [],.str [],.str [],.str [],.str [],.int .i64 0,.int .i64 0,.int .i64 0,.slice 0 true [] none])]⟩) (by simp[St.get,lk,keep,ins,W,Le.refl]) (by simp[lk]) (by simp[lk]) (by simp[aA,lk]) (by simp[lk])) ?_;refine Weak.trans (Weak.ghost 4 75 2 (F':=[(17,.int .i64 8),(2,.ref 0 0),(4,.slice 1 (mO s).isEmpty ((mO s).map fun x=>[D.str x]) none),(16,.ref 3 0)]) (σ':=[(3,.box 24 [.str p0.1,.str p1.1,.str p2.1,.str p3.1,.str p4.1,.int .i64 p5.2,.int .i64 p6.2,.int .i64 p7.2,.slice 2 true (([]:List At).map At.cs) (some 4)]),(0,.box 24 [.str [],.str [],.str [],.str [],.str [],.int .i64 0,.int .i64 0,.int .i64 0,.slice 0 true [] none])]) (by simp[lk]) (by simp[Ac,zC]) (by simp[Dq,Rj,UF,zC])) ?_;exact Weak.store (by simp[St.get,lk,Le.refl]) (by simp[lk]) (by simp[lk]) (by simp[aA,lk]) (by simp[lk])
 rintro ⟨⟨k,at2⟩,hk,hI,hAO,hal2⟩
 dsimp only
 simp only[List.cons_append,List.nil_append]
 iterate 2 first|(refine WP.S aV fun _ z=>?_;simp +decide only[TF,↓reduceIte];apply z;clear z)|apply WP.seq
 refine WP.cond rfl (fun q3=>?_) (fun q3=>?_)
 ·have hlt:=aK q3
  have hg:((mO s).map fun x=>[D.str x])[k]?=some [D.str (mO s)[k]]:=getM hlt
  have hnf:(mO s).isEmpty=false:=ac4 hlt
  rw[dI hlt] at hI
  iterate 3 first|(apply WP.skip;show WP ..)|apply WP.block|apply WP.seq
  rcases OT (mO s)[k] with⟨ha,ht⟩ | ⟨q,ha,hu,ht⟩ | ⟨q,ha,hu,ht⟩ | ⟨q,n,l,ha,hu,ht⟩
  ·have hR:=acZ hq h8 hI8 (by rw[hI];exact yJ ht)
   refine WP.S aV fun _ z=>?_
   simp +decide only[TF,q3,hg,hnf,↓reduceIte]
   refine aj.P (lN (kZ++[61]) (mO s)[k] (by decide) (by have:=hm _ (List.getElem_mem hlt);omega)) rfl rfl ?_
   simp +decide only[TF,ha,Hl,↓reduceIte]
   apply z;clear z
   refine WP.S aV fun _ z=>?_
   simp +decide only[TF,↓reduceIte]
   refine aj.P (yD [] (by decide)) rfl rfl ?_
   simp +decide only[TF,ac3,tX,↓reduceIte]
   apply z;clear z
   iterate 4 first|(refine WP.S aV fun _ z=>?_;simp +decide only[TF,↓reduceIte];apply z;clear z)|refine WP.cT ?_|apply WP.seq
   apply WP.ret
   exact Ends.P (d:= .aJ [_,_]) rfl (by rw[hR];exact Le.trans (Le.of_eq (by simp +decide only[St.get,W,aB,gI,↓reduceIte])) yK)
  ·have hR:=acZ hq h8 hI8 (by rw[hI];exact yJ ht)
   have hql:=Nat.le_trans (yI ha) (hm _ (List.getElem_mem hlt))
   refine WP.S aV fun _ z=>?_
   simp +decide only[TF,q3,hg,hnf,↓reduceIte]
   refine aj.P (lN (kZ++[61]) (mO s)[k] (by decide) (by have:=hm _ (List.getElem_mem hlt);omega)) rfl rfl ?_
   simp +decide only[TF,ha,Hl,↓reduceIte]
   apply z;clear z
   refine WP.S aV fun _ z=>?_
   simp +decide only[TF,↓reduceIte]
   refine aj.P (yD q (by omega)) rfl rfl ?_
   simp +decide only[TF,hu,tX,↓reduceIte]
   apply z;clear z
   iterate 4 first|(refine WP.S aV fun _ z=>?_;simp +decide only[TF,d40,↓reduceIte];apply z;clear z)|refine WP.cT ?_|apply WP.seq
   apply WP.ret
   exact Ends.P (d:= .aJ [_,_]) rfl (by rw[hR];exact Le.trans (Le.of_eq (by simp +decide only[St.get,W,aB,gI,↓reduceIte])) yK)
  ·have hR:=acZ hq h8 hI8 (by rw[hI];exact yJ ht)
   have hql:=Nat.le_trans (yI ha) (hm _ (List.getElem_mem hlt))
   have hz:(((0:Nat):Int) == 0)=true:=by decide
   refine WP.S aV fun _ z=>?_
   simp +decide only[TF,q3,hg,hnf,↓reduceIte]
   refine aj.P (lN (kZ++[61]) (mO s)[k] (by decide) (by have:=hm _ (List.getElem_mem hlt);omega)) rfl rfl ?_
   simp +decide only[TF,ha,Hl,↓reduceIte]
   apply z;clear z
   refine WP.S aV fun _ z=>?_
   simp +decide only[TF,↓reduceIte]
   refine aj.P (yD q (by omega)) rfl rfl ?_
   simp +decide only[TF,hu,tX,↓reduceIte]
   apply z;clear z
   iterate 4 first|(refine WP.S aV fun _ z=>?_;simp +decide only[TF,hz,↓reduceIte];apply z;clear z)|refine WP.cT ?_|apply WP.seq
   apply WP.ret
   exact Ends.P (d:= .aJ [_,_]) rfl (by rw[hR];exact Le.trans (Le.of_eq (by simp +decide only[St.get,W,aB,gI,↓reduceIte])) yK)
  have hql:=Nat.le_trans (yI ha) (hm _ (List.getElem_mem hlt))
  have hl2:(((l.length+1:Nat):Int) == 0)=false:=by rw[beq_eq_false_iff_ne];omega
  have hao:=OQ hql hu
  have h1l:(1≤l.length+1)=True:=eq_true (by omega)
  have htk:List.take l.length (l.map fun x=>[D.str x])=l.map fun x=>[D.str x]:=List.take_of_length_le (by simp)
  refine WP.S aV fun _ z=>?_
  simp +decide only[TF,q3,hg,hnf,↓reduceIte]
  refine aj.P (lN (kZ++[61]) (mO s)[k] (by decide) (by have:=hm _ (List.getElem_mem hlt);omega)) rfl rfl ?_
  simp +decide only[TF,ha,Hl,↓reduceIte]
  apply z;clear z
  refine WP.S aV fun _ z=>?_
  simp +decide only[TF,↓reduceIte]
  refine aj.P (yD q (by omega)) rfl rfl ?_
  simp +decide only[TF,hu,tX,↓reduceIte]
  apply z;clear z
  iterate 4 first|(refine WP.S aV fun _ z=>?_;simp +decide only[TF,hl2,↓reduceIte];apply z;clear z)|(apply WP.skip;show WP ..)|refine WP.cF ?_|apply WP.seq
  refine WP.E fun _ z=>?_
  simp +decide only[TF,h1l,htk,↓reduceIte]
  refine⟨⟨by simp only[List.length_append,List.length_map,List.length_cons,List.length_nil];omega,by simp only[List.length_append,List.length_map,List.length_cons,List.length_nil];omega⟩,?_⟩
  refine z _ _ (by kernel_rfl) ?_;clear z
  show WP ..
  refine WP.R fun _ z=>?_;simp +decide only[TF,↓reduceIte];apply z;clear z
  show ∃y,_∧Weak _ _ _
  refine⟨⟨(k+1,at2++[⟨n,false,l⟩]),?_⟩,?_,?_⟩
  ·exact⟨by dsimp only;omega,by rw[hI];exact X4 ht,hAO.snoc hao,by simp;omega⟩
  ·dsimp only;omega
  exact Weak.store (by simp[St.get,lk,Le.refl,aT hlt (show (mO s).length≤140737488355328 by omega),hnf]) (by simp[lk,aa2,At.cs,List.length_cons,List.map_cons]) (by simp[lk,fE,-List.map_append,-List.mem_map,-List.mem_append]) (by simp[aA,lk,aO,-List.map_append,-List.mem_map,-List.mem_append]) (by simp[lk])
 have hge:=aN q3
 rw[eP hge] at hI
 have hR:qC s=some _:=aj6 hq h8 hI8 hI
 apply WP.exit;show WP ..
 refine WP.weak (st':=⟨[(2,.ref 0 0),(16,.ref 3 0)],[(3,.box 24 [.str p0.1,.str p1.1,.str p2.1,.str p3.1,.str p4.1,.int .i64 p5.2,.int .i64 p6.2,.int .i64 p7.2,.slice 2 at2.isEmpty (at2.map At.cs) none]),(0,.box 24 [.str [],.str [],.str [],.str [],.str [],.int .i64 0,.int .i64 0,.int .i64 0,.slice 0 true [] none])]⟩) ?_ ?_
 ·refine Weak.trans (Weak.aiJ 3 24 [.str p0.1,.str p1.1,.str p2.1,.str p3.1,.str p4.1,.int .i64 p5.2,.int .i64 p6.2,.int .i64 p7.2,.slice 2 at2.isEmpty (at2.map At.cs) (some 4)] [.str p0.1,.str p1.1,.str p2.1,.str p3.1,.str p4.1,.int .i64 p5.2,.int .i64 p6.2,.int .i64 p7.2,.slice 2 at2.isEmpty (at2.map At.cs) none] (by simp[lk]) ⟨Le.refl _,Le.refl _,Le.refl _,Le.refl _,Le.refl _,Le.refl _,Le.refl _,Le.refl _,Le.fg _,trivial⟩) ?_
  exact Weak.store (by simp[St.get,lk,W,Le.refl]) (by simp[lk,W]) (by simp[lk]) (by simp[aA,lk]) (by simp[lk])
 refine WP.S aV fun _ z=>?_;simp +decide only[TF,↓reduceIte];apply z;clear z
 apply WP.ret
 exact Ends.P (d:= .aJ [_,_]) rfl (by rw[hR];exact Le.of_eq (by simp +decide only[Wu,As.cs,St.get,W,aB,gI,↓reduceIte]))
abbrev gU:List Nat:=[0,2,3,4,5,6,7,10,18,31]
theorem Wy (s:List UInt8)(hs:s.length≤1099511627776):ak Pr 14 [.str s] (iy s):=by
 refine ak.W Tryz.func14 Tryz.ntmps14 ?_
 simp only[ay]
 iterate 3 first|(refine WP.S gU fun _ z=>?_;simp +decide only[TF,↓reduceIte];apply z;clear z)|apply WP.seq
 refine WP.cond rfl (fun q1=>?_) (fun q1=>?_)
 ·have hR:=alP q1
  refine WP.S gU fun _ z=>?_;simp +decide only[TF,q1,↓reduceIte];apply z;clear z
  apply WP.ret
  exact Ends.pure (d:= .aJ [_,_]) (.inr rfl) rfl (by unfold iy;rw[hR];exact Le.trans (Le.of_eq (by simp +decide only[St.get,W,aB,gI,↓reduceIte])) (ni _)) (by simp[iy])
 have h0:=q1
 have hs4:s.length≤4096:=by simp at h0;omega
 apply WP.skip;show WP ..
 rcases hp:qC s with _|a
 ·have hR:=alQ h0 hp
  refine WP.S gU fun _ z=>?_
  simp +decide only[TF,q1,↓reduceIte]
  refine aj.P (KX s hs4) rfl rfl ?_
  simp +decide only[TF,hp,As.cs,Wu,↓reduceIte]
  apply z;clear z
  iterate 4 first|(refine WP.S gU fun _ z=>?_;simp +decide only[TF,↓reduceIte];apply z;clear z)|refine WP.cT ?_|apply WP.seq
  apply WP.ret
  exact Ends.pure (d:= .aJ [_,_]) (.inr rfl) rfl (by unfold iy;rw[hR];exact Le.trans (Le.of_eq (by simp +decide only[St.get,W,aB,gI,↓reduceIte])) (ni _)) (by simp[iy])
 have hao:=afm hs4 hp
 refine WP.S gU fun _ z=>?_
 simp +decide only[TF,q1,↓reduceIte]
 refine aj.P (KX s hs4) rfl rfl ?_
 simp +decide only[TF,hp,As.cs,Wu,↓reduceIte]
 apply z;clear z
 iterate 5 first|(refine WP.S gU fun _ z=>?_;simp +decide only[TF,↓reduceIte];apply z;clear z)|(apply WP.skip;show WP ..)|refine WP.cF ?_|apply WP.seq
 refine WP.S gU fun _ z=>?_
 simp +decide only[TF,↓reduceIte]
 refine aj.P (rU a hao) rfl rfl ?_
 simp +decide only[TF,↓reduceIte]
 apply z;clear z
 refine WP.S gU fun _ z=>?_
 refine ah.take 3 fun J hJ=>?_
 simp +decide only[TF,↓reduceIte]
 refine hJ _ _ ?_;clear hJ J
 refine ah.part 27 rfl (fun q2=>?_) (fun q2=>?_)
 ·have hR:=alR h0 hp q2
  simp +decide only[TF,q2,↓reduceIte]
  apply z;clear z
  iterate 2 first|(refine WP.S gU fun _ z=>?_;simp +decide only[TF,↓reduceIte];apply z;clear z)|refine WP.cT ?_
  apply WP.ret
  exact Ends.pure (d:= .aJ [_,_]) (.inr rfl) rfl (by unfold iy;rw[hR];exact Le.trans (Le.of_eq (by simp +decide only[St.get,W,aB,gI,↓reduceIte])) (ni _)) (by simp[iy])
 have h2:=q2
 simp +decide only[TF,q2,↓reduceIte]
 apply z;clear z
 refine WP.cond rfl (fun q3=>?_) (fun q3=>?_)
 ·have hR:=alS h0 hp h2 (by simpa using q3)
  refine WP.S gU fun _ z=>?_;simp +decide only[TF,q3,↓reduceIte];apply z;clear z
  apply WP.ret
  exact Ends.pure (d:= .aJ [_,_]) (.inr rfl) rfl (by unfold iy;rw[hR];exact Le.trans (Le.of_eq (by simp +decide only[St.get,W,aB,gI,↓reduceIte])) (ni _)) (by simp[iy])
 have h3:((dw a).1 == s)=true:=by simpa using q3
 have hR:=alT h0 hp h2 h3
 have hck:eF a.ats=0:=(fO (o9 (Prod.ext (by simpa using h3) (by simpa using h2):dw a=(s,0))).1).2.2.2
 apply WP.skip;show WP ..
 refine WP.S gU fun _ z=>?_
 simp +decide only[TF,q3,↓reduceIte]
 refine aj.P (uQ a.ats a.nl hao.2.2.1 hao.2.2.2.1 hao.2.2.2.2 (xw hck)) rfl rfl ?_
 simp +decide only[TF,↓reduceIte]
 apply z;clear z
 refine WP.S gU fun _ z=>?_;simp +decide only[TF,↓reduceIte];apply z;clear z
 apply WP.ret
 exact Ends.pure (d:= .aJ [_,_]) (.inr rfl) rfl (by unfold iy;rw[hR];exact Le.of_eq (by simp +decide only[nrm,As.cs,St.get,W,aB,gI,↓reduceIte])) (by simp[iy])
def lgV (v:List UInt8):Bool:=!(decide ((v.length:Int)>300))
def ZI (x:At):Bool:=!(decide ((x.name.length:Int)>300) || decide ((x.vals.length:Int)>8)) && x.vals.all lgV
def lgH (a:As):Bool:=decide ((a.id.length:Int)>300) || (decide ((a.iP.length:Int)>300) || (decide ((a.jI.length:Int)>300) || (decide ((a.sub.length:Int)>300) || (decide ((a.req.length:Int)>300) || decide ((a.ats.length:Int)>8)))))
def iR (a:As):Bool:=if lgH a=true then false else a.ats.all ZI
structure As.big (a:As):Prop where
 nl:a.nl=true→a.ats=[]
 rng:iL a.jd∧iL a.fG∧iL a.lvl
 ats:∀x∈a.ats,x.nl=true→x.vals=[]
theorem ahZ {x:At}(h:ZI x=true):x.name.length≤300∧x.vals.length≤8∧∀v∈x.vals,v.length≤300:=by
 simp only[ZI,lgV,Bool.and_eq_true,Bool.not_eq_true',Bool.or_eq_false_iff,decide_eq_false_iff_not,List.all_eq_true] at h
 obtain⟨⟨h1,h2⟩,h3⟩:=h
 exact⟨by omega,by omega,fun v hv=>by have:=h3 v hv;omega⟩
theorem ac5 {a:As}(h:iR a=true):(a.id.length≤300∧a.iP.length≤300∧a.jI.length≤300∧a.sub.length≤300∧a.req.length≤300)∧a.ats.length≤8∧∀x∈a.ats,ZI x=true:=by
 unfold iR at h
 split at h
 ·cases h
 ·rename_i hh
  rw[Bool.not_eq_true] at hh
  simp only[lgH,Bool.or_eq_false_iff,decide_eq_false_iff_not] at hh
  obtain⟨h1,h2,h3,h4,h5,h6⟩:=hh
  exact⟨⟨by omega,by omega,by omega,by omega,by omega⟩,by omega,List.all_eq_true.1 h⟩
theorem CU {a:As}(hb:a.big)(h:iR a=true):a.ok:=by
 obtain⟨⟨h1,h2,h3,h4,h5⟩,h6,h7⟩:=ac5 h
 refine⟨⟨by omega,by omega,by omega,by omega,by omega⟩,hb.rng,by omega,hb.nl,fun x hx=>?_⟩
 obtain⟨q1,q2,q3⟩:=ahZ (h7 x hx)
 exact⟨by omega,by omega,hb.ats x hx,fun v hv=>by have:=q3 v hv;omega⟩
def fwK (k:Key):Bool:=decide ((k.id.length:Int)>100) || decide ((k.sec.length:Int)>100)
def UA (l:List Key):Bool:=if (l.take 6).any fwK=true then false else decide ((l.length:Int)≤6)
theorem ah0 {l:List Key}(h:UA l=true):l.length≤6∧∀k∈l,k.ok:=by
 unfold UA at h
 split at h
 ·cases h
 ·rename_i hh
  have hl:l.length≤6:=by have:=of_decide_eq_true h;omega
  refine⟨hl,fun k hk=>?_⟩
  rw[List.take_of_length_le hl,Bool.not_eq_true,List.any_eq_false] at hh
  have:=hh k hk
  simp only[fwK,Bool.or_eq_true,decide_eq_true_eq,not_or] at this
  exact⟨by omega,by omega⟩
theorem ac6 {l:List Key}{k:Nat}(hk:k<l.length)(h6:k<6)(h:fwK l[k]=true):UA l=false:=by
 unfold UA
 rw[if_pos]
 rw[List.any_eq_true]
 exact⟨l[k],by rw[List.mem_take_iff_getElem];exact⟨k,by omega,rfl⟩,h⟩
theorem X7 {l:List Key}{k:Nat}(hk:l.length≤k∨6≤k)(h:((l.take k).take 6).any fwK=false):UA l=decide ((l.length:Int)≤6):=by
 unfold UA
 rw[if_neg]
 rw[Bool.not_eq_true]
 rcases hk with hk|hk
 ·rw[List.take_of_length_le hk] at h;exact h
 ·rw[List.take_take,Nat.min_eq_left hk] at h;exact h
theorem WA (ls:List (List UInt8))(nl:Bool)(hn:ls.length≤1099511627776)(hnl:nl=true→ls=[]):ak Pr 30 [.slice 1 nl (ls.map fun x=>[.str x]) none,.slice 1 nl (ls.map fun x=>[.str x]) none] (.bool true):=by
 refine ak.W Tryz.func30 Tryz.ntmps30 ?_
 simp only[ay,Nat.zero_add]
 iterate 6 first|(refine WP.S [0,1,4,5,10,14,25] fun _ z=>?_;simp +decide only[TF,↓reduceIte];apply z;clear z)|(apply WP.skip;show WP ..)|refine WP.cF ?_|apply WP.seq
 refine WP.S [0,1,5] fun _ z=>?_;simp +decide only[TF,↓reduceIte];apply z;clear z
 apply WP.block
 refine WP.lp [0,1] (X:={k:Nat // k≤ls.length}) (fun x=>match x with| ⟨(k),_⟩=>[(5,.int .i64 k)]) (fun x=>match x with| ⟨(k),_⟩=>[]) (fun x=>match x with| ⟨(k),_⟩=>ls.length - k) (by simp +decide only[W,↓reduceIte];rfl) ?_ ⟨(0),Nat.zero_le _⟩ ?_
 rotate_left
 ·exact Weak.nil (by simp[St.get,lk,W,Le.refl]) (by simp[W])
 rintro ⟨k,hk⟩
 dsimp only
 simp only[List.cons_append,List.nil_append]
 iterate 2 first|(refine WP.S [0,1,4,5,10,14,25] fun _ z=>?_;simp +decide only[TF,↓reduceIte];apply z;clear z)|apply WP.seq
 refine WP.cond rfl (fun q1=>?_) (fun q1=>?_)
 ·have hlt:=aK q1
  have hg:(ls.map fun x=>[D.str x])[k]?=some [D.str ls[k]]:=getM hlt
  have hnf:=bH hnl hlt
  iterate 7 first|(refine WP.D [0,1,4,5,10,14,25] fun _ z=>?_;simp +decide only[TF,q1,hg,hnf,↓reduceIte];refine z _ _ (by kernel_rfl) ?_;clear z)|(refine WP.R fun _ z=>?_;simp +decide only[TF,↓reduceIte];apply z;clear z)|(apply WP.skip;show WP ..)|apply WP.block|refine WP.cF ?_|apply WP.seq
  show ∃y,_∧Weak _ _ _
  refine⟨⟨k+1,by omega⟩,by dsimp only;omega,?_⟩
  exact Weak.nil (by simp[St.get,lk,Le.refl,aT hlt (show ls.length≤140737488355328 by omega),hnf]) (by simp[W])
 have hge:=aN q1
 iterate 2 first|(refine WP.S [0,1,4,5,10,14,25] fun _ z=>?_;simp +decide only[TF,q1,↓reduceIte];apply z;clear z)|(apply WP.exit;show WP ..)
 apply WP.ret
 exact Ends.P rfl (Le.of_eq (by simp +decide only[St.get,W,↓reduceIte]))
theorem WB (l:List At)(nl:Bool)(hn:l.length≤1099511627776)(hnl:nl=true→l=[])(hl:∀x∈l,x.ok):ak Pr 62 [.slice 2 nl (l.map At.cs) none,.slice 2 nl (l.map At.cs) none] (.bool true):=by
 refine ak.W Tryz.func62 Tryz.ntmps62 ?_
 simp only[ay,Nat.zero_add]
 iterate 6 first|(refine WP.S [0,1,4,5,10,14,41] fun _ z=>?_;simp +decide only[TF,↓reduceIte];apply z;clear z)|(apply WP.skip;show WP ..)|refine WP.cF ?_|apply WP.seq
 refine WP.S [0,1,5] fun _ z=>?_;simp +decide only[TF,↓reduceIte];apply z;clear z
 apply WP.block
 refine WP.lp [0,1] (X:={k:Nat // k≤l.length}) (fun x=>match x with| ⟨(k),_⟩=>[(5,.int .i64 k)]) (fun x=>match x with| ⟨(k),_⟩=>[]) (fun x=>match x with| ⟨(k),_⟩=>l.length - k) (by simp +decide only[W,↓reduceIte];rfl) ?_ ⟨(0),Nat.zero_le _⟩ ?_
 rotate_left
 ·exact Weak.nil (by simp[St.get,lk,W,Le.refl]) (by simp[W])
 rintro ⟨k,hk⟩
 dsimp only
 simp only[List.cons_append,List.nil_append]
 iterate 2 first|(refine WP.S [0,1,4,5,10,14,41] fun _ z=>?_;simp +decide only[TF,↓reduceIte];apply z;clear z)|apply WP.seq
 refine WP.cond rfl (fun q1=>?_) (fun q1=>?_)
 ·have hlt:=aK q1
  have hg:(l.map At.cs)[k]?=some (At.cs l[k]):=getM hlt
  have hnf:=bH hnl hlt
  iterate 3 first|(apply WP.skip;show WP ..)|apply WP.block|apply WP.seq
  refine WP.D [0,1,4,5,10,14,41] fun _ z=>?_
  simp +decide only[TF,q1,hg,hnf,At.cs,↓reduceIte]
  refine aj.pure (WA l[k].vals l[k].nl (hl _ (List.getElem_mem hlt)).2.1 (hl _ (List.getElem_mem hlt)).2.2.1) rfl rfl (by simp[fE]) ?_
  simp +decide only[TF,↓reduceIte]
  refine z _ _ (by kernel_rfl) ?_;clear z
  iterate 3 first|(refine WP.R fun _ z=>?_;simp +decide only[TF,↓reduceIte];apply z;clear z)|(apply WP.skip;show WP ..)|refine WP.cF ?_
  show ∃y,_∧Weak _ _ _
  refine⟨⟨k+1,by omega⟩,by dsimp only;omega,?_⟩
  exact Weak.nil (by simp[St.get,lk,Le.refl,aT hlt (show l.length≤140737488355328 by omega),hnf]) (by simp[W])
 have hge:=aN q1
 iterate 2 first|(refine WP.S [0,1,4,5,10,14,41] fun _ z=>?_;simp +decide only[TF,q1,↓reduceIte];apply z;clear z)|(apply WP.exit;show WP ..)
 apply WP.ret
 exact Ends.P rfl (Le.of_eq (by simp +decide only[St.get,W,↓reduceIte]))
theorem Aa (a:As)(ha:a.ok):ak Pr 17 [.agg [.str a.id,.str a.iP,.str a.jI,.str a.sub,.str a.req,.int .i64 a.jd,.int .i64 a.fG,.int .i64 a.lvl,.slice 2 a.nl (a.ats.map At.cs) none],.agg [.str a.id,.str a.iP,.str a.jI,.str a.sub,.str a.req,.int .i64 a.jd,.int .i64 a.fG,.int .i64 a.lvl,.slice 2 a.nl (a.ats.map At.cs) none]] (.bool true):=by
 refine ak.W Tryz.func17 Tryz.ntmps17 ?_
 simp only[ay,Nat.zero_add]
 refine WP.S [2,3,4] fun _ z=>?_;simp +decide only[TF,↓reduceIte];apply z;clear z
 refine WP.S [2,3,4] fun _ z=>?_
 simp +decide only[TF,↓reduceIte]
 refine aj.pure (WB a.ats a.nl ha.2.2.1 ha.2.2.2.1 ha.2.2.2.2) rfl rfl (by simp[aO]) ?_
 simp +decide only[TF,↓reduceIte]
 apply z;clear z
 apply WP.ret
 exact Ends.P rfl (Le.of_eq (by simp +decide only[St.get,W,↓reduceIte]))
abbrev jg:List Nat:=[1,2,3,4,38,43,63,72,85]
theorem H9 (a:As)(hb:a.big):ak Pr 9 [.agg [.str a.id,.str a.iP,.str a.jI,.str a.sub,.str a.req,.int .i64 a.jd,.int .i64 a.fG,.int .i64 a.lvl,.slice 2 a.nl (a.ats.map At.cs) none]] (.bool (iR a)):=by
 refine ak.W Tryz.func9 Tryz.ntmps9 ?_
 simp only[ay]
 iterate 2 first|(refine WP.S jg fun _ z=>?_;simp +decide only[TF,↓reduceIte];apply z;clear z)|apply WP.seq
 refine WP.S jg fun _ z=>?_
 refine ah.take 5 fun J hJ=>?_
 simp +decide only[TF,↓reduceIte]
 refine hJ _ _ ?_;clear hJ J
 refine ah.part 9 rfl (fun q1=>?_) (fun q1=>?_)
 ·have hR:iR a=false:=by unfold iR;exact if_pos (by simp only[lgH,q1,Bool.true_or])
  simp +decide only[TF,q1,↓reduceIte]
  apply z;clear z
  iterate 2 first|(refine WP.S jg fun _ z=>?_;simp +decide only[TF,↓reduceIte];apply z;clear z)|refine WP.cT ?_
  apply WP.ret
  exact Ends.P rfl (Le.of_eq (by simp +decide only[St.get,W,hR,↓reduceIte]))
 refine ah.take 6 fun J hJ=>?_
 simp +decide only[TF,q1,↓reduceIte]
 refine hJ _ _ ?_;clear hJ J
 refine ah.part 15 rfl (fun q2=>?_) (fun q2=>?_)
 ·have hR:iR a=false:=by unfold iR;exact if_pos (by simp only[lgH,q2,Bool.or_true,Bool.true_or])
  simp +decide only[TF,q2,↓reduceIte]
  apply z;clear z
  iterate 2 first|(refine WP.S jg fun _ z=>?_;simp +decide only[TF,↓reduceIte];apply z;clear z)|refine WP.cT ?_
  apply WP.ret
  exact Ends.P rfl (Le.of_eq (by simp +decide only[St.get,W,hR,↓reduceIte]))
 refine ah.take 6 fun J hJ=>?_
 simp +decide only[TF,q2,↓reduceIte]
 refine hJ _ _ ?_;clear hJ J
 refine ah.part 21 rfl (fun q3=>?_) (fun q3=>?_)
 ·have hR:iR a=false:=by unfold iR;exact if_pos (by simp only[lgH,q3,Bool.or_true,Bool.true_or])
  simp +decide only[TF,q3,↓reduceIte]
  apply z;clear z
  iterate 2 first|(refine WP.S jg fun _ z=>?_;simp +decide only[TF,↓reduceIte];apply z;clear z)|refine WP.cT ?_
  apply WP.ret
  exact Ends.P rfl (Le.of_eq (by simp +decide only[St.get,W,hR,↓reduceIte]))
 refine ah.take 6 fun J hJ=>?_
 simp +decide only[TF,q3,↓reduceIte]
 refine hJ _ _ ?_;clear hJ J
 refine ah.part 27 rfl (fun q4=>?_) (fun q4=>?_)
 ·have hR:iR a=false:=by unfold iR;exact if_pos (by simp only[lgH,q4,Bool.or_true,Bool.true_or])
  simp +decide only[TF,q4,↓reduceIte]
  apply z;clear z
  iterate 2 first|(refine WP.S jg fun _ z=>?_;simp +decide only[TF,↓reduceIte];apply z;clear z)|refine WP.cT ?_
  apply WP.ret
  exact Ends.P rfl (Le.of_eq (by simp +decide only[St.get,W,hR,↓reduceIte]))
 refine ah.take 6 fun J hJ=>?_
 simp +decide only[TF,q4,↓reduceIte]
 refine hJ _ _ ?_;clear hJ J
 refine ah.part 33 rfl (fun q5=>?_) (fun q5=>?_)
 ·have hR:iR a=false:=by unfold iR;exact if_pos (by simp only[lgH,q5,Bool.or_true,Bool.true_or])
  simp +decide only[TF,q5,↓reduceIte]
  apply z;clear z
  iterate 2 first|(refine WP.S jg fun _ z=>?_;simp +decide only[TF,↓reduceIte];apply z;clear z)|refine WP.cT ?_
  apply WP.ret
  exact Ends.P rfl (Le.of_eq (by simp +decide only[St.get,W,hR,↓reduceIte]))
 simp +decide only[TF,q5,↓reduceIte]
 apply z;clear z
 refine WP.cond rfl (fun q6=>?_) (fun q6=>?_)
 ·have hR:iR a=false:=by unfold iR;exact if_pos (by simp only[lgH,q6,Bool.or_true])
  refine WP.S jg fun _ z=>?_;simp +decide only[TF,q6,↓reduceIte];apply z;clear z
  apply WP.ret
  exact Ends.P rfl (Le.of_eq (by simp +decide only[St.get,W,hR,↓reduceIte]))
 have hH:iR a=a.ats.all ZI:=by unfold iR;exact if_neg (by simp only[lgH,q1,q2,q3,q4,q5,q6,Bool.or_false];decide)
 have h8:a.ats.length≤8:=by have:=of_decide_eq_false q6;omega
 iterate 2 first|(apply WP.skip;show WP ..)|apply WP.seq
 refine WP.S [1,3] fun _ z=>?_;simp +decide only[TF,q6,↓reduceIte];apply z;clear z
 apply WP.block
 refine WP.lp [1] (X:={k:Nat // k≤a.ats.length∧a.ats.all ZI=(a.ats.drop k).all ZI}) (fun x=>match x with| ⟨(k),_⟩=>[(3,.int .i64 k)]) (fun x=>match x with| ⟨(k),_⟩=>[(0,.box 24 [.str a.id,.str a.iP,.str a.jI,.str a.sub,.str a.req,.int .i64 a.jd,.int .i64 a.fG,.int .i64 a.lvl,.slice 2 a.nl (a.ats.map At.cs) none])]) (fun x=>match x with| ⟨(k),_⟩=>a.ats.length - k) (by simp +decide only[W,↓reduceIte];rfl) ?_ ⟨(0),⟨Nat.zero_le _,by simp⟩⟩ ?_
 rotate_left
 ·exact Weak.store (by simp[St.get,lk,W,Le.refl]) (by simp[lk]) (by simp[lk]) (by simp[aA,lk]) (by simp[lk])
 rintro ⟨k,⟨hk,hI⟩⟩
 dsimp only
 simp only[List.cons_append,List.nil_append]
 iterate 2 first|(refine WP.S jg fun _ z=>?_;simp +decide only[TF,↓reduceIte];apply z;clear z)|apply WP.seq
 refine WP.cond rfl (fun q7=>?_) (fun q7=>?_)
 ·have hlt:=aK q7
  have hg:(a.ats.map At.cs)[k]?=some (At.cs a.ats[k]):=getM hlt
  have hnf:=bH hb.nl hlt
  rw[dI hlt,List.all_cons] at hI
  iterate 4 first|(apply WP.skip;show WP ..)|apply WP.block|apply WP.seq
  refine WP.S jg fun _ z=>?_
  refine ah.take 9 fun J hJ=>?_
  simp +decide only[TF,q7,hg,hnf,At.cs,↓reduceIte]
  refine hJ _ _ ?_;clear hJ J
  refine ah.part 54 rfl (fun q8=>?_) (fun q8=>?_)
  ·have hA0:ZI a.ats[k]=false:=by simp only[ZI,q8,Bool.true_or,Bool.not_true,Bool.false_and]
   rw[hA0,Bool.false_and] at hI
   have hR:=hH.trans hI
   simp +decide only[TF,q8,↓reduceIte]
   apply z;clear z
   iterate 2 first|(refine WP.S jg fun _ z=>?_;simp +decide only[TF,↓reduceIte];apply z;clear z)|refine WP.cT ?_
   apply WP.ret
   exact Ends.P rfl (Le.of_eq (by simp +decide only[St.get,W,hR,↓reduceIte]))
  have hn3:=q8
  simp +decide only[TF,hg,q8,At.cs,↓reduceIte]
  apply z;clear z
  refine WP.cond rfl (fun q9=>?_) (fun q9=>?_)
  ·have hA0:ZI a.ats[k]=false:=by simp only[ZI,hn3,q9,Bool.or_true,Bool.not_true,Bool.false_and]
   rw[hA0,Bool.false_and] at hI
   have hR:=hH.trans hI
   refine WP.S jg fun _ z=>?_;simp +decide only[TF,q9,↓reduceIte];apply z;clear z
   apply WP.ret
   exact Ends.P rfl (Le.of_eq (by simp +decide only[St.get,W,hR,↓reduceIte]))
  have hv8:a.ats[k].vals.length≤8:=by have:=of_decide_eq_false q9;omega
  have hA1:ZI a.ats[k]=a.ats[k].vals.all lgV:=by simp only[ZI,hn3,q9,Bool.or_false,Bool.not_false,Bool.true_and]
  apply WP.skip;show WP ..
  refine WP.S [1,3,4] fun _ z=>?_;simp +decide only[TF,q9,↓reduceIte];apply z;clear z
  apply WP.block
  refine WP.lp [1,3] (X:={j:Nat // j≤a.ats[k].vals.length∧a.ats[k].vals.all lgV=(a.ats[k].vals.drop j).all lgV}) (fun x=>match x with| ⟨(j),_⟩=>[(4,.int .i64 j)]) (fun x=>match x with| ⟨(j),_⟩=>[(0,.box 24 [.str a.id,.str a.iP,.str a.jI,.str a.sub,.str a.req,.int .i64 a.jd,.int .i64 a.fG,.int .i64 a.lvl,.slice 2 a.nl (a.ats.map At.cs) none])]) (fun x=>match x with| ⟨(j),_⟩=>a.ats[k].vals.length - j) (by simp +decide only[W,↓reduceIte];rfl) ?_ ⟨(0),⟨Nat.zero_le _,by simp⟩⟩ ?_
  rotate_left
  ·exact Weak.store (by simp[St.get,lk,W,Le.refl]) (by simp[lk,hnf]) (by simp[lk]) (by simp[aA,lk]) (by simp[lk])
  rintro ⟨j,⟨hj,hJ⟩⟩
  dsimp only
  simp only[List.cons_append,List.nil_append]
  iterate 2 first|(refine WP.S jg fun _ z=>?_;simp +decide only[TF,hg,hnf,At.cs,↓reduceIte];apply z;clear z)|apply WP.seq
  refine WP.cond rfl (fun q10=>?_) (fun q10=>?_)
  ·have hlt2:j<a.ats[k].vals.length:=aK q10
   have hg2:(a.ats[k].vals.map fun x=>[D.str x])[j]?=some [D.str a.ats[k].vals[j]]:=getM hlt2
   have YH:=bH (hb.ats _ (List.getElem_mem hlt)) hlt2
   rw[dI hlt2,List.all_cons] at hJ
   iterate 4 first|(refine WP.S jg fun _ z=>?_;simp +decide only[TF,hg,q10,hg2,YH,At.cs,↓reduceIte];apply z;clear z)|(apply WP.skip;show WP ..)|apply WP.block|apply WP.seq
   refine WP.cond rfl (fun q11=>?_) (fun q11=>?_)
   ·have hJ0:lgV a.ats[k].vals[j]=false:=by simp only[lgV,q11,Bool.not_true]
    rw[hJ0,Bool.false_and] at hJ
    rw[hA1,hJ,Bool.false_and] at hI
    have hR:=hH.trans hI
    refine WP.S jg fun _ z=>?_;simp +decide only[TF,q11,↓reduceIte];apply z;clear z
    apply WP.ret
    exact Ends.P rfl (Le.of_eq (by simp +decide only[St.get,W,hR,↓reduceIte]))
   have hJ0:lgV a.ats[k].vals[j]=true:=by simp only[lgV,q11,Bool.not_false]
   rw[hJ0,Bool.true_and] at hJ
   iterate 2 first|(refine WP.R fun _ z=>?_;simp +decide only[TF,q11,↓reduceIte];apply z;clear z)|(apply WP.skip;show WP ..)
   show ∃y,_∧Weak _ _ _
   refine⟨⟨j+1,by omega,hJ⟩,by dsimp only;omega,?_⟩
   exact Weak.store (by simp[St.get,lk,Le.refl,aT hlt2 (show a.ats[k].vals.length≤140737488355328 by omega)]) (by simp[lk,hnf]) (by simp[lk]) (by simp[aA,lk]) (by simp[lk])
  have alU:=aN q10
  rw[eP alU,List.all_nil] at hJ
  rw[hA1,hJ,Bool.true_and] at hI
  iterate 2 first|(refine WP.R fun _ z=>?_;simp +decide only[TF,q10,↓reduceIte];apply z;clear z)|(apply WP.exit;show WP ..)
  show ∃y,_∧Weak _ _ _
  refine⟨⟨k+1,by omega,hI⟩,by dsimp only;omega,?_⟩
  exact Weak.store (by simp[St.get,lk,Le.refl,aT hlt (show a.ats.length≤140737488355328 by omega)]) (by simp[lk,hnf]) (by simp[lk]) (by simp[aA,lk]) (by simp[lk])
 have hge:=aN q7
 rw[eP hge,List.all_nil] at hI
 have hR:=hH.trans hI
 iterate 2 first|(refine WP.S jg fun _ z=>?_;simp +decide only[TF,q7,↓reduceIte];apply z;clear z)|(apply WP.exit;show WP ..)
 apply WP.ret
 exact Ends.P rfl (Le.of_eq (by simp +decide only[St.get,W,hR,↓reduceIte]))
abbrev KY:List Nat:=[0,2,3,11,29]
theorem aj9 (l:List Key)(nl:Bool)(hnl:nl=true→l=[]):ak Pr 18 [.slice 6 nl (l.map Key.cs) none] (.bool (UA l)):=by
 refine ak.W Tryz.func18 Tryz.ntmps18 ?_
 simp only[ay]
 iterate 2 first|(refine WP.S KY fun _ z=>?_;simp +decide only[TF,↓reduceIte];apply z;clear z)|apply WP.seq
 refine WP.S [0,3] fun _ z=>?_;simp +decide only[TF,↓reduceIte];apply z;clear z
 apply WP.block
 refine WP.lp [0] (X:={k:Nat // k≤6∧((l.take k).take 6).any fwK=false}) (fun x=>match x with| ⟨(k),_⟩=>[(3,.int .i64 k)]) (fun x=>match x with| ⟨(k),_⟩=>[]) (fun x=>match x with| ⟨(k),_⟩=>6 - k) (by simp +decide only[W,↓reduceIte];rfl) ?_ ⟨(0),⟨Nat.zero_le _,by simp⟩⟩ ?_
 rotate_left
 ·exact Weak.nil (by simp[St.get,lk,W,Le.refl]) (by simp[W])
 rintro ⟨k,⟨hk,hI⟩⟩
 dsimp only
 simp only[List.cons_append,List.nil_append]
 apply WP.seq
 refine WP.S KY fun _ z=>?_
 refine ah.take 5 fun J hJ=>?_
 simp +decide only[TF,↓reduceIte]
 refine hJ _ _ ?_;clear hJ J
 refine ah.part 8 rfl (fun q1=>?_) (fun q1=>?_)
 ·have hlt:k<l.length:=aK q1
  have hg:(l.map Key.cs)[k]?=some (Key.cs l[k]):=getM hlt
  have hnf:=bH hnl hlt
  simp +decide only[TF,q1,hnf,↓reduceIte]
  apply z;clear z
  refine WP.cond rfl (fun q2=>?_) (fun q2=>?_)
  ·have h6:k<6:=by have:=of_decide_eq_true q2;omega
   iterate 3 first|(apply WP.skip;show WP ..)|apply WP.block|apply WP.seq
   refine WP.S KY fun _ z=>?_
   refine ah.take 8 fun J hJ=>?_
   simp +decide only[TF,hg,q2,Key.cs,↓reduceIte]
   refine hJ _ _ ?_;clear hJ J
   refine ah.part 21 rfl (fun q3=>?_) (fun q3=>?_)
   ·have hR:=ac6 hlt h6 (by simp only[fwK,q3,Bool.true_or])
    simp +decide only[TF,q3,↓reduceIte]
    apply z;clear z
    iterate 2 first|(refine WP.S KY fun _ z=>?_;simp +decide only[TF,↓reduceIte];apply z;clear z)|refine WP.cT ?_
    apply WP.ret
    exact Ends.P rfl (Le.of_eq (by simp +decide only[St.get,W,hR,↓reduceIte]))
   have hn3:=q3
   simp +decide only[TF,hg,q3,Key.cs,↓reduceIte]
   apply z;clear z
   refine WP.cond rfl (fun q4=>?_) (fun q4=>?_)
   ·have hR:=ac6 hlt h6 (by simp only[fwK,q4,Bool.or_true])
    refine WP.S KY fun _ z=>?_;simp +decide only[TF,q4,↓reduceIte];apply z;clear z
    apply WP.ret
    exact Ends.P rfl (Le.of_eq (by simp +decide only[St.get,W,hR,↓reduceIte]))
   have hF:fwK l[k]=false:=by simp only[fwK,hn3,q4,Bool.or_false]
   iterate 2 first|(refine WP.R fun _ z=>?_;simp +decide only[TF,q4,↓reduceIte];apply z;clear z)|(apply WP.skip;show WP ..)
   show ∃y,_∧Weak _ _ _
   refine⟨⟨k+1,by omega,?_⟩,by dsimp only;omega,?_⟩
   ·rw[MB hlt,List.take_of_length_le (by rw[List.length_append,List.length_take];simp;omega)];rw[List.take_of_length_le (by rw[List.length_take];omega)] at hI;rw[List.any_append,hI];simp[hF]
   exact Weak.nil (by simp[St.get,lk,Le.refl,aT (show k<6 by omega) (by decide),hnf]) (by simp[W])
  have h6:6≤k:=by have:=of_decide_eq_false q2;omega
  have hR:=X7 (l:=l) (.inr h6) hI
  iterate 2 first|(refine WP.S KY fun _ z=>?_;simp +decide only[TF,q2,↓reduceIte];apply z;clear z)|(apply WP.exit;show WP ..)
  apply WP.ret
  exact Ends.P rfl (Le.of_eq (by simp +decide only[St.get,W,hR,↓reduceIte]))
 have hge:l.length≤k:=aN q1
 have hR:=X7 (l:=l) (.inl hge) hI
 simp +decide only[TF,q1,↓reduceIte]
 apply z;clear z
 iterate 3 first|(refine WP.S KY fun _ z=>?_;simp +decide only[TF,↓reduceIte];apply z;clear z)|(apply WP.exit;show WP ..)|refine WP.cF ?_
 apply WP.ret
 exact Ends.P rfl (Le.of_eq (by simp +decide only[St.get,W,hR,↓reduceIte]))
theorem OU:bD.ok:=by
 refine⟨⟨by decide,by decide,by decide,by decide,by decide⟩,⟨by unfold iL;decide,by unfold iL;decide,by unfold iL;decide⟩,by decide,fun _=>rfl,nofun⟩
theorem QD {a:As}(hc:bC a=0):(nrm a).ok:=by
 obtain⟨⟨w1,w2,w3,w4,w5⟩,⟨q6,q7,q8⟩,⟨q9,q10⟩,hA⟩:=fO hc
 have a1:=nJ w1;have a2:=nJ w2;have a3:=nJ w3;have a4:=nJ w4;have a5:=DR w5
 have hk:=xw hA
 have hlen:(iI a.ats).length≤32:=by rw[yA];exact hk.len
 refine⟨⟨by show a.id.length≤_;omega,by show a.iP.length≤_;omega,by show a.jI.length≤_;omega,by show a.sub.length≤_;omega,by show a.req.length≤_;omega⟩,⟨⟨?_,?_⟩,⟨?_,?_⟩,⟨?_,?_⟩⟩,?_,fun e=>List.isEmpty_iff.1 e,fun x hx=>?_⟩
 ·show -9223372036854775808≤a.jd;omega
 ·show a.jd≤9223372036854775807;omega
 ·show -9223372036854775808≤a.fG;omega
 ·show a.fG≤9223372036854775807;omega
 ·show -9223372036854775808≤a.lvl;omega
 ·show a.lvl≤9223372036854775807;omega
 ·show (iI a.ats).length≤_;omega
 ·obtain⟨h1,h2,h3,h4,h5⟩:=oC hA hx
  exact⟨Nat.le_trans h1 (by omega),Nat.le_trans h4 (by omega),(fun e=>by rw[h2] at e;cases e),fun v hv=>Nat.le_trans (h5 v hv) (by omega)⟩
theorem KZ (s:List UInt8):(ig s).1.ok:=by
 rcases KO s with⟨_,h⟩ | ⟨_,h,_⟩ | ⟨_,b,h,he,hn,_⟩
 ·rw[h];exact OU
 ·rw[h];exact OU
 ·rw[h,← hn];exact QD (o9 he).1
theorem ah1 {a:As}(h:((dw a).2 == 0)=true):dw a=((dw a).1,0):=Prod.ext rfl (by simpa using h)
theorem X8 {s:List UInt8}(h:((ig s).2 == 0)=true):dw (ig s).1=(s,0):=(Qp (by simpa using h) rfl).1
set_option maxRecDepth 20000
def ah2:List UInt8:=[111,116,104,101,114]
def PO:kK:=LV ah2 [111]
def QE:TS:=[(kQ,PI,0),(ah2,PO,1)]
theorem agj:PO.ok:=⟨by decide,by decide,by decide,nofun,by simp[PO,LV,oL,Key.ok]⟩
theorem QF:TS.ok QE:=by
 intro e he
 simp only[QE,List.mem_cons,List.not_mem_nil,or_false] at he
 rcases he with rfl|rfl
 ·exact⟨XY,by simp[PI,LV]⟩
 ·exact⟨agj,by simp[PO,LV]⟩
theorem aft:anch ML 1 PO 0=(0,QE,2):=VD (by decide +kernel) (by decide) rfl rfl
def yR (n:Nat):Nat:=n+10
def WC (n:Nat):Nat:=n - 10
theorem UC:∀n,WC (yR n)=n:=fun n=>by simp[yR,WC]
theorem ac7 (f:Nat→Nat)(ms:TS):(yh ms).map (fun e=>(e.1,dh f e.2.1,e.2.2))=yh ms:=by
 simp only[yh,List.map_map]
 refine List.map_congr_left fun e _=>?_
 simp[dh,kK.cs,jL,SI]
theorem ac8 (f:Nat→Nat)(l:RQ):(mE kH l).map (fun e=>(e.1,dh f e.2.1,e.2.2))=mE kH l:=acu f kH (fun x=>by simp[kH,dh,jL]) l
theorem ac9 (f:Nat→Nat)(l:US):(mE oJ l).map (fun e=>(e.1,dh f e.2.1,e.2.2))=mE oJ l:=acu f oJ (fun x=>by simp[oJ,dh]) l
theorem ac_ (f:Nat→Nat)(l:List (List UInt8)):qQ f (l.map fun x=>[D.str x])=l.map fun x=>[D.str x]:=J5 f l
theorem afu (f:Nat→Nat)(l:List At):qQ f (l.map At.cs)=l.map At.cs:=by
 rw[pF]
 refine (List.map_congr_left fun x hx=>?_).trans (List.map_id _)
 obtain⟨a,_,rfl⟩:=List.mem_map.1 hx
 simp[At.cs,dh,ac_]
theorem ah3 (f:Nat→Nat)(a:As):jL f a.cs=a.cs:=by simp[As.cs,jL,dh,afu]
theorem afv (f:Nat→Nat)(a:As)(n:Int):dh f (.aJ [.agg a.cs,.int .i64 n])= .aJ [.agg a.cs,.int .i64 n]:=by simp[dh,jL,ah3]
theorem ac' (f:Nat→Nat)(rq:RQ)(now:Int):dh f (rH rq now)=rH rq now:=by simp[rH,dh,ac_]
theorem X9 (r:Rc):kG yR [(2,.map (mE kH r.rq) r.rc),(3,.box 107 [.str r.self,.int .i64 r.skew,.map 2,.ref 4 0]),(4,.box 171 [.map 5,.int .i64 256]),(5,.map (mE oJ r.us) r.uc)]=
  [(12,.map (mE kH r.rq) r.rc),(13,.box 107 [.str r.self,.int .i64 r.skew,.map 12,.ref 14 0]),(14,.box 171 [.map 15,.int .i64 256]),(15,.map (mE oJ r.us) r.uc)]:=by
 simp[kG,oP,dh,jL,ac8,ac9,yR]
theorem ada (ms:TS)(c:Nat)(r:Rc):kG yR [(0,.map (yh ms) c),(1,.box 138 [.map 0]),(2,.map (mE kH r.rq) r.rc),(3,.box 107 [.str r.self,.int .i64 r.skew,.map 2,.ref 4 0]),(4,.box 171 [.map 5,.int .i64 256]),(5,.map (mE oJ r.us) r.uc)]=
  [(10,.map (yh ms) c),(11,.box 138 [.map 10]),(12,.map (mE kH r.rq) r.rc),(13,.box 107 [.str r.self,.int .i64 r.skew,.map 12,.ref 14 0]),(14,.box 171 [.map 15,.int .i64 256]),(15,.map (mE oJ r.us) r.uc)]:=by
 simp[kG,oP,dh,jL,ac7,ac8,ac9,yR]
theorem afw (self:List UInt8)(skew:Int)(hs:self.length≤140737488355328)(h:newE self skew=0)(r:Rc)(hr:r=⟨self,iQ skew 0,[],0,[],0⟩):aG Pr 22 [.str self,.int .i64 skew] [] (.aJ [.ref 13 0,.int .i64 0])
  [(12,.map (mE kH r.rq) r.rc),(13,.box 107 [.str r.self,.int .i64 r.skew,.map 12,.ref 14 0]),(14,.box 171 [.map 15,.int .i64 256]),(15,.map (mE oJ r.us) r.uc)]:=by
 subst hr
 have:=aG.rename (f:=yR) (g:=WC) UC (Ui self skew hs h)
 have e:=X9 ⟨self,iQ skew 0,[],0,[],0⟩
 simp only[mE,List.map_nil] at e ⊢
 rw[e] at this
 simpa [kG,dh,jL,yR] using this
theorem GN (r:Rc)(hr:r.ok)(id p:List UInt8)(u now:Int)(hid:id.length≤140737488355328)(hp:p.length≤140737488355328)(r':Rc)(hr':(qB r id p u now).2=r'):aG Pr 38 [.ref 13 0,.str id,.str p,.int .i64 u,.int .i64 now]
  [(12,.map (mE kH r.rq) r.rc),(13,.box 107 [.str r.self,.int .i64 r.skew,.map 12,.ref 14 0]),(14,.box 171 [.map 15,.int .i64 256]),(15,.map (mE oJ r.us) r.uc)] (.int .i64 (qB r id p u now).1)
  [(12,.map (mE kH r'.rq) r'.rc),(13,.box 107 [.str r'.self,.int .i64 r'.skew,.map 12,.ref 14 0]),(14,.box 171 [.map 15,.int .i64 256]),(15,.map (mE oJ r'.us) r'.uc)]:=by
 subst hr'
 have:=aG.rename (f:=yR) (g:=WC) UC (yG r hr id p u now hid hp)
 rw[X9,X9] at this
 simpa [dh,yR] using this
theorem UD (r:Rc)(hr:r.ok)(now:Int):aG Pr 31 [.ref 13 0,.int .i64 now]
  [(12,.map (mE kH r.rq) r.rc),(13,.box 107 [.str r.self,.int .i64 r.skew,.map 12,.ref 14 0]),(14,.box 171 [.map 15,.int .i64 256]),(15,.map (mE oJ r.us) r.uc)] (rH r.rq now)
  [(12,.map (mE kH r.rq) r.rc),(13,.box 107 [.str r.self,.int .i64 r.skew,.map 12,.ref 14 0]),(14,.box 171 [.map 15,.int .i64 256]),(15,.map (mE oJ r.us) r.uc)]:=by
 have:=aG.rename (f:=yR) (g:=WC) UC (Ed r hr now)
 rw[X9,ac'] at this
 simpa [dh,yR] using this
theorem uV (ms:TS)(c:Nat)(hms:TS.ok ms)(r:Rc)(hr:r.ok)(s:List UInt8)(hs:s.length≤1099511627776)(now:Int)(a:As)(e:Int)(r':Rc)(hA:lV ms r s now=(a,e,r')):aG Pr 39 [.ref 13 0,.ref 11 0,.str s,.int .i64 now]
  [(10,.map (yh ms) c),(11,.box 138 [.map 10]),(12,.map (mE kH r.rq) r.rc),(13,.box 107 [.str r.self,.int .i64 r.skew,.map 12,.ref 14 0]),(14,.box 171 [.map 15,.int .i64 256]),(15,.map (mE oJ r.us) r.uc)] (.aJ [.agg a.cs,.int .i64 e])
  [(10,.map (yh ms) c),(11,.box 138 [.map 10]),(12,.map (mE kH r'.rq) r'.rc),(13,.box 107 [.str r'.self,.int .i64 r'.skew,.map 12,.ref 14 0]),(14,.box 171 [.map 15,.int .i64 256]),(15,.map (mE oJ r'.us) r'.uc)]:=by
 have:=aG.rename (f:=yR) (g:=WC) UC (tZ ms c hms r hr s hs now)
 rw[hA] at this
 rw[ada,ada,afv] at this
 simpa [dh,yR] using this
end Go.Proofs
