import Derived.Test.YtekopfoidhhedaaGreatDoorG07
import Derived.Scope
import Derived.RangeFuncFrom
set_option linter.unusedVariables false
set_option linter.unusedSimpArgs false
set_option linter.unnecessarySimpa false
namespace Go.Id
open Go
mutual
def bK (f:Nat→Nat):D→D
 | .slice sz nil es aI=> .slice sz nil (oz f es) (aI.map f)
 | .arr b sz n=> .arr (f b) sz n
 | .view b off sz n=> .view (f b) off sz n
 | .ref b off=> .ref (f b) off
 | .dV cs=> .dV (iG f cs)
 | .fn g a b=> .fn g (iG f a) (iG f b)
 | .agg cs=> .agg (iG f cs)
 | .aQ cs=> .aQ (iG f cs)
 | .iface t d=> .iface t (bK f d)
 | .junk=> .junk
 | .bool b=> .bool b
 | .int k n=> .int k n
 | .str s=> .str s
 | .aV=> .aV
 | .dK=> .dK
 | .aK=> .aK
 | .val v=> .val v
 | .bI=> .bI
 | .map b=> .map (f b)
def iG (f:Nat→Nat):List D→List D
 | []=>[]
 |d::ds=>bK f d::iG f ds
def oz (f:Nat→Nat):List (List D)→List (List D)
 | []=>[]
 |e::es=>iG f e::oz f es
end
theorem iH (f:Nat→Nat):∀l,iG f l=l.map (bK f)
 | []=>rfl
 |d::ds=>by rw[iG,iH f ds];rfl
theorem kN (f:Nat→Nat):∀l,oz f l=l.map (List.map (bK f))
 | []=>rfl
 |e::es=>by rw[oz,kN f es,iH];rfl
theorem Rep.ren {M:Nat→Nat→Prop}{γ γ':Nat→Option G}{w:World}{f:Nat→Nat}(hf:∀b g,γ b=some g→γ' (f b)=some g){d:D}{v:Value}(h:Rep M γ w d v):Rep M γ' w (bK f d) v:=by
 have adA:∀{aI:Option Nat} {n:Nat} {v:Value},jk γ aI n v→jk γ' (aI.map f) n v:=by
  intro aI n v ht t e
  cases aI with
  |none=>cases e
  |some t0=>
   simp only[aiD,abr] at e
   subst e
   obtain⟨sz,el,v',n',h1,h2,h3⟩:=ht t0 rfl
   exact⟨sz,el,v',n',hf _ _ h1,h2,h3⟩
 induction h with
 |junk v=>exact .junk v
 |bool b=>exact .bool b
 |int k n=>exact .int k n
 |str s=>exact .str s
 |nilslice ht=>exact .nilslice (adA ht)
 | @slice sz es aI a cap vs hsz hvs hspot hc _ hcap ht ih=>
  rw[bK,kN]
  have:=@Rep.slice M γ' w sz (es.map (List.map (bK f))) (aI.map f) a cap vs (fun e he=>by
   obtain⟨e0,h0,rfl⟩:=List.mem_map.1 he
   simpa using hsz e0 h0) (by simpa using hvs) (fun h0=>hspot fun e0=>h0 (by rw[e0];rfl)) hc (fun i j e d v he hd hv=>by
   rw[adw,abR] at he
   obtain⟨e0,h0,rfl⟩:=he
   rw[adw,abR] at hd
   obtain⟨d0,h1,rfl⟩:=hd
   exact ih i j e0 d0 v h0 h1 hv) (by simpa using hcap) (by simpa using adA ht)
  simpa using this
 |arr hb hn=>exact .arr (hf _ _ hb) hn
 |view hb ha hn=>exact .view (hf _ _ hb) ha hn
 |ref hb=>
  refine .ref ?_
  rcases hb with hb | ⟨c,k,hb⟩|hb
  ·exact .inl (hf _ _ hb)
  ·exact .inr (.inl ⟨c,k,hf _ _ hb⟩)
  ·exact .inr (.inr (hf _ _ hb))
 |dV vs hvs hspot hc _ ih=>
  rw[bK,iH]
  refine .dV vs (by simpa using hvs) hspot hc (fun j d v hd hv=>?_)
  rw[adw,abR] at hd
  obtain⟨d0,h1,rfl⟩:=hd
  exact ih j d0 v h1 hv
 |aV=>exact .aV
 |fn hl hk _ _ ih1 ih2=>
  rw[bK,iH,iH]
  refine .fn (by simpa using hl) (by simpa using hk) (fun i d v hd hv=>?_) (fun i d v hd hv=>?_)
  ·rw[adw,abR] at hd
   obtain⟨d0,h1,rfl⟩:=hd
   exact ih1 i d0 v h1 hv
  ·rw[adw,abR] at hd
   obtain⟨d0,h1,rfl⟩:=hd
   exact ih2 i d0 v h1 hv
 |dK=>exact .dK
 |agg hl h1 _ ih=>
  rw[bK,iH]
  refine .agg (by simpa using hl) h1 (fun i d v hd hv=>?_)
  rw[adw,abR] at hd
  obtain⟨d0,h1,rfl⟩:=hd
  exact ih i d0 v h1 hv
 |aQ hl _ ih=>
  rw[bK,iH]
  refine .aQ (by simpa using hl) (fun i d v hd hv=>?_)
  rw[adw,abR] at hd
  obtain⟨d0,h1,rfl⟩:=hd
  exact ih i d0 v h1 hv
 |iface _ ih=>exact .iface ih
 |aK=>exact .aK
 |val v=>exact .val v
 |bI=>exact .bI
 |map hb=>exact .map (hf _ _ hb)
def lU (f:Nat→Nat):bf→bf
 | .box t cs=> .box t (iG f cs)
 | .arr z cs=> .arr z (iG f cs)
 | .aI e sz n=> .aI e sz n
 | .dead=> .dead
 | .iter s pos=> .iter s pos
 | .map es clock=> .map (es.map fun e=>(e.1,bK f e.2.1,e.2.2)) clock
 | .dZ m a b c=> .dZ (f m) a b c
theorem dh.ren {M:Nat→Nat→Prop}{γ γ':Nat→Option G}{w:World}{f:Nat→Nat}(hf:∀b g,γ b=some g→γ' (f b)=some g){blk:bf}{g:G}(h:dh M γ w blk g):dh M γ' w (lU f blk) g:=by
 cases h with
 |box vs e fz hB hl h1 hr=>
  rw[lU,iH]
  refine .box vs _ fz hB (by simpa using hl) h1 (fun i d v hd hv=>?_)
  rw[adw,abR] at hd
  obtain⟨d0,h2,rfl⟩:=hd
  exact (hr i d0 v h2 hv).ren hf
 |arr vs e fz hB hl h1 hr hff=>
  rw[lU,iH]
  refine .arr vs e fz hB (by simpa using hl) (fun i v hn hi=>h1 i v (by simpa using hn) hi) (fun i d v hd hv=>?_) (by simpa using hff)
  rw[adw,abR] at hd
  obtain⟨d0,h2,rfl⟩:=hd
  exact (hr i d0 v h2 hv).ren hf
 |aI xs ho=>exact .aI xs ho
 |iter hB=>exact .iter hB
 |map en hB hl hk=>
  rw[lU]
  refine .map en hB (by simpa using hl) (fun i e k d n q1 q2=>?_)
  rw[adw,abR] at q2
  obtain⟨⟨k0,d0,n0⟩,q3,q4⟩:=q2
  simp only[apM] at q4
  obtain⟨rfl,rfl,rfl⟩:=q4
  obtain⟨r1,r2,r3⟩:=hk i e _ _ _ q1 q3
  exact⟨r1,r2,r3.ren hf⟩
 |dZ hB hm=>exact .dZ hB (hf _ _ hm)
 |dead hB=>exact .dead hB
mutual
theorem uS {f g:Nat→Nat}(h:∀n,g (f n)=n):∀d,bK g (bK f d)=d
 | .slice sz nil es aI=>by
  rw[bK,bK,KI h es]
  cases aI <;> simp[h]
 | .arr b sz n=>by rw[bK,bK,h]
 | .view b off sz n=>by rw[bK,bK,h]
 | .ref b off=>by rw[bK,bK,h]
 | .dV cs=>by rw[bK,bK,mY h cs]
 | .fn k a b=>by rw[bK,bK,mY h a,mY h b]
 | .agg cs=>by rw[bK,bK,mY h cs]
 | .aQ cs=>by rw[bK,bK,mY h cs]
 | .iface t d=>by rw[bK,bK,uS h d]
 | .junk=>rfl
 | .bool b=>rfl
 | .int k n=>rfl
 | .str s=>rfl
 | .aV=>rfl
 | .dK=>rfl
 | .aK=>rfl
 | .val _=>rfl
 | .bI=>rfl
 | .map b=>by rw[bK,bK,h]
theorem mY {f g:Nat→Nat}(h:∀n,g (f n)=n):∀l,iG g (iG f l)=l
 | []=>rfl
 |d::ds=>by rw[iG,iG,uS h d,mY h ds]
theorem KI {f g:Nat→Nat}(h:∀n,g (f n)=n):∀l,oz g (oz f l)=l
 | []=>rfl
 |e::es=>by rw[oz,oz,mY h e,KI h es]
end
theorem abk {f g:Nat→Nat}(h:∀n,g (f n)=n)(blk:bf):lU g (lU f blk)=blk:=by
 cases blk with
 |map es c=>simp only[lU,List.map_map,bf.map.injEq,and_true];rw[ajb (g:=id) (fun e _=>by simp[uS h])];simp
 | _=>simp[lU,mY h,h]
def kC (f:Nat→Nat)(l:List (Nat × bf)):List (Nat × bf):=l.map fun p=>(f p.1,lU f p.2)
theorem CY {f g:Nat→Nat}(h:∀n,g (f n)=n):∀(l:List (Nat × bf)) (b:Nat),lk (kC f l) (f b)=(lk l b).map (lU f)
 | [],b=>rfl
 |(k,v)::l,b=>by
  have:=CY h l b
  simp only[kC,ag1,lk] at this ⊢
  by_cases e:b=k
  ·subst e;simp
  ·have:¬f b=f k:=fun q=>e (by rw[← h b,q,h k])
   simp only[if_neg e,if_neg this]
   exact CY h l b
theorem uG {f:Nat→Nat}:∀(l:List (Nat × bf)) (c:Nat) (x:bf),lk (kC f l) c=some x→∃b,c=f b
 | [],c,x,h=>by cases h
 |(k,v)::l,c,x,h=>by
  simp only[kC,ag1,lk] at h
  split at h
  ·rename_i e;exact⟨k,e⟩
  ·exact uG l c x h
section
variable {P:dF} {M:Nat→Nat→Prop} {f g:Nat→Nat}
def fwd (f g:Nat→Nat)(γ:Nat→Option G):Nat→Option G:=fun c=>if f (g c)=c then γ (g c) else none
theorem wI (h:∀n,g (f n)=n)(γ:Nat→Option G)(b:Nat):fwd f g γ (f b)=γ b:=by simp[fwd,h]
theorem qH {γ:Nat→Option G}{c:Nat}{x:G}(hc:fwd f g γ c=some x):f (g c)=c∧γ (g c)=some x:=by
 unfold fwd at hc
 split at hc
 ·exact⟨by assumption,hc⟩
 ·cases hc
theorem rM (h:∀n,g (f n)=n)(γ:Nat→Option G)(B off:Nat):aA (P.base M) (fwd f g γ) B off↔aA (P.base M) γ B off:=by
 constructor
 ·rintro (hm | ⟨c,x,hc,hw⟩)
  ·exact .inl hm
  ·exact .inr ⟨g c,x,(qH hc).2,hw⟩
 ·rintro (hm | ⟨b,x,hb,hw⟩)
  ·exact .inl hm
  ·exact .inr ⟨f b,x,(wI h γ b).trans hb,hw⟩
theorem Store.forth (h:∀n,g (f n)=n){γ:Nat→Option G}{l:List (Nat × bf)}{w:World}(hs:Store (P.base M) γ (lk l) w):Store (P.base M) (fwd f g γ) (lk (kC f l)) w:=by
 refine⟨fun c=>?_,fun c c' x x' B h1 h2 h3 h4=>?_,hs.outer,fun c x B off h1 h2=>hs.apart (g c) x B off (qH h1).2 h2,hs.inv,fun c x B h1 h2=>hs.low (g c) x B (qH h1).2 h2,hs.big⟩
 ·by_cases hc:f (g c)=c
  ·rcases hs.names (g c) with⟨blk,x,h1,h2,h3⟩ | ⟨h1,h2⟩
   ·refine .inl ⟨lU f blk,x,by rw[← hc,CY h,h1];rfl,by rw[← hc,wI h,h2],?_⟩
    exact (h3.ren (γ':=Go.Id.fwd f g γ) (f:=f) (fun b y hy=>(wI h γ b).trans hy)).same (fun B off=>rM h γ B off)
   ·exact .inr ⟨by rw[← hc,CY h,h1];rfl,by rw[← hc,wI h,h2]⟩
  ·refine .inr ⟨?_,by simp[Go.Id.fwd,hc]⟩
   cases hq:lk (kC f l) c with
   |none=>rfl
   |some x=>
    obtain⟨b,rfl⟩:=uG l c x hq
    exact absurd (by rw[h]) hc
 ·obtain⟨a1,a2⟩:=qH h1
  obtain⟨b1,b2⟩:=qH h2
  have:=hs.dist _ _ _ _ B a2 b2 h3 h4
  rw[← a1,← b1,this]
theorem JY (h:∀n,g (f n)=n){γ':Nat→Option G}{l:List (Nat × bf)}{w:World}(hs:Store (P.base M) γ' (lk (kC f l)) w){c:Nat}{x:G}(hc:γ' c=some x):f (g c)=c:=by
 rcases hs.names c with⟨blk,_,h1,_⟩ | ⟨_,h2⟩
 ·obtain⟨b,rfl⟩:=uG l c blk h1
  rw[h]
 ·rw[hc] at h2;cases h2
theorem oL (h:∀n,g (f n)=n){γ':Nat→Option G}{l:List (Nat × bf)}{w:World}(hs:Store (P.base M) γ' (lk (kC f l)) w)(B off:Nat):aA (P.base M) (fun b=>γ' (f b)) B off↔aA (P.base M) γ' B off:=by
 constructor
 ·rintro (hm | ⟨b,x,hb,hw⟩)
  ·exact .inl hm
  ·exact .inr ⟨f b,x,hb,hw⟩
 ·rintro (hm | ⟨c,x,hc,hw⟩)
  ·exact .inl hm
  ·exact .inr ⟨g c,x,by show γ' (f (g c))=some x;rw[JY h hs hc];exact hc,hw⟩
theorem Store.back (h:∀n,g (f n)=n){γ':Nat→Option G}{l:List (Nat × bf)}{w:World}(hs:Store (P.base M) γ' (lk (kC f l)) w):Store (P.base M) (fun b=>γ' (f b)) (lk l) w:=by
 refine⟨fun b=>?_,fun b b' x x' B h1 h2 h3 h4=>?_,hs.outer,fun b x B off h1 h2=>hs.apart (f b) x B off h1 h2,hs.inv,fun b x B h1 h2=>hs.low (f b) x B h1 h2,hs.big⟩
 ·have hlk:=CY h l b
  rcases hs.names (f b) with⟨blk,x,h1,h2,h3⟩ | ⟨h1,h2⟩
  ·rw[hlk,abR] at h1
   obtain⟨blk0,q1,rfl⟩:=h1
   refine .inl ⟨blk0,x,q1,h2,?_⟩
   have:=(h3.ren (γ':=fun b=>γ' (f b)) (f:=g) (fun c y hy=>by show γ' (f (g c))=some y;rw[JY h hs hy];exact hy)).same (fun B off=>oL h hs B off)
   rw[abk h] at this
   exact this
  ·rw[hlk,Option.map_eq_none_iff] at h1
   exact .inr ⟨h1,h2⟩
 ·have:=hs.dist _ _ _ _ B h1 h2 h3 h4
  rw[← h b,this,h]
theorem aF.rename (h:∀n,g (f n)=n){k:FuncId}{args:List D}{ins outs:List (Nat × bf)}{val:D}(hc:aF P k args ins val outs):aF P k (args.map (bK f)) (kC f ins) (bK f val) (kC f outs):=by
 refine⟨hc.1,fun M γ' w vs hst hl hr=>?_⟩
 have hb:=fun {c x} (q:γ' c=some x)=>JY h hst q
 refine (hc.2 M (fun b=>γ' (f b)) w vs (hst.back h) (by simpa using hl) (fun i d v hd hv=>?_)).mono ?_
 ·have:=((hr i (bK f d) v (by rw[adw,hd];rfl) hv).ren (γ':=fun b=>γ' (f b)) (f:=g) (fun c y hy=>by show γ' (f (g c))=some y;rw[hb hy];exact hy)).same (fun B off=>oL h hst B off)
  rw[uS h] at this
  exact this
 ·rintro e w' ⟨v,γ₂,rfl,q1,q2,q3⟩
  refine⟨v,fwd f g γ₂,rfl,q1.forth h,?_,?_⟩
  ·refine⟨q2.os,q2.tape,q2.output,q2.size,fun B off u hm hu=>q2.cell B off u (fun q=>hm ((oL h hst B off).1 q)) hu,fun B off hm hlt=>(oL h hst B off).1 (q2.wr B off ((rM h γ₂ B off).1 hm) hlt),fun c x hx=>?_,fun B hB hn=>q2.block B hB (fun b x hx=>hn (f b) x hx),fun c x B hx hB hlt=>?_⟩
   ·obtain⟨x',r1,r2⟩:=q2.names (g c) x (by show γ' (f (g c))=some x;rw[hb hx];exact hx)
    exact⟨x',by rw[← hb hx,wI h];exact r1,r2⟩
   ·obtain⟨b',x',r1,r2⟩:=q2.old (g c) x B (qH hx).2 hB hlt
    exact⟨f b',x',r1,r2⟩
  ·exact (q3.ren (γ':=fwd f g γ₂) (f:=f) (fun b y hy=>(wI h γ₂ b).trans hy)).same (fun B off=>rM h γ₂ B off)
end
end Go.Id
namespace Go.Id
open Go
theorem tJ {α:Type}{l:List (Nat × α)}{b:Nat}{x:α}(h:lk l b=some x):(b,x)∈l:=iZ l b x h
theorem uH {α:Type}:∀{l:List (Nat × α)} {b:Nat},(lk l b).isSome=true→b∈l.map (·.1)
 | [],b,h=>by cases h
 |(k,v)::l,b,h=>by
  simp only[lk] at h
  split at h
  ·rename_i e;subst e;simp
  ·simp only[ag1,ael];exact .inr (uH h)
theorem aj.imp {P:dF}{fo:D}{args:List D}{σ:List (Nat × bf)}{K:D→Rec→Prop}{k:FuncId}{first cap as:List D}{ins outs:List (Nat × bf)}{val:D}(h:aF P k as ins val outs)(hfo:fo= .fn (.func k) first cap)(has:as=(first++args++cap).map fg)
  (hin:∀p∈ins,lk σ p.1=some p.2∧aB (fun i=>(lk ins i).isSome=true) p.2) (hout:∀p∈outs,(lk ins p.1).isSome=true∨lk σ p.1=none)
  (hcl:∀d∈as,bY (fun i=>(lk ins i).isSome=true) d) (hk:K val ⟨ins.map (·.1)++outs.map (·.1),outs⟩):aj P fo args σ K:=by
 refine⟨k,first,cap,ins,val,⟨ins.map (·.1)++outs.map (·.1),outs⟩,hfo,by rw[← has];exact h,?_,?_,by rw[← has];exact hcl,?_,hk⟩
 ·intro b blk hb
  exact hin (b,blk) (tJ hb)
 ·intro b hb
  obtain⟨x,hx⟩:=akj.1 hb
  exact (hout (b,x) (tJ hx)).imp (fun q=>q) (fun q=>⟨q,List.mem_append.2 (.inr (uH hb))⟩)
 ·intro b hb
  exact List.mem_append.2 (.inl (uH hb))
theorem Ends.imp {P:dF}{fn:Func}{ins outs:List (Nat × bf)}{val d:D}{e:Exit}{st:St}(he:e= .normal∨e= .ret)(hd:resD P.prog fn st=some d)(hle:Le d val)(hcl:bY (fun i=>(lk outs i).isSome=true) val)
  (hout:∀p∈outs,lk st.σ p.1=some p.2∧aB (fun i=>(lk outs i).isSome=true) p.2) (hin:∀p∈ins,(lk outs p.1).isSome=true):Ends P fn ins val outs e st:=⟨he,d,hd,hle,hcl,hout,hin⟩
end Go.Id
namespace Go.Id
open Go
section
variable {P:dF} {ent:List Nat} {N:Nat} {Q:Exit→St→Prop} {st:St}
theorem WP.sr (ks:List Nat){id:Nat}{ops:Array Oper}{y:Code}(hd:dD N ops=true)
  (h:∀K:St→List bJ→Prop,(∀st' rs,WP P ent N y Q ⟨Go.Id.keep ks st'.F,st'.σ⟩→K st' rs)→ah P ops ops.toList st [] K):WP P ent N (.seq (.region id ops false) y) Q st:=
 WP.seq (WP.region hd fun K hK=>h K fun st' rs hy=>hK st' rs (WP.weak (Weak.keep ks) hy))
theorem WP.sd (ks:List Nat){id:Nat}{ops:Array Oper}{y:Code}(hm:P.prog.follows .mixedOrders=true)(hd:dD N ops=true)
  (h:∀K:St→List bJ→Prop,(∀st' rs,nR ops rs=true→WP P ent N y Q ⟨Go.Id.keep ks st'.F,st'.σ⟩→K st' rs)→ah P ops ops.toList st [] K):WP P ent N (.seq (.region id ops true) y) Q st:=
 WP.seq (WP.drawn hm hd fun K hK=>h K fun st' rs hb hy=>hK st' rs hb (WP.weak (Weak.keep ks) hy))
theorem WP.sm (ks:List Nat)(t:Nat)(d:D){id:Nat}{ops:Array Oper}{y:Code}(hd:dD N ops=true)
  (h:∀K:St→List bJ→Prop,(∀st' rs,(∀k∈ks,st'.get k=st.get k)→st'.σ=st.σ→Le (st'.get t) d→K st' rs)→ah P ops ops.toList st [] K) (hy:WP P ent N y Q ⟨(t,d)::Go.Id.keep ks st.F,st.σ⟩):
  WP P ent N (.seq (.region id ops false) y) Q st:=WP.ahk ks t d hd rfl h hy
theorem WP.smd (ks:List Nat)(t:Nat)(d:D){id:Nat}{ops:Array Oper}{y:Code}(hm:P.prog.follows .mixedOrders=true)(hd:dD N ops=true)
  (h:∀K:St→List bJ→Prop,(∀st' rs,nR ops rs=true→(∀k∈ks,st'.get k=st.get k)→st'.σ=st.σ→Le (st'.get t) d→K st' rs)→ah P ops ops.toList st [] K) (hy:WP P ent N y Q ⟨(t,d)::Go.Id.keep ks st.F,st.σ⟩):
  WP P ent N (.seq (.region id ops true) y) Q st:=WP.SN ks t d hm hd rfl h hy
theorem WP.lp {X:Type}(ks:List Nat)(V:X→List (Nat × D))(T:X→List (Nat × bf))(μ:X→Nat){F0:List (Nat × D)}{c:Code}(hF:Go.Id.keep ks st.F=F0)
  (h:∀x,WP P ent N c (CX (fun st'=>∃y,μ y < μ x∧Weak ent st' ⟨V y++F0,T y⟩) Q) ⟨V x++F0,T x⟩) (x:X) (h0:Weak ent st ⟨V x++F0,T x⟩):WP P ent N (.loop c) Q st:=
 WP.loop (fun x=>⟨V x++F0,T x⟩) μ h x h0
theorem WP.meet {x y:Code}(S:St)(h:WP P ent N x (CX (fun st'=>Weak ent st' S) Q) st)(hy:WP P ent N y Q S):WP P ent N (.seq x y) Q st:=
 WP.seq (WP.mono h fun e st' hq=>by
  cases e with
  |normal=>exact WP.weak hq hy
  | _=>exact hq)
theorem WP.amC {x y:Code}(S:St)(h:WP P ent N x (CX (fun st'=>Weak ent st' S) Q) st)(hy:WP P ent N y Q S):WP P ent N x (CX (fun st'=>WP P ent N y Q st') Q) st:=
 WP.mono h fun e st' hq=>by
  cases e with
  |normal=>exact WP.weak hq hy
  | _=>exact hq
theorem WP.amD {c:Code}(S:St)(h:WP P ent N c (fun e st'=>e= .normal∧Weak ent st' S) st)(hn:∀st',Weak ent st' S→Q .normal st'):WP P ent N c Q st:=
 WP.mono h fun e st' ⟨he,hw⟩=>he ▸ hn st' hw
theorem U8 {Pg:Program}{b:Frame}{a:Act}{k:List Item}{cs:List Frame}{w:World}{c:Code}:step Pg (lone (b.atR a (.code (.scope c)::k)) cs w)= .next (lone (b.atR a (.code c:: .inScope c::k)) cs w):=
 step_lone_go (by simp[stepG,stepG.exec,Frame.atR])
theorem OQ {Pg:Program}{b:Frame}{a:Act}{k:List Item}{cs:List Frame}{w:World}{c:Code}:step Pg (lone (b.atR a (.inScope c::k)) cs w)= .next (lone (b.atR a k) cs w):=
 step_lone_go (by simp[stepG,stepG.exec,Frame.atR])
theorem AB {Fe:Fence}{n:Nat}{Pg:Program}{c:Code}{Q:Exit→Act→World→Prop}{a:Act}{w:World}(h:c.wpIn Fe n Pg (Exit.noGoto Q) a w):(Code.scope c).wpIn Fe n Pg Q a w:=by
 intro b k cs hro hb hr
 obtain⟨e,a₁,w₁,hq,harr⟩:=h b (.inScope c::k) cs hro hb hr
 have h0:=StepsIn.one (fenced_calm (fr:=b.atR a (.code (.scope c)::k)) (P:=Pg) (cs:=cs) (w:=w) hb hr rfl) (U8 (Pg:=Pg))
 cases e with
 |normal=>exact⟨.normal,a₁,w₁,hq,StepsIn.trans h0 (StepsIn.trans harr (.one (fenced_calm hb hr rfl) OQ))⟩
 |exit id=>
  refine⟨.exit id,a₁,w₁,hq,fun k' hk=>StepsIn.trans h0 (harr.1 k' (by simp[exitTo,hk])),fun h1 hk=>?_⟩
  obtain⟨k₁,q1,q2⟩:=harr.2 h1 (by simp[exitTo,hk])
  exact⟨k₁,q1,StepsIn.trans h0 q2⟩
 |goto l=>exact hq.elim
 |ret=>exact⟨_,a₁,w₁,hq,.of_steps h0 harr⟩
 |panic ch=>exact⟨_,a₁,w₁,hq,.of_steps h0 harr⟩
 |outgrown=>exact⟨_,a₁,w₁,hq,.of_steps h0 harr⟩
def akx (Q:Exit→St→Prop):Exit→St→Prop:=fun e st'=>
 match e with
 | .goto _=>False
 |e=>Q e st'
theorem WP.scope {c:Code}(h:WP P ent N c (akx Q) st):WP P ent N (.scope c) Q st:=fun Fe nf hF E a w hr=>
 AB (wpIn_mono (h Fe nf hF E a w hr) fun e a' w' ⟨st',hq,hr'⟩=>by
  cases e with
  |goto l=>exact hq.elim
  | _=>exact⟨st',hq,hr'⟩)
theorem Weak.nil {F':List (Nat × D)}(h:∀p∈F',Le (st.get p.1) p.2)(hc:∀p∈F',bY (fun _=>False) p.2):Weak [] st ⟨F',[]⟩:=
 Weak.store h (by simp) (fun p hp=>(hc p hp).mono fun _ h=>h.elim) (by simp) (by simp)
end
theorem aO {k n:Nat}(h:decide ((k:Int)<(n:Int))=true):k<n:=by simpa using h
theorem aP {k n:Nat}(h:decide ((k:Int)<(n:Int))=false):n≤k:=by simpa using h
theorem kU {α:Type}{l:List α}{k:Nat}(h:k<l.length):l[k]?=some l[k]:=abt h
theorem bZ {α:Type}{l:List α}{k:Nat}(h:k<l.length):l.drop k=l[k]::l.drop (k+1):=anO h
theorem dR {α:Type}{l:List α}{k:Nat}(h:l.length≤k):l.drop k=[]:=amX h
theorem aU {k n:Nat}(h:k<n)(hn:n≤140737488355328):IntKind.wrap .i64 ((k:Int)+1)=((k+1:Nat):Int):=by
 rw[wrap_i64 (by omega) (by omega)];rfl
theorem LN:(∀(α:Type) (l:List α),(1≤(l.length:Int))=(l≠[]))∧(∀(α:Type) (l:List α),((l.length:Int)<1)=(l=[]))∧(∀(α:Type) (l:List α),((l.length:Int)=0)=(l=[]))∧
  (∀(α:Type) (l:List α),((l.length:Int)>0)=(l≠[]))∧(∀(α:Type) (l:List α),((l.length:Int)≤0)=(l=[])):=by
 refine⟨?_,?_,?_,?_,?_⟩ <;> intro α l <;> cases l <;> simp <;> omega
def Les:List D→List D→Prop
 | [],[]=>True
 |a::l,b::m=>Le a b∧Les l m
 | _,_=>False
theorem Les.at:∀{l m:List D},Les l m→l.length=m.length∧∀(i:Nat) a b,l[i]?=some a→m[i]?=some b→Le a b
 | [],[],_=>⟨rfl,fun i a b h=>by cases h⟩
 |a::l,b::m,h=>by
  obtain⟨h1,h2⟩:=Les.at h.2
  refine⟨by simp[h1],fun i x y hx hy=>?_⟩
  cases i with
  |zero=>simp at hx hy;subst hx;subst hy;exact h.1
  |succ i=>simp at hx hy;exact h2 i x y hx hy
 | [],_::_,h=>h.elim
 | _::_,[],h=>h.elim
theorem aF.weak {P:dF}{k:FuncId}{args args':List D}{ins outs:List (Nat × bf)}{val val':D}(h:aF P k args ins val outs)(ha:Les args' args)(hv:Le val val'):aF P k args' ins val' outs:=by
 obtain⟨hl,hle⟩:=ha.at
 refine⟨h.1,fun M γ w vs hst hlen hr=>(h.2 M γ w vs hst (by omega) (fun i d v hd hv=>?_)).mono ?_⟩
 ·have hi:i<args'.length:=by rw[hl];exact (acR.1 hd).1
  exact hle i _ _ (abt hi) hd _ _ _ _ (hr i _ v (abt hi) hv)
 ·rintro e w' ⟨v,γ',rfl,q1,q2,q3⟩
  exact⟨v,γ',rfl,q1,q2,hv _ _ _ _ q3⟩
theorem aj.adH {P:dF}{fo:D}{args:List D}{σ:List (Nat × bf)}{K:D→Rec→Prop}{k:FuncId}{first cap as:List D}{val:D}(h:ay P k as val)(hfo:fo= .fn (.func k) first cap)(has:Les ((first++args++cap).map fg) as)
  (hcl:∀d∈(first++args++cap).map fg,bY (fun _=>False) d) (hk:K val ⟨[],[]⟩):aj P fo args σ K:=
 aj.pure (aF.weak h has (Le.refl _)) hfo rfl hcl hk
theorem getM {α β:Type}{f:α→β}{l:List α}{k:Nat}(h:k<l.length):(l.map f)[k]?=some (f l[k]):=by simp[h]
theorem G8 {α:Type}{l:List α}{k:Nat}(h:k<l.length):l.take (k+1)=l.take k++[l[k]]:=by
 rw[List.take_succ_eq_append_getElem h]
theorem aX {α:Type}{nl:Bool}{l:List α}{k:Nat}(h:nl=true→l=[])(hk:k<l.length):nl=false:=by
 cases nl
 ·rfl
 ·rw[h rfl] at hk;simp at hk
end Go.Id
namespace Go.Id
open Go
def wJ (t sz:Nat)(d d':D):Prop:=d'=d∨∃z,d= .slice z true [] none∧d'= .slice sz true [] (some t)
def PV (t sz:Nat):List D→List D→Prop
 | [],[]=>True
 |d::l,d'::l'=>wJ t sz d d'∧PV t sz l l'
 | _,_=>False
def zO (t sz:Nat):List (Nat × D)→List (Nat × D)→Prop
 | [],[]=>True
 |p::l,p'::l'=>p'.1=p.1∧wJ t sz p.2 p'.2∧zO t sz l l'
 | _,_=>False
def OT (t sz:Nat):bf→bf→Prop
 | .box T cs,.box T' cs' | .arr T cs,.arr T' cs'=>T'=T∧PV t sz cs cs'
 |b,b'=>b'=b
def BK (t sz:Nat):List (Nat × bf)→List (Nat × bf)→Prop
 | [],[]=>True
 |p::l,p'::l'=>p'.1=p.1∧OT t sz p.2 p'.2∧BK t sz l l'
 | _,_=>False
theorem PV.at {t sz:Nat}:∀{l l':List D},PV t sz l l'→l'.length=l.length∧∀(i:Nat) d',l'[i]?=some d'→∃d,l[i]?=some d∧wJ t sz d d'
 | [],[],_=>⟨rfl,fun i d h=>by simp at h⟩
 |d::l,d'::l',h=>by
  obtain⟨h1,h2⟩:=PV.at h.2
  refine⟨by simp[h1],fun i x hx=>?_⟩
  cases i with
  |zero=>simp at hx;subst hx;exact⟨d,rfl,h.1⟩
  |succ i=>simp at hx;simpa using h2 i x hx
 | [],_::_,h=>h.elim
 | _::_,[],h=>h.elim
theorem zO.lk {t sz:Nat}:∀{l l':List (Nat × D)},zO t sz l l'→∀k,(lk l k=none∧Go.Id.lk l' k=none)∨∃d d',Go.Id.lk l k=some d∧Go.Id.lk l' k=some d'∧wJ t sz d d'
 | [],[],_,k=> .inl ⟨rfl,rfl⟩
 |(i,d)::l,(i',d')::l',h,k=>by
  obtain⟨h1,h2,h3⟩:=h
  simp only at h1;subst h1
  simp only[Go.Id.lk]
  split
  ·exact .inr ⟨_,_,rfl,rfl,h2⟩
  ·exact zO.lk h3 k
 | [],_::_,h,_=>h.elim
 | _::_,[],h,_=>h.elim
theorem BK.lk {t sz:Nat}:∀{l l':List (Nat × bf)},BK t sz l l'→∀k,(Go.Id.lk l k=none∧Go.Id.lk l' k=none)∨∃d d',Go.Id.lk l k=some d∧Go.Id.lk l' k=some d'∧OT t sz d d'
 | [],[],_,k=> .inl ⟨rfl,rfl⟩
 |(i,d)::l,(i',d')::l',h,k=>by
  obtain⟨h1,h2,h3⟩:=h
  simp only at h1;subst h1
  simp only[Go.Id.lk]
  split
  ·exact .inr ⟨_,_,rfl,rfl,h2⟩
  ·exact BK.lk h3 k
 | [],_::_,h,_=>h.elim
 | _::_,[],h,_=>h.elim
theorem wJ.rep {t sz:Nat}{M M':Nat→Nat→Prop}{γ γ':Nat→Option G}{w:World}(hv:Evo M γ w M' γ' w){e:TypeId}(ht:γ' t=some (.aI sz e (.slice none 0 0) 0)){d d':D}(h:wJ t sz d d'){v:Value}(hr:Rep M γ w d v):Rep M' γ' w d' v:=by
 rcases h with rfl | ⟨z,rfl,rfl⟩
 ·exact hr.JU hv
 ·have hv':v= .slice none 0 0:=by cases hr;rfl
  subst hv'
  refine .nilslice fun t' e'=>?_
  cases e'
  exact⟨sz,e,_,0,ht,ag4 _,fun _=>rfl⟩
theorem Weak.ghost {ent:List Nat}{st:St}(t:Nat)(e:TypeId)(sz:Nat){F':List (Nat × D)}{σ':List (Nat × bf)}(hn:lk st.σ t=none)(hF:zO t sz st.F F')(hσ:BK t sz st.σ σ'):Weak ent st ⟨F',(t,.aI e sz 0)::σ'⟩:=by
 rintro P E N a w ⟨γ,h1,h2,h3,h4,h5,h6⟩
 let g0:G:= .aI sz e (.slice none 0 0) 0
 have hγt:γ t=none:=by
  rcases h2.names t with⟨blk,g,q1,_⟩ | ⟨_,q⟩
  ·rw[hn] at q1;cases q1
  ·exact q
 have hM:∀B off,aA E.M (upd γ t (some g0)) B off↔aA E.M γ B off:=by
  intro B off
  constructor
  ·rintro (hm | ⟨b,g,hg,hw⟩)
   ·exact .inl hm
   ·by_cases hb:b=t
    ·subst hb;rw[upd_same] at hg;cases hg;cases hw.1
    ·rw[bn _ _ hb] at hg;exact .inr ⟨b,g,hg,hw⟩
  ·rintro (hm | ⟨b,g,hg,hw⟩)
   ·exact .inl hm
   ·have hb:b≠t:=fun e=>by subst e;rw[hγt] at hg;cases hg
    exact .inr ⟨b,g,by rw[bn _ _ hb];exact hg,hw⟩
 have adI:∀b g,γ b=some g→∃g',upd γ t (some g0) b=some g'∧g.le g':=by
  intro b g hg
  have hb:b≠t:=fun e=>by subst e;rw[hγt] at hg;cases hg
  exact⟨g,by rw[bn _ _ hb];exact hg,G.le_refl g⟩
 have hev:Evo (aA E.M γ) γ w (aA E.M (upd γ t (some g0))) (upd γ t (some g0)) w:=⟨fun _ _ _ _ h=>h,fun B off h _=>(hM B off).1 h,adI⟩
 have hin:∀b g,upd γ t (some g0) b=some g→(∃B,g.block=some B)→γ b=some g:=by
  rintro b g hg ⟨B,hB⟩
  by_cases hb:b=t
  ·subst hb;rw[upd_same] at hg;cases hg;cases hB
  ·rw[bn _ _ hb] at hg;exact hg
 refine⟨upd γ t (some g0),h1,⟨fun b=>?_,fun b b' g g' B q1 q2 q3 q4=>h2.dist b b' g g' B (hin _ _ q1 ⟨_,q3⟩) (hin _ _ q2 ⟨_,q4⟩) q3 q4,h2.outer,fun b g B off q1 q2=>h2.apart b g B off (hin _ _ q1 ⟨_,q2⟩) q2,h2.inv,fun b g B q1 q2=>h2.low b g B (hin _ _ q1 ⟨_,q2⟩) q2,h2.big⟩,?_,h4,h5.back (fun b g B q1 q2=>⟨b,g,hin _ _ q1 ⟨_,q2⟩,q2⟩),fun k=>?_⟩
 ·by_cases hb:b=t
  ·subst hb
   exact .inl ⟨.aI e sz 0,g0,by simp[lk],upd_same _ _ _,.aI [] ⟨by simp,.inl ⟨rfl,rfl⟩⟩⟩
  ·rw[bn _ _ hb]
   simp only[lk,if_neg hb]
   rcases h2.names b with⟨blk,g,q1,q2,q3⟩ | ⟨q1,q2⟩
   ·rcases hσ.lk b with⟨r1,_⟩ | ⟨d,d',r1,r2,r3⟩
    ·rw[q1] at r1;cases r1
    ·rw[q1] at r1;cases r1
     refine .inl ⟨d',g,r2,q2,?_⟩
     cases q3 with
     | @box cs B vs T fz hB hl hh hr=>
      cases d' with
      |box T' cs'=>
       obtain⟨rfl,hu⟩:=r3
       obtain⟨hlen,hat⟩:=hu.at
       exact .box vs _ fz hB (by omega) hh (fun i x v hx hv=>by
        obtain⟨d0,s1,s2⟩:=hat i x hx
        exact s2.rep hev (upd_same _ _ _) (hr i d0 v s1 hv))
      | _=>cases r3
     | @arr _ cs B cap z vs T fz hB hl hh hr hf=>
      cases d' with
      |arr T' cs'=>
       obtain⟨rfl,hu⟩:=r3
       obtain⟨hlen,hat⟩:=hu.at
       exact .arr vs _ fz hB (by omega) (fun i v hi hv=>hh i v (by omega) hv) (fun i x v hx hv=>by
        obtain⟨d0,s1,s2⟩:=hat i x hx
        exact s2.rep hev (upd_same _ _ _) (hr i d0 v s1 hv)) hf
      | _=>cases r3
     |aI xs ho=>simp only[OT] at r3;subst r3;exact .aI xs ho
     |iter hB=>simp only[OT] at r3;subst r3;exact .iter hB
     |map en hB hl hk=>simp only[OT] at r3;subst r3;exact (dh.map en hB hl hk).JU hev (fun _ _=>rfl)
     |dZ hB hm=>simp only[OT] at r3;subst r3;exact (dh.dZ hB hm).JU hev (fun _ _=>rfl)
     |dead hB=>simp only[OT] at r3;subst r3;exact .dead hB
   ·rcases hσ.lk b with⟨_,r2⟩ | ⟨d,d',r1,r2,r3⟩
    ·exact .inr ⟨r2,q2⟩
    ·rw[q1] at r1;cases r1
 ·refine⟨h3.os,h3.tape,h3.output,h3.size,h3.cell,fun B off q1 q2=>h3.wr B off ((hM B off).1 q1) q2,fun b g hg=>?_,h3.block,fun b g B q1 q2 q3=>h3.old b g B (hin _ _ q1 ⟨_,q2⟩) q2 q3⟩
  obtain⟨g',q1,q2⟩:=h3.names b g hg
  obtain⟨g'',q3,q4⟩:=adI b g' q1
  exact⟨g'',q3,G.le_trans q2 q4⟩
 ·have h0:=h6 k
  rcases hF.lk k with⟨r1,r2⟩ | ⟨d,d',r1,r2,r3⟩
  ·simp only[St.get,r2,Option.getD_none];exact .junk _
  ·simp only[St.get,r1,r2,alb] at h0 ⊢
   exact r3.rep hev (upd_same _ _ _) h0
def ArD (b sz:Nat)(es:List (List D))(d d':D):Prop:=(d'=d∧bY (fun i=>i≠b) d)∨(d= .arr b sz es.length∧d'= .slice sz false es (some b))
def ArF (b sz:Nat)(es:List (List D)):List (Nat × D)→List (Nat × D)→Prop
 | [],[]=>True
 |p::l,p'::l'=>p'.1=p.1∧ArD b sz es p.2 p'.2∧ArF b sz es l l'
 | _,_=>False
theorem ArF.lk {b sz:Nat}{es:List (List D)}:∀{l l':List (Nat × D)},ArF b sz es l l'→∀k,(Go.Id.lk l k=none∧Go.Id.lk l' k=none)∨∃d d',Go.Id.lk l k=some d∧Go.Id.lk l' k=some d'∧ArD b sz es d d'
 | [],[],_,k=> .inl ⟨rfl,rfl⟩
 |(i,d)::l,(i',d')::l',h,k=>by
  obtain⟨h1,h2,h3⟩:=h
  simp only at h1;subst h1
  simp only[Go.Id.lk]
  split
  ·exact .inr ⟨_,_,rfl,rfl,h2⟩
  ·exact ArF.lk h3 k
 | [],_::_,h,_=>h.elim
 | _::_,[],h,_=>h.elim
theorem flat_get {sz:Nat}:∀(es:List (List D)),(∀e∈es,e.length=sz)→∀(i j:Nat) x d,es[i]?=some x→x[j]?=some d→es.flatten[i * sz+j]?=some d
 | [],_,i,j,x,d,h,_=>by simp at h
 |e::es,he,i,j,x,d,h,hd=>by
  have hl:e.length=sz:=he e (by simp)
  rw[amb]
  cases i with
  |zero=>
   simp at h;subst h
   have:=(acR.1 hd).1
   rw[aoE,ade,ag2 this];exact hd
  |succ i=>
   simp at h
   rw[ag7 (by rw[hl,Nat.succ_mul];omega),hl]
   have:(i+1) * sz+j - sz=i * sz+j:=by rw[Nat.succ_mul];omega
   rw[this]
   exact flat_get es (fun x hx=>he x (by simp[hx])) i j x d h hd
theorem Weak.ahp {ent:List Nat}{st:St}(b:Nat)(e:TypeId)(sz:Nat)(es:List (List D))(rest:List D)(k0:Nat){F':List (Nat × D)}{σ':List (Nat × bf)}(hk:st.get k0= .arr b sz es.length)(hb:lk st.σ b=some (.arr e (es.flatten++rest)))(hes:∀x∈es,x.length=sz)(hent:b ∉ ent)
  (hF:ArF b sz es st.F F') (hec:∀x∈es,∀d∈x,bY (fun i=>i≠b) d) (hσ:∀i,i≠b→lk σ' i=lk st.σ i) (hσb:lk σ' b=some (.aI e sz es.length)) (hσc:∀p∈st.σ,p.1≠b→aB (fun i=>i≠b) p.2) (he:e<1000000:=by decide):Weak ent st ⟨F',σ'⟩:=by
 rintro P E N a w ⟨γ,h1,h2,h3,h4,h5,h6⟩
 obtain⟨g,q1,q2⟩:=h2.hit hb
 have pO:=kL es hes
 cases q2 with
 | @arr e0 _ B cap z vs _ fz hB hl hh hr hf=>
  obtain⟨hff,hf2,hf3⟩:=hf
  obtain⟨rfl,rfl⟩:=zJ hff he
  have hcap:es.length≤cap∧z=sz:=by
   have h0:=h6 k0
   rw[hk] at h0
   generalize a.tmps.getD k0 undef=v0 at h0
   cases h0 with
   |arr hγ hn=>rw[q1] at hγ;cases hγ;exact⟨hn,rfl⟩
  obtain⟨hcap,rfl⟩:=hcap
  rw[abf,pO] at hl
  have hle:es.length * z≤vs.size:=by omega
  have htl:(vs.toList.take (es.length * z)).length=es.length * z:=by rw[adg];exact amv (by simpa using hle)
  let v:Value:= .slice (some ⟨B,0,none⟩) es.length cap
  let g':G:= .aI z e v es.length
  have hM:∀B' off,aA E.M (upd γ b (some g')) B' off→aA E.M γ B' off:=by
   rintro B' off (hm | ⟨i,gi,hg,hw⟩)
   ·exact .inl hm
   ·by_cases hi:i=b
    ·subst hi;rw[upd_same] at hg;cases hg
     have:=hw.1
     simp only[v,Value.ownBlock,abr] at this
     exact .inr ⟨i,_,q1,this.symm⟩
    ·rw[bn _ _ hi] at hg;exact .inr ⟨i,gi,hg,hw⟩
  have hother:∀i,i≠b→upd γ b (some g') i=γ i:=fun i hi=>bn _ _ hi
  have hback:∀i gi,upd γ b (some g') i=some gi→∃g0,γ i=some g0∧g0.block=gi.block:=by
   intro i gi hg
   by_cases hi:i=b
   ·subst hi;rw[upd_same] at hg;cases hg;exact⟨_,q1,rfl⟩
   ·rw[hother i hi] at hg;exact⟨gi,hg,rfl⟩
  have move:∀{d:D} {u:Value},Rep (aA E.M γ) γ w d u→bY (fun i=>i≠b) d→Rep (aA E.M (upd γ b (some g'))) (upd γ b (some g')) w d u:=
   fun hd hc=>(hd.restrict hother hc).sub hM
  refine⟨upd γ b (some g'),h1,⟨fun i=>?_,fun i i' gi gi' B' a1 a2 a3 a4=>?_,h2.outer,fun i gi B' off a1 a2=>?_,h2.inv,fun i gi B' a1 a2=>?_,h2.big⟩,?_,h4,h5.back (fun b g B q1 q2=>by obtain⟨g0,r1,r2⟩:=hback _ _ q1;exact⟨b,g0,r1,r2.trans q2⟩),fun k=>?_⟩
  ·by_cases hi:i=b
   ·subst hi
    exact .inl ⟨_,g',hσb,upd_same _ _ _,.aI (vs.toList.take (es.length * z)) ⟨htl,.inr ⟨B,cap,vs,rfl,ada _,hB,hcap,hf3,hf2,rfl⟩⟩⟩
   ·show (∃blk g,lk σ' i=some blk∧_)∨(lk σ' i=none∧_)
    rw[hσ i hi,hother i hi]
    rcases h2.names i with⟨blk,gi,a1,a2,a3⟩ | ⟨a1,a2⟩
    ·refine .inl ⟨blk,gi,a1,a2,?_⟩
     have hc:=hσc _ (iZ _ _ _ a1) hi
     exact (a3.restrict hother hc).JU ⟨fun _ _ _ _ h=>h,fun B' off h _=>hM B' off h,fun _ g h=>⟨g,h,G.le_refl g⟩⟩ (fun _ _=>rfl)
    ·exact .inr ⟨a1,a2⟩
  ·obtain⟨g1,b1,b2⟩:=hback _ _ a1
   obtain⟨g2,b3,b4⟩:=hback _ _ a2
   exact h2.dist i i' g1 g2 B' b1 b3 (b2.trans a3) (b4.trans a4)
  ·obtain⟨g1,b1,b2⟩:=hback _ _ a1
   exact h2.apart i g1 B' off b1 (b2.trans a2)
  ·obtain⟨g1,b1,b2⟩:=hback _ _ a1
   exact h2.low i g1 B' b1 (b2.trans a2)
  ·refine⟨h3.os,h3.tape,h3.output,h3.size,h3.cell,fun B' off a1 a2=>h3.wr B' off (hM B' off a1) a2,fun i gi hg=>?_,h3.block,fun i gi B' a1 a2 a3=>?_⟩
   ·have hi:i≠b:=fun e=>hent (e ▸ h1 i gi hg)
    obtain⟨g1,b1,b2⟩:=h3.names i gi hg
    exact⟨g1,(hother i hi).trans b1,b2⟩
   ·obtain⟨g1,b1,b2⟩:=hback _ _ a1
    exact h3.old i g1 B' b1 (b2.trans a2) a3
  ·have h0:=h6 k
   rcases hF.lk k with⟨r1,r2⟩ | ⟨d,d',r1,r2,r3⟩
   ·simp only[St.get,r2,Option.getD_none];exact .junk _
   ·simp only[St.get,r1,r2,alb] at h0 ⊢
    rcases r3 with⟨rfl,hc⟩ | ⟨rfl,rfl⟩
    ·exact move h0 hc
    ·generalize a.tmps.getD k undef=v0 at h0
     cases h0 with
     |arr hγ hn=>
      rw[q1] at hγ;cases hγ
      refine .slice (vs.toList.take (es.length * z)) hes htl (fun _=>rfl) (fun j u hu=>?_) (fun i j x d u c1 c2 c3=>?_) hn (fun t ht=>?_)
      ·have hj:j<es.length * z:=by have:=(acR.1 hu).1;omega
       have hu':vs[j]?=some u:=by rw[ag3,if_pos hj] at hu;simpa using hu
       refine⟨by rw[cell_of_row w B (0+j) vs e _ hB,ade];exact hu',?_,(hh j u (by rw[abf,pO];omega) hu').1⟩
       rintro (hm | ⟨i,gi,hg,hw⟩)
       ·exact h2.apart b _ B _ q1 rfl hm
       ·by_cases hi:i=b
        ·subst hi;rw[upd_same] at hg;cases hg
         have:=hw.2;simp only[ade] at this;omega
        ·rw[hother i hi] at hg
         exact hi (h2.dist i b gi _ B hg q1 (G.jR hw) rfl)
      ·have hfg:=flat_get es hes i j x d c1 c2
       have hlt:=(acR.1 hfg).1
       have c3':vs[i * z+j]?=some u:=by rw[ag3,if_pos (by omega)] at c3;simpa using c3
       exact move (hr (i * z+j) d u (by rw[ag2 hlt];exact hfg) c3') (hec x (ac8 c1) d (ac8 c2))
      ·cases ht
       exact⟨z,e,v,es.length,upd_same _ _ _,ag4 _,fun _=>rfl⟩
theorem Weak.akB {ent:List Nat}{st:St}(b:Nat)(e:TypeId)(sz:Nat)(es:List (List D))(k0:Nat){F':List (Nat × D)}{σ':List (Nat × bf)}(hk:st.get k0= .arr b sz es.length)(hb:lk st.σ b=some (.arr e es.flatten))(hes:∀x∈es,x.length=sz)(hent:b ∉ ent)
  (hF:ArF b sz es st.F F') (hec:∀x∈es,∀d∈x,bY (fun i=>i≠b) d) (hσ:∀i,i≠b→lk σ' i=lk st.σ i) (hσb:lk σ' b=some (.aI e sz es.length)) (hσc:∀p∈st.σ,p.1≠b→aB (fun i=>i≠b) p.2) (he:e<1000000:=by decide):Weak ent st ⟨F',σ'⟩:=
 Weak.ahp b e sz es [] k0 hk (by rw[akz];exact hb) hes hent hF hec hσ hσb hσc he
theorem lg (l:List Nat)(hl:l.Nodup):∃f g:Nat→Nat,(∀n,g (f n)=n)∧∀(i:Nat) x,l[i]?=some x→f i=x:=by
 obtain⟨M,hM⟩:∃M,∀x∈l,x<M:=⟨l.foldr (fun a b=>a+b+1) 0,by
  intro x hx
  induction l with
  |nil=>cases hx
  |cons a l ih=>
   simp only[List.foldr_cons]
   rcases ael.1 hx with rfl|hx
   ·omega
   ·have:=ih (anE.1 hl).2 hx;omega⟩
 refine⟨fun i=>(l[i]?).getD (i+M),fun n=>if n∈l then l.idxOf n else n - M,fun n=>?_,fun i x hx=>by simp[hx]⟩
 by_cases hn:n<l.length
 ·have:(l[n]?).getD (n+M)=l[n]:=by simp[hn]
  simp only[this]
  rw[if_pos (adb hn)]
  exact hl.idxOf_getElem n hn
 ·have:(l[n]?).getD (n+M)=n+M:=by rw[al_ (by omega)];rfl
  simp only[this]
  rw[if_neg (fun h=>by have:=hM _ h;omega)]
  omega
end Go.Id
namespace Go.Id
open Go
inductive Fr (t:Nat):D→Prop
 |junk:Fr t .junk
 |bool (b:Bool):Fr t (.bool b)
 |int (k:IntKind) (n:Int):Fr t (.int k n)
 |str (s:List UInt8):Fr t (.str s)
 |nilslice (sz:Nat):Fr t (.slice sz true [] none)
 |arr {b sz n:Nat} (h:b≠t):Fr t (.arr b sz n)
 |view {b off sz n:Nat} (h:b≠t):Fr t (.view b off sz n)
 |ref {b off:Nat} (h:b≠t):Fr t (.ref b off)
 |aV:Fr t .aV
 |fn {f:Fn} {a b:List D} (h:∀d∈a,Fr t d) (h':∀d∈b,Fr t d):Fr t (.fn f a b)
 |dK:Fr t .dK
 |agg {cs:List D} (h:∀d∈cs,Fr t d):Fr t (.agg cs)
 |aQ {cs:List D} (h:∀d∈cs,Fr t d):Fr t (.aQ cs)
 |iface {u:TypeId} {d:D} (h:Fr t d):Fr t (.iface u d)
 |aK:Fr t .aK
 |val (v:Value):Fr t (.val v)
 |bI:Fr t .bI
 |map {b:Nat} (h:b≠t):Fr t (.map b)
section
variable {t:Nat}
@[simp] theorem aox (b:Bool):Fr t (.bool b):= .bool b
@[simp] theorem ao7 (k:IntKind)(n:Int):Fr t (.int k n):= .int k n
@[simp] theorem ao8 (s:List UInt8):Fr t (.str s):= .str s
@[simp] theorem aoy:Fr t .junk:= .junk
theorem Fr.rep {M M':Nat→Nat→Prop}{γ γ':Nat→Option G}{w:World}(hγ:∀i,i≠t→γ' i=γ i){d:D}(hd:Fr t d){v:Value}(h:Rep M γ w d v):Rep M' γ' w d v:=by
 induction h with
 |junk v=>exact .junk v
 |bool b=>exact .bool b
 |int k n=>exact .int k n
 |str s=>exact .str s
 |nilslice ht=>cases hd with|nilslice sz=>exact .nilslice (jk.none _ _ _)
 |slice=>cases hd
 |arr hb hn=>cases hd with|arr h=>exact .arr ((hγ _ h).trans hb) hn
 |view hb ha hn=>cases hd with|view h=>exact .view ((hγ _ h).trans hb) ha hn
 |ref hb=>
  cases hd with
  |ref h=>
   refine .ref ?_
   rw[hγ _ h]
   exact hb
 |dV=>cases hd
 |aV=>exact .aV
 |fn hf hk _ _ ih1 ih2=>
  cases hd with
  |fn h h'=>exact .fn hf hk (fun i d v a b=>ih1 i d v a b (h d (ac8 a))) (fun i d v a b=>ih2 i d v a b (h' d (ac8 a)))
 |dK=>exact .dK
 |agg hl h1 _ ih=>cases hd with|agg h=>exact .agg hl h1 (fun i d v a b=>ih i d v a b (h d (ac8 a)))
 |aQ hl _ ih=>cases hd with|aQ h=>exact .aQ hl (fun i d v a b=>ih i d v a b (h d (ac8 a)))
 |iface _ ih=>cases hd with|iface h=>exact .iface (ih h)
 |aK=>exact .aK
 |val v=>exact .val v
 |bI=>exact .bI
 |map hb=>cases hd with|map h=>exact .map ((hγ _ h).trans hb)
end
theorem Weak.akC {st:St}(t:Nat)(e:TypeId)(sz:Nat)(es:List (List D))(k0:Nat){F':List (Nat × D)}(hk:st.get k0= .slice sz false es (some t))(hb:lk st.σ t=some (.aI e sz es.length))(hes:∀x∈es,∀d∈x,Fr t d)
  (hσ:∀b,b≠t→lk st.σ b=none) (hF:∀p∈F',(p.1=k0∧p.2= .arr t sz es.length)∨(st.get p.1=p.2∧Fr t p.2)):Weak [] st ⟨F',[(t,.arr e es.flatten)]⟩:=by
 rintro P E N a w ⟨γ,h1,h2,h3,h4,h5,h6⟩
 have hent:∀b,E.γ b=none:=fun b=>by
  cases h:E.γ b with
  |none=>rfl
  |some g=>exact absurd (h1 b g h) (by simp)
 obtain⟨g,q1,q2⟩:=h2.hit hb
 have hsl:=h6 k0
 rw[hk] at hsl
 generalize hv0:a.tmps.getD k0 undef=v0 at hsl
 rcases aZ hsl with⟨_,_,hn⟩ | ⟨ad,cap,vs,rfl,_,hspot,hvs,hcap,hsz,hcell,hr,htip⟩
 ·cases hn
 cases q2 with
 | @aI _ _ _ v xs ho=>
  obtain⟨_,_,v',n',p1,p2,p3⟩:=htip t rfl
  rw[q1] at p1
  simp only[abr,G.aI.injEq] at p1
  obtain⟨rfl,rfl,rfl,rfl⟩:=p1
  have hv:=p3 rfl
  rcases ho.2 with⟨h0,_⟩ | ⟨B,cap',cur,hvB,_,hB,hnc,hcm,hcs,htake⟩
  ·rw[h0] at hv;cases hv
  rw[hvB] at hv
  simp only[Value.slice.injEq,abr,true_and] at hv
  obtain⟨rfl,rfl⟩:=hv
  let g':G:= .arr B cap sz
  have hnew:¬B<E.w.heap.size:=fun hlt=>by
   obtain⟨b',g0,r1,_⟩:=h3.old t _ B q1 (by rw[hvB];rfl) hlt
   rw[hent] at r1;cases r1
  have hblk:∀i gi,γ i=some gi→i=t:=fun i gi hg=>by
   by_cases hi:i=t
   ·exact hi
   ·rcases h2.names i with⟨blk,gi',r1,_⟩ | ⟨_,r2⟩
    ·rw[hσ i hi] at r1;cases r1
    ·rw[r2] at hg;cases hg
  have hother:∀i,i≠t→upd γ t (some g') i=γ i:=fun i hi=>bn _ _ hi
  have hgi:∀i gi,upd γ t (some g') i=some gi→i=t∧gi=g':=fun i gi hg=>by
   by_cases hi:i=t
   ·subst hi;rw[upd_same] at hg;cases hg;exact⟨rfl,rfl⟩
   ·rw[hother i hi] at hg;exact absurd (hblk i gi hg) hi
  have pO:=kL es hsz
  have hMB:∀off,¬E.M.M B off:=fun off hm=>hnew (by
   have:=h2.outer B off hm
   exact absurd hm (h2.apart t _ B off q1 (by rw[hvB];rfl)))
  refine⟨upd γ t (some g'),fun b g0 hg=>(by rw[hent] at hg;cases hg),⟨fun i=>?_,fun i i' gi gi' B' a1 a2 a3 a4=>?_,h2.outer,fun i gi B' off a1 a2=>?_,h2.inv,fun i gi B' a1 a2=>?_,h2.big⟩,?_,h4,h5.back (fun b g B q1' q2=>by obtain⟨rfl,rfl⟩:=hgi _ _ q1';exact⟨b,_,q1,by rw[← q2,hvB];rfl⟩),fun k=>?_⟩
  ·by_cases hi:i=t
   ·subst hi
    refine .inl ⟨.arr e es.flatten,g',by simp[lk],upd_same _ _ _,?_⟩
    refine .arr cur e (0,0) hB (by rw[pO,hcs];exact aj2 _ hcap) (fun j u hj hu=>⟨?_,by simp[World.frozen?,hB]⟩) (fun j d u hd hu=>?_) ⟨.inl ⟨rfl,rfl⟩,hcs,hcm⟩
    ·have ZG:j<vs.length:=by omega
     have:=hcell j _ (abt ZG)
     simp only[ade] at this
     have hc:=this.1
     rw[cell_of_row w B j cur e _ hB,hu] at hc
     have:u=vs[j]:=by simpa using hc
     rw[this];exact (hcell j _ (abt ZG)).2.2
    ·obtain⟨x,r1,r2⟩:=wC es hsz j d hd
     have ZG:j<vs.length:=by have:=(acR.1 hd).1;omega
     have:=hcell j _ (abt ZG)
     simp only[ade] at this
     have hc:=this.1
     rw[cell_of_row w B j cur e _ hB,hu] at hc
     have hu':u=vs[j]:=by simpa using hc
     have h7:=hr (j / sz) (j % sz) x d vs[j] r1 r2 (by rw[Nat.div_add_mod'];exact abt ZG)
     rw[hu']
     exact (hes x (ac8 r1) d (ac8 r2)).rep hother h7
   ·refine .inr ⟨by simp[lk,hi],?_⟩
    rw[hother i hi]
    exact h2.miss (hσ i hi)
  ·obtain⟨rfl,_⟩:=hgi _ _ a1
   obtain⟨rfl,_⟩:=hgi _ _ a2
   rfl
  ·obtain⟨rfl,rfl⟩:=hgi _ _ a1
   simp only[g',G.block,abr] at a2
   subst a2
   exact hMB off
  ·obtain⟨rfl,rfl⟩:=hgi _ _ a1
   simp only[g',G.block,abr] at a2
   subst a2
   exact h2.low i _ B q1 (by rw[hvB];rfl)
  ·refine⟨h3.os,h3.tape,h3.output,h3.size,h3.cell,fun B' off hm hlt=>?_,fun b g0 hg=>(by rw[hent] at hg;cases hg),fun B' hlt hno=>h3.block B' hlt hno,fun b g0 B' hg hgB hlt=>?_⟩
   ·rcases hm with hm | ⟨i,gi,hg,hw⟩
    ·exact h3.wr B' off (.inl hm) hlt
    ·obtain⟨rfl,rfl⟩:=hgi _ _ hg
     have:B'=B:=hw
     subst this
     exact absurd hlt hnew
   ·obtain⟨rfl,rfl⟩:=hgi _ _ hg
    simp only[g',G.block,abr] at hgB
    subst hgB
    exact absurd hlt hnew
  ·have h0:=h6 k
   show Rep _ _ _ ((lk F' k).getD .junk) _
   cases hl:lk F' k with
   |none=>exact .junk _
   |some d=>
    rcases hF _ (iZ _ _ _ hl) with⟨rfl,rfl⟩ | ⟨r1,r2⟩
    ·rw[hv0]
     exact .arr (upd_same _ _ _) hcap
    ·dsimp only at r1 r2
     rw[r1] at h0
     exact r2.rep hother h0
end Go.Id
namespace Go.Id
open Go
theorem aF.rows {P:dF}{k:FuncId}{args:List D}{b:Nat}{T:TypeId}{cs cs':List D}{rest:List (Nat × bf)}{val:D}(hlen':cs'.length=cs.length)(hb:oJ P.prog k)
  (h:∀(M:Nat→Nat→Prop) (γ:Nat→Option G) (w:World) (vs:List Value) (B cap z:Nat) (us:Array Value),Store (P.base M) γ (lk ((b,.arr T cs)::rest)) w→vs.length=args.length→
   (∀(i:Nat) d v,args[i]?=some d→vs[i]?=some v→Rep (aA (P.base M) γ) γ w d v)→γ b=some (.arr B cap z)→w.heap[B]?=some (.cells us T (0,0))→us.size=cap * z→cs.length≤us.size→
   (∀(i:Nat) v,i<cs.length→us[i]?=some v→v.oneCell'=true∧w.frozen? ⟨B,i,none⟩=false)→(∀(i:Nat) d v,cs[i]?=some d→us[i]?=some v→Rep (aA (P.base M) γ) γ w d v)→
   Calls P.prog k vs.toArray w fun e w'=>∃v us',e= .returned v∧us'.size=us.size∧w'.heap[B]?=some (.cells us' T (0,0))∧(∀k,k<w.heap.size→k≠B→w'.heap[k]?=w.heap[k]?)∧w.heap.size≤w'.heap.size∧(w'.os=w.os∧w'.tape=w.tape∧w'.output=w.output)∧
    (∀(i:Nat) v,i<cs.length→us'[i]?=some v→v.oneCell'=true)∧(∀(i:Nat) d v,cs'[i]?=some d→us'[i]?=some v→Rep (aA (P.base M) γ) γ w d v)∧Rep (aA (P.base M) γ) γ w val v)
  (hT:T<1000000:=by decide):
  aF P k args ((b,.arr T cs)::rest) val ((b,.arr T cs')::rest):=by
 refine⟨hb,fun M γ w vs hst hl hr=>?_⟩
 have hlk:lk ((b,bf.arr T cs)::rest) b=some (.arr T cs):=by simp[lk]
 obtain⟨g,h2,h3⟩:=hst.hit hlk
 cases h3 with
 | @arr e0 _ B cap z us _ fz hB hlen h1 hrr hf=>
  obtain⟨hff,hsz,hcap⟩:=hf
  obtain⟨rfl,rfl⟩:=zJ hff hT
  refine (h M γ w vs B cap z us hst hl hr h2 hB hsz hlen h1 hrr).mono ?_
  rintro e w' ⟨v,us',rfl,hus,hB',hother,hsize,⟨ho1,ho2,ho3⟩,hu1,hu2,hv⟩
  have hM:∀o,aA (P.base M) γ B o:=fun o=> .inr ⟨b,_,h2,rfl⟩
  have hev:aW (aA (P.base M) γ) γ w (aA (P.base M) γ) γ w':=by
   refine⟨ho1,ho2,ho3,hsize,fun B' o x hn hu=>?_,fun _ _ h _=>h,fun _ g h=>⟨g,h,G.le_refl g⟩,fun B' hlt hn=>hother B' hlt (fun e=>hn b _ h2 (by rw[e];rfl)),fun i gi _ h h' _=>⟨i,gi,h,h'⟩⟩
   have:B'≠B:=fun e=>by subst e;exact hn (hM o)
   rw[World.cell?_of_block (w:=w) (w':=w') (by simpa using hother B' (cell_lt hu) this)];exact hu
  have nO:upd γ b (some (.arr B cap z))=γ:=by funext i;by_cases hi:i=b <;> simp[upd,hi,h2]
  have hσ:upd (lk ((b,bf.arr T cs)::rest)) b (some (.arr T cs'))=lk ((b,bf.arr T cs')::rest):=by
   funext i
   by_cases hi:i=b <;> simp[upd,lk,hi]
  have hst':=hst.change b (.arr T cs') (.arr B cap z) w' (by rw[nO];exact hev) (fun i gi B2 hi hgi AA=>hother B2 (hst.lt hgi AA) (fun e=>hi (hst.dist i b gi _ B2 hgi h2 AA (by rw[e];rfl)))) (fun B' hB'=> .inr ⟨_,h2,hB'⟩) (by
   rw[nO]
   refine .arr us' T (0,0) hB' (by omega) (fun i x hi hx=>⟨hu1 i x (by omega) hx,?_⟩) (fun i d x hd hx=>(hu2 i d x hd hx).dA hev) ⟨.inl ⟨rfl,rfl⟩,by rw[hus];exact hsz,hcap⟩
   simp[World.frozen?,hB'])
  rw[nO,hσ] at hst'
  exact⟨v,γ,rfl,hst',hev,hv.dA hev⟩
@[simp] theorem akE {t b off:Nat}:Fr t (.ref b off)↔b≠t:=⟨fun h=>by cases h with|ref h=>exact h,.ref⟩
@[simp] theorem akF {t b sz n:Nat}:Fr t (.arr b sz n)↔b≠t:=⟨fun h=>by cases h with|arr h=>exact h,.arr⟩
@[simp] theorem aoz {t sz:Nat}:Fr t (.slice sz true [] none):= .nilslice sz
def BFr (t:Nat):bf→Prop
 | .box _ cs | .arr _ cs=>∀d∈cs,Fr t d
 | .map es _=>∀e∈es,Fr t e.2.1
 | .dZ m _ _ _=>m≠t
 | _=>True
theorem BFr.rel {t:Nat}{M M':Nat→Nat→Prop}{γ γ':Nat→Option G}{w:World}(hγ:∀i,i≠t→γ' i=γ i){blk:bf}{g:G}(hb:BFr t blk)(h:dh M γ w blk g):dh M' γ' w blk g:=by
 cases h with
 |box vs e fz hB hl h1 hr=>exact .box vs e fz hB hl h1 (fun i d v hd hv=>(hb d (ac8 hd)).rep hγ (hr i d v hd hv))
 |arr vs e fz hB hl h1 hr hf=>exact .arr vs e fz hB hl h1 (fun i d v hd hv=>(hb d (ac8 hd)).rep hγ (hr i d v hd hv)) hf
 |iter hB=>exact .iter hB
 |map en hB hl hk=>exact .map en hB hl (fun i e k d n q1 q2=>let ⟨r1,r2,r3⟩:=hk i e k d n q1 q2;⟨r1,r2,(hb _ (ac8 q2)).rep hγ r3⟩)
 |dZ hB hm=>exact .dZ hB ((hγ _ hb).trans hm)
 |dead hB=>exact .dead hB
 |aI xs ho=>exact .aI xs ho
end Go.Id
namespace Go.Id
open Go
def akG (m:Nat→Nat→Prop)(W:World)(d:D)(v:Value):Prop:=
 Rep (fun _ _=>False) (fun _=>none) W d v∧∀cs a,d= .dV cs→v= .pointer (some a)→∀(j:Nat) x u,cs[j]?=some x→W.cell? ⟨a.block,a.off+j,none⟩=some u→Rep m (fun _=>none) W x u∧bY (fun _=>False) x
def ZH (σ:List (Nat × bf))(d d':D):Prop:=
 (d'=d∧bY (fun _=>False) d)∨∃b t cs,d= .ref b 0∧lk σ b=some (.box t cs)∧d'= .dV cs∧∀x∈cs,bY (fun _=>False) x
theorem Rep.alone {M:Nat→Nat→Prop}{γ:Nat→Option G}{w:World}{d:D}{v:Value}(h:Rep M γ w d v)(hc:bY (fun _=>False) d):Rep (fun _ _=>False) (fun _=>none) w d v:=
 (h.restrict (γ':=fun _=>none) (S:=fun _=>False) (fun _ h=>h.elim) hc).sub (fun _ _ h=>h.elim)
theorem Rep.drp {M:Nat→Nat→Prop}{γ:Nat→Option G}{w:World}{d:D}{v:Value}(h:Rep M γ w d v)(hc:bY (fun _=>False) d):Rep M (fun _=>none) w d v:=
 h.restrict (γ':=fun _=>none) (S:=fun _=>False) (fun _ h=>h.elim) hc
theorem ZH.rep {M₀:Base}{γ:Nat→Option G}{σ:List (Nat × bf)}{w:World}(h:Store M₀ γ (lk σ) w){d d':D}(hc:ZH σ d d'){v:Value}(hr:Rep (aA M₀ γ) γ w d v):akG (aA M₀ γ) w d' v:=by
 rcases hc with⟨rfl,hcl⟩ | ⟨b,t,cs,rfl,hb,rfl,hcl⟩
 ·refine⟨hr.alone hcl,?_⟩
  rintro cs a rfl rfl j x u hx hu
  cases hr with
  |dV vs hvs hspot hc hr=>
   have hlt:j<vs.length:=by rw[hvs];exact (acR.1 hx).1
   have h1:=abt hlt
   have h2:=(hc j _ h1).1
   rw[hu] at h2
   simp only[abr] at h2
   subst h2
   have hcx:bY (fun _=>False) x:=by
    cases hcl with
    |dV h=>exact h _ (ac8 hx)
   exact⟨(hr j x _ hx h1).drp hcx,hcx⟩
 ·obtain⟨g,h1,h2⟩:=h.hit hb
  cases h2 with
  | @box _ B vs _ fz hB hl h3 h4=>
   cases hr with
   |ref hg=>
    rcases hg with hg | ⟨_,_,hg⟩|hg <;> rw[h1] at hg <;> cases hg
    refine⟨.dV vs.toList (by simpa using hl) rfl (fun j u hu=>?_) (fun j d u hd hu=>?_),?_⟩
    ·have hu':vs[j]?=some u:=by simpa using hu
     refine⟨?_,fun h=>h,(h3 j u hu').1⟩
     simp only[ade]
     rw[cell_of_row w B j vs t _ hB];exact hu'
    ·have hu':vs[j]?=some u:=by simpa using hu
     exact (h4 j d u hd hu').alone (hcl d (ac8 hd))
    ·rintro cs' a e1 e2 j x u hx hu
     cases e1;cases e2
     simp only[ade] at hu
     rw[cell_of_row w B j vs t _ hB] at hu
     have hcx:=hcl x (ac8 hx)
     exact⟨(h4 j x u hx hu).drp hcx,hcx⟩
theorem abl {strict:Prop}{γ:Nat→Option G}{T ds:List Deferred}{w:World}{n L:Nat}{o:Obj}(h:Marks strict T γ ds w n)(hL:∀o',w.heap[L]?=some o'→o'≠ .deferred (some [])):Marks strict T γ ds (w.putObj L o) n:=by
 obtain⟨Ds,h1,h2,h3⟩:=h
 refine⟨Ds,h1,h2,fun D hD=>?_⟩
 obtain⟨q1,q2,q3⟩:=h3 D hD
 exact⟨q1,(World.putObj_heap_other (fun e=>hL _ (e ▸ q2) rfl)).trans q2,q3⟩
structure Fv (P:dF) (E:BI P) (F:Nat→D) (tv:Nat→Value) (abm:List D) (lb:Array Value) (ds:List Deferred) (L D0:Nat) (γ:Nat→Option G) (T:List (Nat × bf)) (W:World):Prop where
 st:Store E.M γ (lk T) W
 ev:aW (aA E.M E.γ) E.γ E.w (aA E.M γ) γ W
 fr:∀t,Rep (aA E.M γ) γ W (F t) (tv t)
 cp:∀(i:Nat) d v,abm[i]?=some d→lb[i]?=some v→Rep (aA E.M γ) γ W d v
 mrk:Marks False E.tail γ ds W E.lo
 un:∀b g,γ b=some g→g.block≠some L∧g.block≠some D0
 dd:W.heap[D0]?=some (.deferred (some []))
section
variable {P:dF} {E:BI P} {F:Nat→D} {tv:Nat→Value} {abm:List D} {lb:Array Value} {ds:List Deferred} {L D0:Nat} {γ γ2:Nat→Option G} {T T2:List (Nat × bf)} {W W2:World}
theorem Fv.on (h:Fv P E F tv abm lb ds L D0 γ T W)(h2:Store E.M γ2 (lk T2) W2)(h3:aW (aA E.M γ) γ W (aA E.M γ2) γ2 W2)(hL:L<W.heap.size):Fv P E F tv abm lb ds L D0 γ2 T2 W2∧W2.heap[L]?=W.heap[L]?:=by
 have hD:D0<W.heap.size:=(ag6.1 h.dd).1
 refine⟨⟨h2,h.ev.trans h3,fun t=>(h.fr t).dA h3,fun i d v q1 q2=>(h.cp i d v q1 q2).dA h3,h.mrk.dA h3,fun b g hg=>⟨fun hB=>?_,fun hB=>?_⟩,(h3.block D0 hD (fun b g hg=>(h.un b g hg).2)).trans h.dd⟩,h3.block L hL (fun b g hg=>(h.un b g hg).1)⟩
 ·obtain⟨b',g',r1,r2⟩:=h3.old b g L hg hB hL
  exact (h.un b' g' r1).1 r2
 ·obtain⟨b',g',r1,r2⟩:=h3.old b g D0 hg hB hD
  exact (h.un b' g' r1).2 r2
theorem Fv.put (h:Fv P E F tv abm lb ds L D0 γ T W){r:Loop}(hL:W.heap[L]?=some (.loop r))(h1:E.w.heap.size≤L)(h2:P.n≤L)(hne:L≠D0)(o:Obj):
  Fv P E F tv abm lb ds L D0 γ T (W.putObj L o)∧∀d v,Rep (aA E.M γ) γ W d v→Rep (aA E.M γ) γ (W.putObj L o) d v:=by
 obtain⟨g1,g2,g3⟩:=PN (o':=o) h.st h.ev h1 h2 hL rfl (fun b g hg=>(h.un b g hg).1)
 exact⟨⟨g1,g2,fun t=>g3 _ _ (h.fr t),fun i d v q1 q2=>g3 _ _ (h.cp i d v q1 q2),abl h.mrk (fun o' q=>by rw[hL] at q;cases q;simp),h.un,(World.putObj_heap_other (Ne.symm hne)).trans h.dd⟩,g3⟩
end
end Go.Id
