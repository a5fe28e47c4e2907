import Derived.Test.YtekopfoidhhedaaGreatDoorG01
import Derived.Scope
import Derived.RangeFuncFrom
import Derived.Maps.RangeRun
import Derived.ChangeArms
import Derived.ReadAgain
import Derived.ChangeShapes
import Derived.ChangeOld
import Derived.WideShapes
import Derived.Below
import Derived.RecoverIn
set_option linter.unusedVariables false
set_option linter.unusedSimpArgs false
set_option linter.unnecessarySimpa false
namespace Go.Id
open Go
theorem ak.quiet {P:gy}{k:FuncId}{args:List D}{val:D}(hb:oI P.prog k)
  (h:∀(M:Nat→Nat→Prop) (w:World) (vs:List Value),P.I w→P.n≤w.heap.size→vs.length=args.length→(∀B off,M B off→B<w.heap.size)→
   (∀(i:Nat) d v,args[i]?=some d→vs[i]?=some v→Rep M (fun _=>none) w d v)→
   Calls P.prog k vs.toArray w fun e w'=>∃v,e= .returned v∧RowKit.Below w.heap.size w w'∧Rep M (fun _=>none) w' val v):ak P k args val:=by
 refine⟨hb,fun M γ w vs hst hl hr=>?_⟩
 have hno:γ=fun _=>none:=by
  funext b
  rcases hst.names b with⟨blk,g,q4,_⟩ | ⟨_,q4⟩
  ·cases q4
  ·exact q4
 subst hno
 have hM:∀B off,aC (P.base M) (fun _=>none) B off↔M B off:=by
  intro B off
  constructor
  ·rintro (h | ⟨b,g,h,_⟩)
   ·exact h
   ·cases h
  ·exact .inl
 refine (h M w vs hst.inv hst.big hl (fun B off hm=>(hst.outer B off hm).2) (fun i d v h1 h2=>(hr i d v h1 h2).sub (fun B off hm=>(hM B off).2 hm))).mono ?_
 rintro e w' ⟨v,rfl,hbl,hv⟩
 refine⟨v,fun _=>none,rfl,⟨fun b=> .inr ⟨rfl,rfl⟩,(fun b b' g g' B h=>by cases h),fun B off hm=>⟨(hst.outer B off hm).1,Nat.lt_of_lt_of_le (hst.outer B off hm).2 hbl.size⟩,(fun b g B off h=>by cases h),?_,(fun b g B h=>by cases h),Nat.le_trans hst.big hbl.size⟩,⟨hbl.os,hbl.tape,hbl.output,hbl.size,?_,fun B off hm _=>hm,(fun b g h=>by cases h),fun B hB _=>hbl.block B hB,(fun b g B h=>by cases h)⟩,hv.sub (fun B off hm=>(hM B off).1 hm)⟩
 ·exact P.stable w w' hst.inv (fun k hk=>hbl.block k (Nat.lt_of_lt_of_le hk hst.big))
 ·intro B off v hm hc
  exact (hbl.cell (p:=⟨B,off,none⟩) (cell_lt hc)).trans hc
section
variable {M:Nat→Nat→Prop} {γ:Nat→Option G} {w:World}
theorem qP {s:List UInt8}{v:Value}(h:Rep M γ w (.str s) v):∃b:ByteArray,v= .string b∧b.data.toList=s:=by
 cases h with
 |str b=>exact⟨b,rfl,rfl⟩
theorem Pj {k:IntKind}{n:Int}{v:Value}(h:Rep M γ w (.int k n) v):v= .int k n:=by
 cases h;rfl
theorem ji (l:List UInt8):Rep M γ w (.str l) (.string ⟨l.toArray⟩):=Rep.str (M:=M) (γ:=γ) (w:=w) ⟨l.toArray⟩
theorem Yl (b:ByteArray):b.size=b.data.toList.length:=rfl
end
theorem ak.str1 {P:gy}{k:FuncId}{s:List UInt8}{val:D}(hb:oI P.prog k)
  (h:∀(M:Nat→Nat→Prop) (w:World) (b:ByteArray),b.data.toList=s→P.I w→P.n≤w.heap.size→(∀B off,M B off→B<w.heap.size)→
   Calls P.prog k #[.string b] w fun e w'=>∃v,e= .returned v∧RowKit.Below w.heap.size w w'∧Rep M (fun _=>none) w' val v):ak P k [.str s] val:=by
 refine .quiet hb fun M w vs hI hn hl hM hr=>?_
 match vs,hl with
 | [v],_=>
  obtain⟨b,rfl,hb⟩:=qP (hr 0 _ _ rfl rfl)
  exact h M w b hb hI hn hM
theorem ak.str2 {P:gy}{k:FuncId}{s t:List UInt8}{val:D}(hb:oI P.prog k)
  (h:∀(M:Nat→Nat→Prop) (w:World) (b c:ByteArray),b.data.toList=s→c.data.toList=t→P.I w→P.n≤w.heap.size→(∀B off,M B off→B<w.heap.size)→
   Calls P.prog k #[.string b,.string c] w fun e w'=>∃v,e= .returned v∧RowKit.Below w.heap.size w w'∧Rep M (fun _=>none) w' val v):ak P k [.str s,.str t] val:=by
 refine .quiet hb fun M w vs hI hn hl hM hr=>?_
 match vs,hl with
 | [v,v'],_=>
  obtain⟨b,rfl,hb⟩:=qP (hr 0 _ _ rfl rfl)
  obtain⟨c,rfl,hc⟩:=qP (hr 1 _ _ rfl rfl)
  exact h M w b c hb hc hI hn hM
theorem ak.U3 {P:gy}{k:FuncId}{s:List UInt8}{kk:IntKind}{n:Int}{val:D}(hb:oI P.prog k)
  (h:∀(M:Nat→Nat→Prop) (w:World) (b:ByteArray),b.data.toList=s→P.I w→P.n≤w.heap.size→(∀B off,M B off→B<w.heap.size)→
   Calls P.prog k #[.string b,.int kk n] w fun e w'=>∃v,e= .returned v∧RowKit.Below w.heap.size w w'∧Rep M (fun _=>none) w' val v):ak P k [.str s,.int kk n] val:=by
 refine .quiet hb fun M w vs hI hn hl hM hr=>?_
 match vs,hl with
 | [v,v'],_=>
  obtain⟨b,rfl,hb⟩:=qP (hr 0 _ _ rfl rfl)
  obtain rfl:=Pj (hr 1 _ _ rfl rfl)
  exact h M w b hb hI hn hM
theorem ak.aiA {P:gy}{k:FuncId}{kk:IntKind}{n:Int}{val:D}(hb:oI P.prog k)
  (h:∀(M:Nat→Nat→Prop) (w:World),P.I w→P.n≤w.heap.size→(∀B off,M B off→B<w.heap.size)→
   Calls P.prog k #[.int kk n] w fun e w'=>∃v,e= .returned v∧RowKit.Below w.heap.size w w'∧Rep M (fun _=>none) w' val v):ak P k [.int kk n] val:=by
 refine .quiet hb fun M w vs hI hn hl hM hr=>?_
 match vs,hl with
 | [v],_=>
  obtain rfl:=Pj (hr 0 _ _ rfl rfl)
  exact h M w hI hn hM
theorem aaj {M:Nat→Nat→Prop}{γ:Nat→Option G}{w:World}{B n:Nat}{l:List (List UInt8)}{e:TypeId}{fz:Nat × Nat}{vs:List Value}(hB:w.heap[B]?=some (.cells vs.toArray e fz))(hM:∀off,¬M B off)
  (hv:vs=l.map fun s=>Value.string ⟨s.toArray⟩) (hn:n=l.length):Rep M γ w (.slice 1 false (l.map fun s=>[.str s]) none) (.slice (some ⟨B,0,none⟩) n n):=by
 have key:=@Rep.slice M γ w 1 (l.map fun s=>[D.str s]) none ⟨B,0,none⟩ (l.map fun s=>[D.str s]).length vs (by simp) (by simp[hv]) (fun _=>rfl) (fun j v hj=>⟨by
   have hj':=hj
   simp[World.cell?,hB,hj'],hM _,by
   rw[hv] at hj
   simp only[List.getElem?_map,Option.map_eq_some_iff] at hj
   obtain⟨s,_,rfl⟩:=hj
   rfl⟩) (fun i j e d v h1 h2 h3=>by
   simp only[List.getElem?_map,Option.map_eq_some_iff] at h1
   obtain⟨s,hs,rfl⟩:=h1
   cases j with
   |succ j=>simp at h2
   |zero=>
    simp at h2
    subst h2
    rw[hv] at h3
    simp only[Nat.mul_one,Nat.add_zero,List.getElem?_map,hs,Option.map_some,Option.some.injEq] at h3
    subst h3
    exact ji s) (by simp) (iK.none _ _ _)
 simp only[List.length_map] at key
 rw[hn]
 exact key
end Go.Id
namespace Go.Id
open Go
theorem aG.same {P:gy}{k:FuncId}{args:List D}{ins:List (Nat × aU)}{val:D}(hb:oI P.prog k)
  (h:∀(M:Nat→Nat→Prop) (γ:Nat→Option G) (w:World) (vs:List Value),Store (P.base M) γ (lk ins) w→vs.length=args.length→
   (∀(i:Nat) d v,args[i]?=some d→vs[i]?=some v→Rep (aC (P.base M) γ) γ w d v)→
   Calls P.prog k vs.toArray w fun e w'=>∃v,e= .returned v∧w'=w∧Rep (aC (P.base M) γ) γ w val v):aG P k args ins val ins:=
 ⟨hb,fun M γ w vs hst hl hr=>(h M γ w vs hst hl hr).mono fun e w' ⟨v,he,hw,hv⟩=>by subst hw;exact⟨v,γ,he,hst,aQ.refl _ _ _,hv⟩⟩
theorem aG.drew {P:gy}{k:FuncId}{args:List D}{ins:List (Nat × aU)}{val:D}(hb:oI P.prog k)
  (h:∀(M:Nat→Nat→Prop) (γ:Nat→Option G) (w:World) (vs:List Value),Store (P.base M) γ (lk ins) w→vs.length=args.length→
   (∀(i:Nat) d v,args[i]?=some d→vs[i]?=some v→Rep (aC (P.base M) γ) γ w d v)→
   Calls P.prog k vs.toArray w fun e w'=>∃v,e= .returned v∧w'=w.drew∧Rep (aC (P.base M) γ) γ w val v):aG P k args ins val ins:=by
 refine⟨hb,fun M γ w vs hst hl hr=>(h M γ w vs hst hl hr).mono ?_⟩
 rintro e w' ⟨v,rfl,rfl,hv⟩
 have hev:aQ (aC (P.base M) γ) γ w (aC (P.base M) γ) γ w.drew:=⟨rfl,rfl,rfl,Nat.le_refl _,fun _ _ _ _ h=>h,fun _ _ h _=>h,fun _ g h=>⟨g,h,G.le_refl g⟩,fun _ _ _=>rfl,fun b g _ h h' _=>⟨b,g,h,h'⟩⟩
 refine⟨v,γ,rfl,⟨fun b=>?_,hst.dist,hst.outer,hst.apart,(P.base M).stable _ _ hst.inv (fun _ _=>rfl),hst.low,hst.big⟩,hev,hv.bZ hev⟩
 rcases hst.names b with⟨blk,g,q1,q2,q3⟩|q
 ·exact .inl ⟨blk,g,q1,q2,q3.keep hev (fun _ _=>rfl)⟩
 ·exact .inr q
theorem heap_setCell (w:World){B:Nat}{vs:Array Value}{e:TypeId}{fz:Nat × Nat}(hB:w.heap[B]?=some (.cells vs e fz))(off:Nat)(v:Value):(w.setCell ⟨B,off,none⟩ v).heap[B]?=some (.cells (vs.setIfInBounds off v) e fz):=by
 simp[World.setCell,Array.getElem?_modify,hB]
theorem heap_setCell_other (w:World){B k:Nat}(h:k≠B)(off:Nat)(v:Value):(w.setCell ⟨B,off,none⟩ v).heap[k]?=w.heap[k]?:=by
 simp[World.setCell,Array.getElem?_modify,Ne.symm h]
theorem aG.wrote {P:gy}{k:FuncId}{args:List D}{b:Nat}{T:TypeId}{cs:List D}{rest:List (Nat × aU)}{val:D}(off:Nat)(hoff:off<cs.length)(d':D)(hb:oI P.prog k)
  (h:∀(M:Nat→Nat→Prop) (γ:Nat→Option G) (w:World) (vs:List Value) (B:Nat) (us:Array Value) (fz:Nat × Nat),Store (P.base M) γ (lk ((b,.box T cs)::rest)) w→vs.length=args.length→
   (∀(i:Nat) d v,args[i]?=some d→vs[i]?=some v→Rep (aC (P.base M) γ) γ w d v)→γ b=some (.box B)→w.heap[B]?=some (.cells us T fz)→us.size=cs.length→
   (∀(i:Nat) v,us[i]?=some v→v.oneCell'=true∧w.frozen? ⟨B,i,none⟩=false)→(∀(i:Nat) d v,cs[i]?=some d→us[i]?=some v→Rep (aC (P.base M) γ) γ w d v)→
   Calls P.prog k vs.toArray w fun e w'=>∃v u,e= .returned v∧w'=w.setCell ⟨B,off,none⟩ u∧u.oneCell'=true∧Rep (aC (P.base M) γ) γ w d' u∧Rep (aC (P.base M) γ) γ w val v):
  aG P k args ((b,.box T cs)::rest) val ((b,.box T (cs.set off d'))::rest):=by
 refine⟨hb,fun M γ w vs hst hl hr=>?_⟩
 have hlk:lk ((b,aU.box T cs)::rest) b=some (.box T cs):=by simp[lk]
 obtain⟨g,h2,h3⟩:=hst.hit hlk
 cases h3 with
 | @box _ B us _ fz hB hlen h1 hrr=>
  refine (h M γ w vs B us fz hst hl hr h2 hB hlen h1 hrr).mono ?_
  rintro e w' ⟨v,u,rfl,rfl,hu1,hu2,hv⟩
  have hB':=heap_setCell w hB off u
  have hother:∀k,k≠B→(w.setCell ⟨B,off,none⟩ u).heap[k]?=w.heap[k]?:=fun k hk=>heap_setCell_other w hk off u
  have hsize:(w.setCell ⟨B,off,none⟩ u).heap.size=w.heap.size:=by simp[World.setCell]
  have hM:∀o,aC (P.base M) γ B o:=fun o=> .inr ⟨b,_,h2,rfl⟩
  have hev:aQ (aC (P.base M) γ) γ w (aC (P.base M) γ) γ (w.setCell ⟨B,off,none⟩ u):=by
   refine⟨rfl,rfl,rfl,by omega,fun B' o x hn hu=>?_,fun _ _ h _=>h,fun _ g h=>⟨g,h,G.le_refl g⟩,fun B' _ hn=>hother B' (fun e=>hn b _ h2 (by rw[e];rfl)),fun i gi _ h h' _=>⟨i,gi,h,h'⟩⟩
   have:B'≠B:=fun e=>by subst e;exact hn (hM o)
   rw[World.cell?_of_block (w:=w) (w':=w.setCell ⟨B,off,none⟩ u) (by simpa using hother B' this)];exact hu
  have lW:upd γ b (some (.box B))=γ:=by funext i;by_cases hi:i=b <;> simp[upd,hi,h2]
  have hσ:upd (lk ((b,aU.box T cs)::rest)) b (some (.box T (cs.set off d')))=lk ((b,aU.box T (cs.set off d'))::rest):=by
   funext i
   by_cases hi:i=b <;> simp[upd,lk,hi]
  have hst':=hst.change b (.box T (cs.set off d')) (.box B) (w.setCell ⟨B,off,none⟩ u) (by rw[lW];exact hev) (fun i gi B2 hi hgi yL=>hother B2 (fun e=>hi (hst.dist i b gi _ B2 hgi h2 yL (by rw[e];rfl)))) (fun B' hB'=> .inr ⟨_,h2,hB'⟩) (by
   rw[lW]
   refine .box (us.setIfInBounds off u) T fz hB' (by simp[hlen]) (fun i x hx=>?_) (fun i d x hd hx=>?_)
   ·have hx0:=hx
    rw[Array.getElem?_setIfInBounds] at hx
    have hi:i<us.size:=by
     have:=(Array.getElem?_eq_some_iff.1 hx0).1
     simpa using this
    have hfro:(w.setCell ⟨B,off,none⟩ u).frozen? ⟨B,i,none⟩=false:=by
     have:=(h1 i _ (Array.getElem?_eq_getElem hi)).2
     simp only[World.frozen?,hB] at this
     simp only[World.frozen?,hB']
     exact this
    refine⟨?_,hfro⟩
    split at hx
    ·split at hx
     ·cases hx;exact hu1
     ·cases hx
    ·exact (h1 i x hx).1
   ·rw[Array.getElem?_setIfInBounds] at hx
    rw[List.getElem?_set] at hd
    split at hx
    ·rename_i e
     subst e
     rw[if_pos rfl,if_pos hoff] at hd
     rw[if_pos (by omega)] at hx
     cases hd;cases hx
     exact hu2.bZ hev
    ·rename_i e
     rw[if_neg e] at hd
     exact (hrr i d x hd hx).bZ hev)
  rw[lW,hσ] at hst'
  exact⟨v,γ,rfl,hst',hev,hv.bZ hev⟩
end Go.Id
namespace Go.Id
open Go
mutual
def dh (f:Nat→Nat):D→D
 | .slice sz nil es aS=> .slice sz nil (qQ f es) (aS.map f)
 | .arr b sz n=> .arr (f b) sz n
 | .view b off sz n=> .view (f b) off sz n
 | .ref b off=> .ref (f b) off
 | .dQ cs=> .dQ (jL f cs)
 | .fn g a b=> .fn g (jL f a) (jL f b)
 | .agg cs=> .agg (jL f cs)
 | .aJ cs=> .aJ (jL f cs)
 | .iface t d=> .iface t (dh f d)
 | .junk=> .junk
 | .bool b=> .bool b
 | .int k n=> .int k n
 | .str s=> .str s
 | .aP=> .aP
 | .dD=> .dD
 | .aI=> .aI
 | .val v=> .val v
 | .bG=> .bG
 | .map b=> .map (f b)
def jL (f:Nat→Nat):List D→List D
 | []=>[]
 |d::ds=>dh f d::jL f ds
def qQ (f:Nat→Nat):List (List D)→List (List D)
 | []=>[]
 |e::es=>jL f e::qQ f es
end
theorem jS (f:Nat→Nat):∀l,jL f l=l.map (dh f)
 | []=>rfl
 |d::ds=>by rw[jL,jS f ds];rfl
theorem pF (f:Nat→Nat):∀l,qQ f l=l.map (List.map (dh f))
 | []=>rfl
 |e::es=>by rw[qQ,pF f es,jS];rfl
theorem Rep.ren {M:Nat→Nat→Prop}{γ γ':Nat→Option G}{w:World}{f:Nat→Nat}(hf:∀b g,γ b=some g→γ' (f b)=some g){d:D}{v:Value}(h:Rep M γ w d v):Rep M γ' w (dh f d) v:=by
 have aad:∀{aS:Option Nat} {n:Nat} {v:Value},iK γ aS n v→iK γ' (aS.map f) n v:=by
  intro aS n v ht t e
  cases aS with
  |none=>cases e
  |some t0=>
   simp only[Option.map_some,Option.some.injEq] at e
   subst e
   obtain⟨sz,el,v',n',h1,h2,h3⟩:=ht t0 rfl
   exact⟨sz,el,v',n',hf _ _ h1,h2,h3⟩
 induction h with
 |junk v=>exact .junk v
 |bool b=>exact .bool b
 |int k n=>exact .int k n
 |str s=>exact .str s
 |nilslice ht=>exact .nilslice (aad ht)
 | @slice sz es aS a cap vs hsz hvs hspot hc _ hcap ht ih=>
  rw[dh,pF]
  have:=@Rep.slice M γ' w sz (es.map (List.map (dh f))) (aS.map f) a cap vs (fun e he=>by
   obtain⟨e0,h0,rfl⟩:=List.mem_map.1 he
   simpa using hsz e0 h0) (by simpa using hvs) (fun h0=>hspot fun e0=>h0 (by rw[e0];rfl)) hc (fun i j e d v he hd hv=>by
   rw[List.getElem?_map,Option.map_eq_some_iff] at he
   obtain⟨e0,h0,rfl⟩:=he
   rw[List.getElem?_map,Option.map_eq_some_iff] at hd
   obtain⟨d0,h1,rfl⟩:=hd
   exact ih i j e0 d0 v h0 h1 hv) (by simpa using hcap) (by simpa using aad ht)
  simpa using this
 |arr hb hn=>exact .arr (hf _ _ hb) hn
 |view hb ha hn=>exact .view (hf _ _ hb) ha hn
 |ref hb=>
  refine .ref ?_
  rcases hb with hb | ⟨c,k,hb⟩|hb
  ·exact .inl (hf _ _ hb)
  ·exact .inr (.inl ⟨c,k,hf _ _ hb⟩)
  ·exact .inr (.inr (hf _ _ hb))
 |dQ vs hvs hspot hc _ ih=>
  rw[dh,jS]
  refine .dQ vs (by simpa using hvs) hspot hc (fun j d v hd hv=>?_)
  rw[List.getElem?_map,Option.map_eq_some_iff] at hd
  obtain⟨d0,h1,rfl⟩:=hd
  exact ih j d0 v h1 hv
 |aP=>exact .aP
 |fn hl hk _ _ ih1 ih2=>
  rw[dh,jS,jS]
  refine .fn (by simpa using hl) (by simpa using hk) (fun i d v hd hv=>?_) (fun i d v hd hv=>?_)
  ·rw[List.getElem?_map,Option.map_eq_some_iff] at hd
   obtain⟨d0,h1,rfl⟩:=hd
   exact ih1 i d0 v h1 hv
  ·rw[List.getElem?_map,Option.map_eq_some_iff] at hd
   obtain⟨d0,h1,rfl⟩:=hd
   exact ih2 i d0 v h1 hv
 |dD=>exact .dD
 |agg hl h1 _ ih=>
  rw[dh,jS]
  refine .agg (by simpa using hl) h1 (fun i d v hd hv=>?_)
  rw[List.getElem?_map,Option.map_eq_some_iff] at hd
  obtain⟨d0,h1,rfl⟩:=hd
  exact ih i d0 v h1 hv
 |aJ hl _ ih=>
  rw[dh,jS]
  refine .aJ (by simpa using hl) (fun i d v hd hv=>?_)
  rw[List.getElem?_map,Option.map_eq_some_iff] at hd
  obtain⟨d0,h1,rfl⟩:=hd
  exact ih i d0 v h1 hv
 |iface _ ih=>exact .iface ih
 |aI=>exact .aI
 |val v=>exact .val v
 |bG=>exact .bG
 |map hb=>exact .map (hf _ _ hb)
def oP (f:Nat→Nat):aU→aU
 | .box t cs=> .box t (jL f cs)
 | .arr z cs=> .arr z (jL f cs)
 | .aS e sz n=> .aS e sz n
 | .dead=> .dead
 | .iter s pos=> .iter s pos
 | .map es clock=> .map (es.map fun e=>(e.1,dh f e.2.1,e.2.2)) clock
 | .dS m a b c=> .dS (f m) a b c
theorem cO.ren {M:Nat→Nat→Prop}{γ γ':Nat→Option G}{w:World}{f:Nat→Nat}(hf:∀b g,γ b=some g→γ' (f b)=some g){blk:aU}{g:G}(h:cO M γ w blk g):cO M γ' w (oP f blk) g:=by
 cases h with
 |box vs e fz hB hl h1 hr=>
  rw[oP,jS]
  refine .box vs _ fz hB (by simpa using hl) h1 (fun i d v hd hv=>?_)
  rw[List.getElem?_map,Option.map_eq_some_iff] at hd
  obtain⟨d0,h2,rfl⟩:=hd
  exact (hr i d0 v h2 hv).ren hf
 |arr vs e fz hB hl h1 hr hff=>
  rw[oP,jS]
  refine .arr vs e fz hB (by simpa using hl) (fun i v hn hi=>h1 i v (by simpa using hn) hi) (fun i d v hd hv=>?_) (by simpa using hff)
  rw[List.getElem?_map,Option.map_eq_some_iff] at hd
  obtain⟨d0,h2,rfl⟩:=hd
  exact (hr i d0 v h2 hv).ren hf
 |aS xs ho=>exact .aS xs ho
 |iter hB=>exact .iter hB
 |map en hB hl hk=>
  rw[oP]
  refine .map en hB (by simpa using hl) (fun i e k d n q1 q2=>?_)
  rw[List.getElem?_map,Option.map_eq_some_iff] at q2
  obtain⟨⟨k0,d0,n0⟩,q3,q4⟩:=q2
  simp only[Prod.mk.injEq] at q4
  obtain⟨rfl,rfl,rfl⟩:=q4
  obtain⟨r1,r2,r3⟩:=hk i e _ _ _ q1 q3
  exact⟨r1,r2,r3.ren hf⟩
 |dS hB hm=>exact .dS hB (hf _ _ hm)
 |dead hB=>exact .dead hB
mutual
theorem sD {f g:Nat→Nat}(h:∀n,g (f n)=n):∀d,dh g (dh f d)=d
 | .slice sz nil es aS=>by
  rw[dh,dh,Iy h es]
  cases aS <;> simp[h]
 | .arr b sz n=>by rw[dh,dh,h]
 | .view b off sz n=>by rw[dh,dh,h]
 | .ref b off=>by rw[dh,dh,h]
 | .dQ cs=>by rw[dh,dh,lg h cs]
 | .fn k a b=>by rw[dh,dh,lg h a,lg h b]
 | .agg cs=>by rw[dh,dh,lg h cs]
 | .aJ cs=>by rw[dh,dh,lg h cs]
 | .iface t d=>by rw[dh,dh,sD h d]
 | .junk=>rfl
 | .bool b=>rfl
 | .int k n=>rfl
 | .str s=>rfl
 | .aP=>rfl
 | .dD=>rfl
 | .aI=>rfl
 | .val _=>rfl
 | .bG=>rfl
 | .map b=>by rw[dh,dh,h]
theorem lg {f g:Nat→Nat}(h:∀n,g (f n)=n):∀l,jL g (jL f l)=l
 | []=>rfl
 |d::ds=>by rw[jL,jL,sD h d,lg h ds]
theorem Iy {f g:Nat→Nat}(h:∀n,g (f n)=n):∀l,qQ g (qQ f l)=l
 | []=>rfl
 |e::es=>by rw[qQ,qQ,lg h e,Iy h es]
end
theorem Ym {f g:Nat→Nat}(h:∀n,g (f n)=n)(blk:aU):oP g (oP f blk)=blk:=by
 cases blk with
 |map es c=>simp only[oP,List.map_map,aU.map.injEq,and_true];rw[List.map_congr_left (g:=id) (fun e _=>by simp[sD h])];simp
 | _=>simp[oP,lg h,h]
def kG (f:Nat→Nat)(l:List (Nat × aU)):List (Nat × aU):=l.map fun p=>(f p.1,oP f p.2)
theorem Ai {f g:Nat→Nat}(h:∀n,g (f n)=n):∀(l:List (Nat × aU)) (b:Nat),lk (kG f l) (f b)=(lk l b).map (oP f)
 | [],b=>rfl
 |(k,v)::l,b=>by
  have:=Ai h l b
  simp only[kG,List.map_cons,lk] at this ⊢
  by_cases e:b=k
  ·subst e;simp
  ·have:¬f b=f k:=fun q=>e (by rw[← h b,q,h k])
   simp only[if_neg e,if_neg this]
   exact Ai h l b
theorem rO {f:Nat→Nat}:∀(l:List (Nat × aU)) (c:Nat) (x:aU),lk (kG f l) c=some x→∃b,c=f b
 | [],c,x,h=>by cases h
 |(k,v)::l,c,x,h=>by
  simp only[kG,List.map_cons,lk] at h
  split at h
  ·rename_i e;exact⟨k,e⟩
  ·exact rO l c x h
section
variable {P:gy} {M:Nat→Nat→Prop} {f g:Nat→Nat}
def fwd (f g:Nat→Nat)(γ:Nat→Option G):Nat→Option G:=fun c=>if f (g c)=c then γ (g c) else none
theorem uo (h:∀n,g (f n)=n)(γ:Nat→Option G)(b:Nat):fwd f g γ (f b)=γ b:=by simp[fwd,h]
theorem oQ {γ:Nat→Option G}{c:Nat}{x:G}(hc:fwd f g γ c=some x):f (g c)=c∧γ (g c)=some x:=by
 unfold fwd at hc
 split at hc
 ·exact⟨by assumption,hc⟩
 ·cases hc
theorem qc (h:∀n,g (f n)=n)(γ:Nat→Option G)(B off:Nat):aC (P.base M) (fwd f g γ) B off↔aC (P.base M) γ B off:=by
 constructor
 ·rintro (hm | ⟨c,x,hc,hw⟩)
  ·exact .inl hm
  ·exact .inr ⟨g c,x,(oQ hc).2,hw⟩
 ·rintro (hm | ⟨b,x,hb,hw⟩)
  ·exact .inl hm
  ·exact .inr ⟨f b,x,(uo h γ b).trans hb,hw⟩
theorem Store.forth (h:∀n,g (f n)=n){γ:Nat→Option G}{l:List (Nat × aU)}{w:World}(hs:Store (P.base M) γ (lk l) w):Store (P.base M) (fwd f g γ) (lk (kG f l)) w:=by
 refine⟨fun c=>?_,fun c c' x x' B h1 h2 h3 h4=>?_,hs.outer,fun c x B off h1 h2=>hs.apart (g c) x B off (oQ h1).2 h2,hs.inv,fun c x B h1 h2=>hs.low (g c) x B (oQ h1).2 h2,hs.big⟩
 ·by_cases hc:f (g c)=c
  ·rcases hs.names (g c) with⟨blk,x,h1,h2,h3⟩ | ⟨h1,h2⟩
   ·refine .inl ⟨oP f blk,x,by rw[← hc,Ai h,h1];rfl,by rw[← hc,uo h,h2],?_⟩
    exact (h3.ren (γ':=Go.Id.fwd f g γ) (f:=f) (fun b y hy=>(uo h γ b).trans hy)).same (fun B off=>qc h γ B off)
   ·exact .inr ⟨by rw[← hc,Ai h,h1];rfl,by rw[← hc,uo h,h2]⟩
  ·refine .inr ⟨?_,by simp[Go.Id.fwd,hc]⟩
   cases hq:lk (kG f l) c with
   |none=>rfl
   |some x=>
    obtain⟨b,rfl⟩:=rO l c x hq
    exact absurd (by rw[h]) hc
 ·obtain⟨a1,a2⟩:=oQ h1
  obtain⟨b1,b2⟩:=oQ h2
  have:=hs.dist _ _ _ _ B a2 b2 h3 h4
  rw[← a1,← b1,this]
theorem Ht (h:∀n,g (f n)=n){γ':Nat→Option G}{l:List (Nat × aU)}{w:World}(hs:Store (P.base M) γ' (lk (kG f l)) w){c:Nat}{x:G}(hc:γ' c=some x):f (g c)=c:=by
 rcases hs.names c with⟨blk,_,h1,_⟩ | ⟨_,h2⟩
 ·obtain⟨b,rfl⟩:=rO l c blk h1
  rw[h]
 ·rw[hc] at h2;cases h2
theorem mV (h:∀n,g (f n)=n){γ':Nat→Option G}{l:List (Nat × aU)}{w:World}(hs:Store (P.base M) γ' (lk (kG f l)) w)(B off:Nat):aC (P.base M) (fun b=>γ' (f b)) B off↔aC (P.base M) γ' B off:=by
 constructor
 ·rintro (hm | ⟨b,x,hb,hw⟩)
  ·exact .inl hm
  ·exact .inr ⟨f b,x,hb,hw⟩
 ·rintro (hm | ⟨c,x,hc,hw⟩)
  ·exact .inl hm
  ·exact .inr ⟨g c,x,by show γ' (f (g c))=some x;rw[Ht h hs hc];exact hc,hw⟩
theorem Store.back (h:∀n,g (f n)=n){γ':Nat→Option G}{l:List (Nat × aU)}{w:World}(hs:Store (P.base M) γ' (lk (kG f l)) w):Store (P.base M) (fun b=>γ' (f b)) (lk l) w:=by
 refine⟨fun b=>?_,fun b b' x x' B h1 h2 h3 h4=>?_,hs.outer,fun b x B off h1 h2=>hs.apart (f b) x B off h1 h2,hs.inv,fun b x B h1 h2=>hs.low (f b) x B h1 h2,hs.big⟩
 ·have hlk:=Ai h l b
  rcases hs.names (f b) with⟨blk,x,h1,h2,h3⟩ | ⟨h1,h2⟩
  ·rw[hlk,Option.map_eq_some_iff] at h1
   obtain⟨blk0,q1,rfl⟩:=h1
   refine .inl ⟨blk0,x,q1,h2,?_⟩
   have:=(h3.ren (γ':=fun b=>γ' (f b)) (f:=g) (fun c y hy=>by show γ' (f (g c))=some y;rw[Ht h hs hy];exact hy)).same (fun B off=>mV h hs B off)
   rw[Ym h] at this
   exact this
  ·rw[hlk,Option.map_eq_none_iff] at h1
   exact .inr ⟨h1,h2⟩
 ·have:=hs.dist _ _ _ _ B h1 h2 h3 h4
  rw[← h b,this,h]
theorem aG.rename (h:∀n,g (f n)=n){k:FuncId}{args:List D}{ins outs:List (Nat × aU)}{val:D}(hc:aG P k args ins val outs):aG P k (args.map (dh f)) (kG f ins) (dh f val) (kG f outs):=by
 refine⟨hc.1,fun M γ' w vs hst hl hr=>?_⟩
 have hb:=fun {c x} (q:γ' c=some x)=>Ht h hst q
 refine (hc.2 M (fun b=>γ' (f b)) w vs (hst.back h) (by simpa using hl) (fun i d v hd hv=>?_)).mono ?_
 ·have:=((hr i (dh f d) v (by rw[List.getElem?_map,hd];rfl) hv).ren (γ':=fun b=>γ' (f b)) (f:=g) (fun c y hy=>by show γ' (f (g c))=some y;rw[hb hy];exact hy)).same (fun B off=>mV h hst B off)
  rw[sD h] at this
  exact this
 ·rintro e w' ⟨v,γ₂,rfl,q1,q2,q3⟩
  refine⟨v,fwd f g γ₂,rfl,q1.forth h,?_,?_⟩
  ·refine⟨q2.os,q2.tape,q2.output,q2.size,fun B off u hm hu=>q2.cell B off u (fun q=>hm ((mV h hst B off).1 q)) hu,fun B off hm hlt=>(mV h hst B off).1 (q2.wr B off ((qc h γ₂ B off).1 hm) hlt),fun c x hx=>?_,fun B hB hn=>q2.block B hB (fun b x hx=>hn (f b) x hx),fun c x B hx hB hlt=>?_⟩
   ·obtain⟨x',r1,r2⟩:=q2.names (g c) x (by show γ' (f (g c))=some x;rw[hb hx];exact hx)
    exact⟨x',by rw[← hb hx,uo h];exact r1,r2⟩
   ·obtain⟨b',x',r1,r2⟩:=q2.old (g c) x B (oQ hx).2 hB hlt
    exact⟨f b',x',r1,r2⟩
  ·exact (q3.ren (γ':=fwd f g γ₂) (f:=f) (fun b y hy=>(uo h γ₂ b).trans hy)).same (fun B off=>qc h γ₂ B off)
end
end Go.Id
namespace Go.Id
open Go
theorem qR {α:Type}{l:List (Nat × α)}{b:Nat}{x:α}(h:lk l b=some x):(b,x)∈l:=iZ l b x h
theorem rP {α:Type}:∀{l:List (Nat × α)} {b:Nat},(lk l b).isSome=true→b∈l.map (·.1)
 | [],b,h=>by cases h
 |(k,v)::l,b,h=>by
  simp only[lk] at h
  split at h
  ·rename_i e;subst e;simp
  ·simp only[List.map_cons,List.mem_cons];exact .inr (rP h)
theorem aj.imp {P:gy}{fo:D}{args:List D}{σ:List (Nat × aU)}{K:D→Rec→Prop}{k:FuncId}{first cap as:List D}{ins outs:List (Nat × aU)}{val:D}(h:aG P k as ins val outs)(hfo:fo= .fn (.func k) first cap)(has:as=(first++args++cap).map fg)
  (hin:∀p∈ins,lk σ p.1=some p.2∧aA (fun i=>(lk ins i).isSome=true) p.2) (hout:∀p∈outs,(lk ins p.1).isSome=true∨lk σ p.1=none)
  (hcl:∀d∈as,cZ (fun i=>(lk ins i).isSome=true) d) (hk:K val ⟨ins.map (·.1)++outs.map (·.1),outs⟩):aj P fo args σ K:=by
 refine⟨k,first,cap,ins,val,⟨ins.map (·.1)++outs.map (·.1),outs⟩,hfo,by rw[← has];exact h,?_,?_,by rw[← has];exact hcl,?_,hk⟩
 ·intro b blk hb
  exact hin (b,blk) (qR hb)
 ·intro b hb
  obtain⟨x,hx⟩:=Option.isSome_iff_exists.1 hb
  exact (hout (b,x) (qR hx)).imp (fun q=>q) (fun q=>⟨q,List.mem_append.2 (.inr (rP hb))⟩)
 ·intro b hb
  exact List.mem_append.2 (.inl (rP hb))
theorem Ends.imp {P:gy}{fn:Func}{ins outs:List (Nat × aU)}{val d:D}{e:Exit}{st:St}(he:e= .normal∨e= .ret)(hd:resD P.prog fn st=some d)(hle:Le d val)(hcl:cZ (fun i=>(lk outs i).isSome=true) val)
  (hout:∀p∈outs,lk st.σ p.1=some p.2∧aA (fun i=>(lk outs i).isSome=true) p.2) (hin:∀p∈ins,(lk outs p.1).isSome=true):Ends P fn ins val outs e st:=⟨he,d,hd,hle,hcl,hout,hin⟩
end Go.Id
namespace Go.Id
open Go
section
variable {P:gy} {ent:List Nat} {N:Nat} {Q:Exit→St→Prop} {st:St}
theorem WP.sr (ks:List Nat){id:Nat}{ops:Array Oper}{y:Code}(hd:dX N ops=true)
  (h:∀K:St→List bP→Prop,(∀st' rs,WP P ent N y Q ⟨Go.Id.keep ks st'.F,st'.σ⟩→K st' rs)→ah P ops ops.toList st [] K):WP P ent N (.seq (.region id ops false) y) Q st:=
 WP.seq (WP.region hd fun K hK=>h K fun st' rs hy=>hK st' rs (WP.weak (Weak.keep ks) hy))
theorem WP.sd (ks:List Nat){id:Nat}{ops:Array Oper}{y:Code}(hm:P.prog.follows .mixedOrders=true)(hd:dX N ops=true)
  (h:∀K:St→List bP→Prop,(∀st' rs,r_ ops rs=true→WP P ent N y Q ⟨Go.Id.keep ks st'.F,st'.σ⟩→K st' rs)→ah P ops ops.toList st [] K):WP P ent N (.seq (.region id ops true) y) Q st:=
 WP.seq (WP.drawn hm hd fun K hK=>h K fun st' rs hb hy=>hK st' rs hb (WP.weak (Weak.keep ks) hy))
theorem WP.sm (ks:List Nat)(t:Nat)(d:D){id:Nat}{ops:Array Oper}{y:Code}(hd:dX N ops=true)
  (h:∀K:St→List bP→Prop,(∀st' rs,(∀k∈ks,st'.get k=st.get k)→st'.σ=st.σ→Le (st'.get t) d→K st' rs)→ah P ops ops.toList st [] K) (hy:WP P ent N y Q ⟨(t,d)::Go.Id.keep ks st.F,st.σ⟩):
  WP P ent N (.seq (.region id ops false) y) Q st:=WP.adF ks t d hd rfl h hy
theorem WP.smd (ks:List Nat)(t:Nat)(d:D){id:Nat}{ops:Array Oper}{y:Code}(hm:P.prog.follows .mixedOrders=true)(hd:dX N ops=true)
  (h:∀K:St→List bP→Prop,(∀st' rs,r_ ops rs=true→(∀k∈ks,st'.get k=st.get k)→st'.σ=st.σ→Le (st'.get t) d→K st' rs)→ah P ops ops.toList st [] K) (hy:WP P ent N y Q ⟨(t,d)::Go.Id.keep ks st.F,st.σ⟩):
  WP P ent N (.seq (.region id ops true) y) Q st:=WP.Ph ks t d hm hd rfl h hy
theorem WP.lp {X:Type}(ks:List Nat)(V:X→List (Nat × D))(T:X→List (Nat × aU))(μ:X→Nat){F0:List (Nat × D)}{c:Code}(hF:Go.Id.keep ks st.F=F0)
  (h:∀x,WP P ent N c (Md (fun st'=>∃y,μ y < μ x∧Weak ent st' ⟨V y++F0,T y⟩) Q) ⟨V x++F0,T x⟩) (x:X) (h0:Weak ent st ⟨V x++F0,T x⟩):WP P ent N (.loop c) Q st:=
 WP.loop (fun x=>⟨V x++F0,T x⟩) μ h x h0
theorem WP.meet {x y:Code}(S:St)(h:WP P ent N x (Md (fun st'=>Weak ent st' S) Q) st)(hy:WP P ent N y Q S):WP P ent N (.seq x y) Q st:=
 WP.seq (WP.mono h fun e st' hq=>by
  cases e with
  |normal=>exact WP.weak hq hy
  | _=>exact hq)
theorem WP.aiB {x y:Code}(S:St)(h:WP P ent N x (Md (fun st'=>Weak ent st' S) Q) st)(hy:WP P ent N y Q S):WP P ent N x (Md (fun st'=>WP P ent N y Q st') Q) st:=
 WP.mono h fun e st' hq=>by
  cases e with
  |normal=>exact WP.weak hq hy
  | _=>exact hq
theorem WP.aiC {c:Code}(S:St)(h:WP P ent N c (fun e st'=>e= .normal∧Weak ent st' S) st)(hn:∀st',Weak ent st' S→Q .normal st'):WP P ent N c Q st:=
 WP.mono h fun e st' ⟨he,hw⟩=>he ▸ hn st' hw
theorem Ri {Pg:Program}{b:Frame}{a:Act}{k:List Item}{cs:List Frame}{w:World}{c:Code}:step Pg (lone (b.atR a (.code (.scope c)::k)) cs w)= .next (lone (b.atR a (.code c:: .inScope c::k)) cs w):=
 step_lone_go (by simp[stepG,stepG.exec,Frame.atR])
theorem Ls {Pg:Program}{b:Frame}{a:Act}{k:List Item}{cs:List Frame}{w:World}{c:Code}:step Pg (lone (b.atR a (.inScope c::k)) cs w)= .next (lone (b.atR a k) cs w):=
 step_lone_go (by simp[stepG,stepG.exec,Frame.atR])
theorem yM {Fe:Fence}{n:Nat}{Pg:Program}{c:Code}{Q:Exit→Act→World→Prop}{a:Act}{w:World}(h:c.wpIn Fe n Pg (Exit.noGoto Q) a w):(Code.scope c).wpIn Fe n Pg Q a w:=by
 intro b k cs hro hb hr
 obtain⟨e,a₁,w₁,hq,harr⟩:=h b (.inScope c::k) cs hro hb hr
 have h0:=StepsIn.one (fenced_calm (fr:=b.atR a (.code (.scope c)::k)) (P:=Pg) (cs:=cs) (w:=w) hb hr rfl) (Ri (Pg:=Pg))
 cases e with
 |normal=>exact⟨.normal,a₁,w₁,hq,StepsIn.trans h0 (StepsIn.trans harr (.one (fenced_calm hb hr rfl) Ls))⟩
 |exit id=>
  refine⟨.exit id,a₁,w₁,hq,fun k' hk=>StepsIn.trans h0 (harr.1 k' (by simp[exitTo,hk])),fun h1 hk=>?_⟩
  obtain⟨k₁,q1,q2⟩:=harr.2 h1 (by simp[exitTo,hk])
  exact⟨k₁,q1,StepsIn.trans h0 q2⟩
 |goto l=>exact hq.elim
 |ret=>exact⟨_,a₁,w₁,hq,.of_steps h0 harr⟩
 |panic ch=>exact⟨_,a₁,w₁,hq,.of_steps h0 harr⟩
 |outgrown=>exact⟨_,a₁,w₁,hq,.of_steps h0 harr⟩
def agz (Q:Exit→St→Prop):Exit→St→Prop:=fun e st'=>
 match e with
 | .goto _=>False
 |e=>Q e st'
theorem WP.scope {c:Code}(h:WP P ent N c (agz Q) st):WP P ent N (.scope c) Q st:=fun Fe nf hF E a w hr=>
 yM (wpIn_mono (h Fe nf hF E a w hr) fun e a' w' ⟨st',hq,hr'⟩=>by
  cases e with
  |goto l=>exact hq.elim
  | _=>exact⟨st',hq,hr'⟩)
theorem Weak.nil {F':List (Nat × D)}(h:∀p∈F',Le (st.get p.1) p.2)(hc:∀p∈F',cZ (fun _=>False) p.2):Weak [] st ⟨F',[]⟩:=
 Weak.store h (by simp) (fun p hp=>(hc p hp).mono fun _ h=>h.elim) (by simp) (by simp)
end
theorem aK {k n:Nat}(h:decide ((k:Int)<(n:Int))=true):k<n:=by simpa using h
theorem aN {k n:Nat}(h:decide ((k:Int)<(n:Int))=false):n≤k:=by simpa using h
theorem j_ {α:Type}{l:List α}{k:Nat}(h:k<l.length):l[k]?=some l[k]:=List.getElem?_eq_getElem h
theorem dI {α:Type}{l:List α}{k:Nat}(h:k<l.length):l.drop k=l[k]::l.drop (k+1):=List.drop_eq_getElem_cons h
theorem eP {α:Type}{l:List α}{k:Nat}(h:l.length≤k):l.drop k=[]:=List.drop_eq_nil_of_le h
theorem aT {k n:Nat}(h:k<n)(hn:n≤140737488355328):IntKind.wrap .i64 ((k:Int)+1)=((k+1:Nat):Int):=by
 rw[wrap_i64 (by omega) (by omega)];rfl
theorem LN:(∀(α:Type) (l:List α),(1≤(l.length:Int))=(l≠[]))∧(∀(α:Type) (l:List α),((l.length:Int)<1)=(l=[]))∧(∀(α:Type) (l:List α),((l.length:Int)=0)=(l=[]))∧
  (∀(α:Type) (l:List α),((l.length:Int)>0)=(l≠[]))∧(∀(α:Type) (l:List α),((l.length:Int)≤0)=(l=[])):=by
 refine⟨?_,?_,?_,?_,?_⟩ <;> intro α l <;> cases l <;> simp <;> omega
def Les:List D→List D→Prop
 | [],[]=>True
 |a::l,b::m=>Le a b∧Les l m
 | _,_=>False
theorem Les.at:∀{l m:List D},Les l m→l.length=m.length∧∀(i:Nat) a b,l[i]?=some a→m[i]?=some b→Le a b
 | [],[],_=>⟨rfl,fun i a b h=>by cases h⟩
 |a::l,b::m,h=>by
  obtain⟨h1,h2⟩:=Les.at h.2
  refine⟨by simp[h1],fun i x y hx hy=>?_⟩
  cases i with
  |zero=>simp at hx hy;subst hx;subst hy;exact h.1
  |succ i=>simp at hx hy;exact h2 i x y hx hy
 | [],_::_,h=>h.elim
 | _::_,[],h=>h.elim
theorem aG.weak {P:gy}{k:FuncId}{args args':List D}{ins outs:List (Nat × aU)}{val val':D}(h:aG P k args ins val outs)(ha:Les args' args)(hv:Le val val'):aG P k args' ins val' outs:=by
 obtain⟨hl,hle⟩:=ha.at
 refine⟨h.1,fun M γ w vs hst hlen hr=>(h.2 M γ w vs hst (by omega) (fun i d v hd hv=>?_)).mono ?_⟩
 ·have hi:i<args'.length:=by rw[hl];exact (List.getElem?_eq_some_iff.1 hd).1
  exact hle i _ _ (List.getElem?_eq_getElem hi) hd _ _ _ _ (hr i _ v (List.getElem?_eq_getElem hi) hv)
 ·rintro e w' ⟨v,γ',rfl,q1,q2,q3⟩
  exact⟨v,γ',rfl,q1,q2,hv _ _ _ _ q3⟩
theorem aj.aak {P:gy}{fo:D}{args:List D}{σ:List (Nat × aU)}{K:D→Rec→Prop}{k:FuncId}{first cap as:List D}{val:D}(h:ak P k as val)(hfo:fo= .fn (.func k) first cap)(has:Les ((first++args++cap).map fg) as)
  (hcl:∀d∈(first++args++cap).map fg,cZ (fun _=>False) d) (hk:K val ⟨[],[]⟩):aj P fo args σ K:=
 aj.pure (aG.weak h has (Le.refl _)) hfo rfl hcl hk
theorem getM {α β:Type}{f:α→β}{l:List α}{k:Nat}(h:k<l.length):(l.map f)[k]?=some (f l[k]):=by simp[h]
theorem MB {α:Type}{l:List α}{k:Nat}(h:k<l.length):l.take (k+1)=l.take k++[l[k]]:=by
 rw[List.take_succ_eq_append_getElem h]
theorem bH {α:Type}{nl:Bool}{l:List α}{k:Nat}(h:nl=true→l=[])(hk:k<l.length):nl=false:=by
 cases nl
 ·rfl
 ·rw[h rfl] at hk;simp at hk
end Go.Id
namespace Go.Id
open Go
def zC (t sz:Nat)(d d':D):Prop:=d'=d∨∃z,d= .slice z true [] none∧d'= .slice sz true [] (some t)
def UF (t sz:Nat):List D→List D→Prop
 | [],[]=>True
 |d::l,d'::l'=>zC t sz d d'∧UF t sz l l'
 | _,_=>False
def Ac (t sz:Nat):List (Nat × D)→List (Nat × D)→Prop
 | [],[]=>True
 |p::l,p'::l'=>p'.1=p.1∧zC t sz p.2 p'.2∧Ac t sz l l'
 | _,_=>False
def Rj (t sz:Nat):aU→aU→Prop
 | .box T cs,.box T' cs' | .arr T cs,.arr T' cs'=>T'=T∧UF t sz cs cs'
 |b,b'=>b'=b
def Dq (t sz:Nat):List (Nat × aU)→List (Nat × aU)→Prop
 | [],[]=>True
 |p::l,p'::l'=>p'.1=p.1∧Rj t sz p.2 p'.2∧Dq t sz l l'
 | _,_=>False
theorem UF.at {t sz:Nat}:∀{l l':List D},UF t sz l l'→l'.length=l.length∧∀(i:Nat) d',l'[i]?=some d'→∃d,l[i]?=some d∧zC t sz d d'
 | [],[],_=>⟨rfl,fun i d h=>by simp at h⟩
 |d::l,d'::l',h=>by
  obtain⟨h1,h2⟩:=UF.at h.2
  refine⟨by simp[h1],fun i x hx=>?_⟩
  cases i with
  |zero=>simp at hx;subst hx;exact⟨d,rfl,h.1⟩
  |succ i=>simp at hx;simpa using h2 i x hx
 | [],_::_,h=>h.elim
 | _::_,[],h=>h.elim
theorem Ac.lk {t sz:Nat}:∀{l l':List (Nat × D)},Ac t sz l l'→∀k,(lk l k=none∧Go.Id.lk l' k=none)∨∃d d',Go.Id.lk l k=some d∧Go.Id.lk l' k=some d'∧zC t sz d d'
 | [],[],_,k=> .inl ⟨rfl,rfl⟩
 |(i,d)::l,(i',d')::l',h,k=>by
  obtain⟨h1,h2,h3⟩:=h
  simp only at h1;subst h1
  simp only[Go.Id.lk]
  split
  ·exact .inr ⟨_,_,rfl,rfl,h2⟩
  ·exact Ac.lk h3 k
 | [],_::_,h,_=>h.elim
 | _::_,[],h,_=>h.elim
theorem Dq.lk {t sz:Nat}:∀{l l':List (Nat × aU)},Dq t sz l l'→∀k,(Go.Id.lk l k=none∧Go.Id.lk l' k=none)∨∃d d',Go.Id.lk l k=some d∧Go.Id.lk l' k=some d'∧Rj t sz d d'
 | [],[],_,k=> .inl ⟨rfl,rfl⟩
 |(i,d)::l,(i',d')::l',h,k=>by
  obtain⟨h1,h2,h3⟩:=h
  simp only at h1;subst h1
  simp only[Go.Id.lk]
  split
  ·exact .inr ⟨_,_,rfl,rfl,h2⟩
  ·exact Dq.lk h3 k
 | [],_::_,h,_=>h.elim
 | _::_,[],h,_=>h.elim
theorem zC.rep {t sz:Nat}{M M':Nat→Nat→Prop}{γ γ':Nat→Option G}{w:World}(hv:Evo M γ w M' γ' w){e:TypeId}(ht:γ' t=some (.aS sz e (.slice none 0 0) 0)){d d':D}(h:zC t sz d d'){v:Value}(hr:Rep M γ w d v):Rep M' γ' w d' v:=by
 rcases h with rfl | ⟨z,rfl,rfl⟩
 ·exact hr.Lc hv
 ·have hv':v= .slice none 0 0:=by cases hr;rfl
  subst hv'
  refine .nilslice fun t' e'=>?_
  cases e'
  exact⟨sz,e,_,0,ht,Nat.le_refl _,fun _=>rfl⟩
theorem Weak.ghost {ent:List Nat}{st:St}(t:Nat)(e:TypeId)(sz:Nat){F':List (Nat × D)}{σ':List (Nat × aU)}(hn:lk st.σ t=none)(hF:Ac t sz st.F F')(hσ:Dq t sz st.σ σ'):Weak ent st ⟨F',(t,.aS e sz 0)::σ'⟩:=by
 rintro P E N a w ⟨γ,h1,h2,h3,h4,h5,h6⟩
 let g0:G:= .aS sz e (.slice none 0 0) 0
 have hγt:γ t=none:=by
  rcases h2.names t with⟨blk,g,q1,_⟩ | ⟨_,q⟩
  ·rw[hn] at q1;cases q1
  ·exact q
 have hM:∀B off,aC E.M (upd γ t (some g0)) B off↔aC E.M γ B off:=by
  intro B off
  constructor
  ·rintro (hm | ⟨b,g,hg,hw⟩)
   ·exact .inl hm
   ·by_cases hb:b=t
    ·subst hb;rw[upd_same] at hg;cases hg;cases hw.1
    ·rw[bF _ _ hb] at hg;exact .inr ⟨b,g,hg,hw⟩
  ·rintro (hm | ⟨b,g,hg,hw⟩)
   ·exact .inl hm
   ·have hb:b≠t:=fun e=>by subst e;rw[hγt] at hg;cases hg
    exact .inr ⟨b,g,by rw[bF _ _ hb];exact hg,hw⟩
 have aal:∀b g,γ b=some g→∃g',upd γ t (some g0) b=some g'∧g.le g':=by
  intro b g hg
  have hb:b≠t:=fun e=>by subst e;rw[hγt] at hg;cases hg
  exact⟨g,by rw[bF _ _ hb];exact hg,G.le_refl g⟩
 have hev:Evo (aC E.M γ) γ w (aC E.M (upd γ t (some g0))) (upd γ t (some g0)) w:=⟨fun _ _ _ _ h=>h,fun B off h _=>(hM B off).1 h,aal⟩
 have hin:∀b g,upd γ t (some g0) b=some g→(∃B,g.block=some B)→γ b=some g:=by
  rintro b g hg ⟨B,hB⟩
  by_cases hb:b=t
  ·subst hb;rw[upd_same] at hg;cases hg;cases hB
  ·rw[bF _ _ hb] at hg;exact hg
 refine⟨upd γ t (some g0),h1,⟨fun b=>?_,fun b b' g g' B q1 q2 q3 q4=>h2.dist b b' g g' B (hin _ _ q1 ⟨_,q3⟩) (hin _ _ q2 ⟨_,q4⟩) q3 q4,h2.outer,fun b g B off q1 q2=>h2.apart b g B off (hin _ _ q1 ⟨_,q2⟩) q2,h2.inv,fun b g B q1 q2=>h2.low b g B (hin _ _ q1 ⟨_,q2⟩) q2,h2.big⟩,?_,h4,h5.back (fun b g B q1 q2=>⟨b,g,hin _ _ q1 ⟨_,q2⟩,q2⟩),fun k=>?_⟩
 ·by_cases hb:b=t
  ·subst hb
   exact .inl ⟨.aS e sz 0,g0,by simp[lk],upd_same _ _ _,.aS [] ⟨by simp,.inl ⟨rfl,rfl⟩⟩⟩
  ·rw[bF _ _ hb]
   simp only[lk,if_neg hb]
   rcases h2.names b with⟨blk,g,q1,q2,q3⟩ | ⟨q1,q2⟩
   ·rcases hσ.lk b with⟨r1,_⟩ | ⟨d,d',r1,r2,r3⟩
    ·rw[q1] at r1;cases r1
    ·rw[q1] at r1;cases r1
     refine .inl ⟨d',g,r2,q2,?_⟩
     cases q3 with
     | @box cs B vs T fz hB hl hh hr=>
      cases d' with
      |box T' cs'=>
       obtain⟨rfl,hu⟩:=r3
       obtain⟨hlen,hat⟩:=hu.at
       exact .box vs _ fz hB (by omega) hh (fun i x v hx hv=>by
        obtain⟨d0,s1,s2⟩:=hat i x hx
        exact s2.rep hev (upd_same _ _ _) (hr i d0 v s1 hv))
      | _=>cases r3
     | @arr _ cs B cap z vs T fz hB hl hh hr hf=>
      cases d' with
      |arr T' cs'=>
       obtain⟨rfl,hu⟩:=r3
       obtain⟨hlen,hat⟩:=hu.at
       exact .arr vs _ fz hB (by omega) (fun i v hi hv=>hh i v (by omega) hv) (fun i x v hx hv=>by
        obtain⟨d0,s1,s2⟩:=hat i x hx
        exact s2.rep hev (upd_same _ _ _) (hr i d0 v s1 hv)) hf
      | _=>cases r3
     |aS xs ho=>simp only[Rj] at r3;subst r3;exact .aS xs ho
     |iter hB=>simp only[Rj] at r3;subst r3;exact .iter hB
     |map en hB hl hk=>simp only[Rj] at r3;subst r3;exact (cO.map en hB hl hk).Lc hev (fun _ _=>rfl)
     |dS hB hm=>simp only[Rj] at r3;subst r3;exact (cO.dS hB hm).Lc hev (fun _ _=>rfl)
     |dead hB=>simp only[Rj] at r3;subst r3;exact .dead hB
   ·rcases hσ.lk b with⟨_,r2⟩ | ⟨d,d',r1,r2,r3⟩
    ·exact .inr ⟨r2,q2⟩
    ·rw[q1] at r1;cases r1
 ·refine⟨h3.os,h3.tape,h3.output,h3.size,h3.cell,fun B off q1 q2=>h3.wr B off ((hM B off).1 q1) q2,fun b g hg=>?_,h3.block,fun b g B q1 q2 q3=>h3.old b g B (hin _ _ q1 ⟨_,q2⟩) q2 q3⟩
  obtain⟨g',q1,q2⟩:=h3.names b g hg
  obtain⟨g'',q3,q4⟩:=aal b g' q1
  exact⟨g'',q3,G.le_trans q2 q4⟩
 ·have h0:=h6 k
  rcases hF.lk k with⟨r1,r2⟩ | ⟨d,d',r1,r2,r3⟩
  ·simp only[St.get,r2,Option.getD_none];exact .junk _
  ·simp only[St.get,r1,r2,Option.getD_some] at h0 ⊢
   exact r3.rep hev (upd_same _ _ _) h0
def ArD (b sz:Nat)(es:List (List D))(d d':D):Prop:=(d'=d∧cZ (fun i=>i≠b) d)∨(d= .arr b sz es.length∧d'= .slice sz false es (some b))
def ArF (b sz:Nat)(es:List (List D)):List (Nat × D)→List (Nat × D)→Prop
 | [],[]=>True
 |p::l,p'::l'=>p'.1=p.1∧ArD b sz es p.2 p'.2∧ArF b sz es l l'
 | _,_=>False
theorem ArF.lk {b sz:Nat}{es:List (List D)}:∀{l l':List (Nat × D)},ArF b sz es l l'→∀k,(Go.Id.lk l k=none∧Go.Id.lk l' k=none)∨∃d d',Go.Id.lk l k=some d∧Go.Id.lk l' k=some d'∧ArD b sz es d d'
 | [],[],_,k=> .inl ⟨rfl,rfl⟩
 |(i,d)::l,(i',d')::l',h,k=>by
  obtain⟨h1,h2,h3⟩:=h
  simp only at h1;subst h1
  simp only[Go.Id.lk]
  split
  ·exact .inr ⟨_,_,rfl,rfl,h2⟩
  ·exact ArF.lk h3 k
 | [],_::_,h,_=>h.elim
 | _::_,[],h,_=>h.elim
theorem flat_get {sz:Nat}:∀(es:List (List D)),(∀e∈es,e.length=sz)→∀(i j:Nat) x d,es[i]?=some x→x[j]?=some d→es.flatten[i * sz+j]?=some d
 | [],_,i,j,x,d,h,_=>by simp at h
 |e::es,he,i,j,x,d,h,hd=>by
  have hl:e.length=sz:=he e (by simp)
  rw[List.flatten_cons]
  cases i with
  |zero=>
   simp at h;subst h
   have:=(List.getElem?_eq_some_iff.1 hd).1
   rw[Nat.zero_mul,Nat.zero_add,List.getElem?_append_left this];exact hd
  |succ i=>
   simp at h
   rw[List.getElem?_append_right (by rw[hl,Nat.succ_mul];omega),hl]
   have:(i+1) * sz+j - sz=i * sz+j:=by rw[Nat.succ_mul];omega
   rw[this]
   exact flat_get es (fun x hx=>he x (by simp[hx])) i j x d h hd
theorem Weak.adK {ent:List Nat}{st:St}(b:Nat)(e:TypeId)(sz:Nat)(es:List (List D))(rest:List D)(k0:Nat){F':List (Nat × D)}{σ':List (Nat × aU)}(hk:st.get k0= .arr b sz es.length)(hb:lk st.σ b=some (.arr e (es.flatten++rest)))(hes:∀x∈es,x.length=sz)(hent:b ∉ ent)
  (hF:ArF b sz es st.F F') (hec:∀x∈es,∀d∈x,cZ (fun i=>i≠b) d) (hσ:∀i,i≠b→lk σ' i=lk st.σ i) (hσb:lk σ' b=some (.aS e sz es.length)) (hσc:∀p∈st.σ,p.1≠b→aA (fun i=>i≠b) p.2) (he:e<1000000:=by decide):Weak ent st ⟨F',σ'⟩:=by
 rintro P E N a w ⟨γ,h1,h2,h3,h4,h5,h6⟩
 obtain⟨g,q1,q2⟩:=h2.hit hb
 have uX:=kJ es hes
 cases q2 with
 | @arr e0 _ B cap z vs _ fz hB hl hh hr hf=>
  obtain⟨hff,hf2,hf3⟩:=hf
  obtain⟨rfl,rfl⟩:=Dc hff he
  have hcap:es.length≤cap∧z=sz:=by
   have h0:=h6 k0
   rw[hk] at h0
   generalize a.tmps.getD k0 undef=v0 at h0
   cases h0 with
   |arr hγ hn=>rw[q1] at hγ;cases hγ;exact⟨hn,rfl⟩
  obtain⟨hcap,rfl⟩:=hcap
  rw[List.length_append,uX] at hl
  have hle:es.length * z≤vs.size:=by omega
  have htl:(vs.toList.take (es.length * z)).length=es.length * z:=by rw[List.length_take];exact Nat.min_eq_left (by simpa using hle)
  let v:Value:= .slice (some ⟨B,0,none⟩) es.length cap
  let g':G:= .aS z e v es.length
  have hM:∀B' off,aC E.M (upd γ b (some g')) B' off→aC E.M γ B' off:=by
   rintro B' off (hm | ⟨i,gi,hg,hw⟩)
   ·exact .inl hm
   ·by_cases hi:i=b
    ·subst hi;rw[upd_same] at hg;cases hg
     have:=hw.1
     simp only[v,Value.ownBlock,Option.some.injEq] at this
     exact .inr ⟨i,_,q1,this.symm⟩
    ·rw[bF _ _ hi] at hg;exact .inr ⟨i,gi,hg,hw⟩
  have hother:∀i,i≠b→upd γ b (some g') i=γ i:=fun i hi=>bF _ _ hi
  have hback:∀i gi,upd γ b (some g') i=some gi→∃g0,γ i=some g0∧g0.block=gi.block:=by
   intro i gi hg
   by_cases hi:i=b
   ·subst hi;rw[upd_same] at hg;cases hg;exact⟨_,q1,rfl⟩
   ·rw[hother i hi] at hg;exact⟨gi,hg,rfl⟩
  have move:∀{d:D} {u:Value},Rep (aC E.M γ) γ w d u→cZ (fun i=>i≠b) d→Rep (aC E.M (upd γ b (some g'))) (upd γ b (some g')) w d u:=
   fun hd hc=>(hd.restrict hother hc).sub hM
  refine⟨upd γ b (some g'),h1,⟨fun i=>?_,fun i i' gi gi' B' a1 a2 a3 a4=>?_,h2.outer,fun i gi B' off a1 a2=>?_,h2.inv,fun i gi B' a1 a2=>?_,h2.big⟩,?_,h4,h5.back (fun b g B q1 q2=>by obtain⟨g0,r1,r2⟩:=hback _ _ q1;exact⟨b,g0,r1,r2.trans q2⟩),fun k=>?_⟩
  ·by_cases hi:i=b
   ·subst hi
    exact .inl ⟨_,g',hσb,upd_same _ _ _,.aS (vs.toList.take (es.length * z)) ⟨htl,.inr ⟨B,cap,vs,rfl,Nat.zero_le _,hB,hcap,hf3,hf2,rfl⟩⟩⟩
   ·show (∃blk g,lk σ' i=some blk∧_)∨(lk σ' i=none∧_)
    rw[hσ i hi,hother i hi]
    rcases h2.names i with⟨blk,gi,a1,a2,a3⟩ | ⟨a1,a2⟩
    ·refine .inl ⟨blk,gi,a1,a2,?_⟩
     have hc:=hσc _ (iZ _ _ _ a1) hi
     exact (a3.restrict hother hc).Lc ⟨fun _ _ _ _ h=>h,fun B' off h _=>hM B' off h,fun _ g h=>⟨g,h,G.le_refl g⟩⟩ (fun _ _=>rfl)
    ·exact .inr ⟨a1,a2⟩
  ·obtain⟨g1,b1,b2⟩:=hback _ _ a1
   obtain⟨g2,b3,b4⟩:=hback _ _ a2
   exact h2.dist i i' g1 g2 B' b1 b3 (b2.trans a3) (b4.trans a4)
  ·obtain⟨g1,b1,b2⟩:=hback _ _ a1
   exact h2.apart i g1 B' off b1 (b2.trans a2)
  ·obtain⟨g1,b1,b2⟩:=hback _ _ a1
   exact h2.low i g1 B' b1 (b2.trans a2)
  ·refine⟨h3.os,h3.tape,h3.output,h3.size,h3.cell,fun B' off a1 a2=>h3.wr B' off (hM B' off a1) a2,fun i gi hg=>?_,h3.block,fun i gi B' a1 a2 a3=>?_⟩
   ·have hi:i≠b:=fun e=>hent (e ▸ h1 i gi hg)
    obtain⟨g1,b1,b2⟩:=h3.names i gi hg
    exact⟨g1,(hother i hi).trans b1,b2⟩
   ·obtain⟨g1,b1,b2⟩:=hback _ _ a1
    exact h3.old i g1 B' b1 (b2.trans a2) a3
  ·have h0:=h6 k
   rcases hF.lk k with⟨r1,r2⟩ | ⟨d,d',r1,r2,r3⟩
   ·simp only[St.get,r2,Option.getD_none];exact .junk _
   ·simp only[St.get,r1,r2,Option.getD_some] at h0 ⊢
    rcases r3 with⟨rfl,hc⟩ | ⟨rfl,rfl⟩
    ·exact move h0 hc
    ·generalize a.tmps.getD k undef=v0 at h0
     cases h0 with
     |arr hγ hn=>
      rw[q1] at hγ;cases hγ
      refine .slice (vs.toList.take (es.length * z)) hes htl (fun _=>rfl) (fun j u hu=>?_) (fun i j x d u c1 c2 c3=>?_) hn (fun t ht=>?_)
      ·have hj:j<es.length * z:=by have:=(List.getElem?_eq_some_iff.1 hu).1;omega
       have hu':vs[j]?=some u:=by rw[List.getElem?_take,if_pos hj] at hu;simpa using hu
       refine⟨by rw[cell_of_row w B (0+j) vs e _ hB,Nat.zero_add];exact hu',?_,(hh j u (by rw[List.length_append,uX];omega) hu').1⟩
       rintro (hm | ⟨i,gi,hg,hw⟩)
       ·exact h2.apart b _ B _ q1 rfl hm
       ·by_cases hi:i=b
        ·subst hi;rw[upd_same] at hg;cases hg
         have:=hw.2;simp only[Nat.zero_add] at this;omega
        ·rw[hother i hi] at hg
         exact hi (h2.dist i b gi _ B hg q1 (G.jQ hw) rfl)
      ·have hfg:=flat_get es hes i j x d c1 c2
       have hlt:=(List.getElem?_eq_some_iff.1 hfg).1
       have c3':vs[i * z+j]?=some u:=by rw[List.getElem?_take,if_pos (by omega)] at c3;simpa using c3
       exact move (hr (i * z+j) d u (by rw[List.getElem?_append_left hlt];exact hfg) c3') (hec x (List.mem_of_getElem? c1) d (List.mem_of_getElem? c2))
      ·cases ht
       exact⟨z,e,v,es.length,upd_same _ _ _,Nat.le_refl _,fun _=>rfl⟩
theorem Weak.agB {ent:List Nat}{st:St}(b:Nat)(e:TypeId)(sz:Nat)(es:List (List D))(k0:Nat){F':List (Nat × D)}{σ':List (Nat × aU)}(hk:st.get k0= .arr b sz es.length)(hb:lk st.σ b=some (.arr e es.flatten))(hes:∀x∈es,x.length=sz)(hent:b ∉ ent)
  (hF:ArF b sz es st.F F') (hec:∀x∈es,∀d∈x,cZ (fun i=>i≠b) d) (hσ:∀i,i≠b→lk σ' i=lk st.σ i) (hσb:lk σ' b=some (.aS e sz es.length)) (hσc:∀p∈st.σ,p.1≠b→aA (fun i=>i≠b) p.2) (he:e<1000000:=by decide):Weak ent st ⟨F',σ'⟩:=
 Weak.adK b e sz es [] k0 hk (by rw[List.append_nil];exact hb) hes hent hF hec hσ hσb hσc he
theorem kU (l:List Nat)(hl:l.Nodup):∃f g:Nat→Nat,(∀n,g (f n)=n)∧∀(i:Nat) x,l[i]?=some x→f i=x:=by
 obtain⟨M,hM⟩:∃M,∀x∈l,x<M:=⟨l.foldr (fun a b=>a+b+1) 0,by
  intro x hx
  induction l with
  |nil=>cases hx
  |cons a l ih=>
   simp only[List.foldr_cons]
   rcases List.mem_cons.1 hx with rfl|hx
   ·omega
   ·have:=ih (List.nodup_cons.1 hl).2 hx;omega⟩
 refine⟨fun i=>(l[i]?).getD (i+M),fun n=>if n∈l then l.idxOf n else n - M,fun n=>?_,fun i x hx=>by simp[hx]⟩
 by_cases hn:n<l.length
 ·have:(l[n]?).getD (n+M)=l[n]:=by simp[hn]
  simp only[this]
  rw[if_pos (List.getElem_mem hn)]
  exact hl.idxOf_getElem n hn
 ·have:(l[n]?).getD (n+M)=n+M:=by rw[List.getElem?_eq_none (by omega)];rfl
  simp only[this]
  rw[if_neg (fun h=>by have:=hM _ h;omega)]
  omega
end Go.Id
namespace Go.Id
open Go
inductive Fr (t:Nat):D→Prop
 |junk:Fr t .junk
 |bool (b:Bool):Fr t (.bool b)
 |int (k:IntKind) (n:Int):Fr t (.int k n)
 |str (s:List UInt8):Fr t (.str s)
 |nilslice (sz:Nat):Fr t (.slice sz true [] none)
 |arr {b sz n:Nat} (h:b≠t):Fr t (.arr b sz n)
 |view {b off sz n:Nat} (h:b≠t):Fr t (.view b off sz n)
 |ref {b off:Nat} (h:b≠t):Fr t (.ref b off)
 |aP:Fr t .aP
 |fn {f:Fn} {a b:List D} (h:∀d∈a,Fr t d) (h':∀d∈b,Fr t d):Fr t (.fn f a b)
 |dD:Fr t .dD
 |agg {cs:List D} (h:∀d∈cs,Fr t d):Fr t (.agg cs)
 |aJ {cs:List D} (h:∀d∈cs,Fr t d):Fr t (.aJ cs)
 |iface {u:TypeId} {d:D} (h:Fr t d):Fr t (.iface u d)
 |aI:Fr t .aI
 |val (v:Value):Fr t (.val v)
 |bG:Fr t .bG
 |map {b:Nat} (h:b≠t):Fr t (.map b)
section
variable {t:Nat}
@[simp] theorem ako (b:Bool):Fr t (.bool b):= .bool b
@[simp] theorem akV (k:IntKind)(n:Int):Fr t (.int k n):= .int k n
@[simp] theorem akW (s:List UInt8):Fr t (.str s):= .str s
@[simp] theorem akp:Fr t .junk:= .junk
theorem Fr.rep {M M':Nat→Nat→Prop}{γ γ':Nat→Option G}{w:World}(hγ:∀i,i≠t→γ' i=γ i){d:D}(hd:Fr t d){v:Value}(h:Rep M γ w d v):Rep M' γ' w d v:=by
 induction h with
 |junk v=>exact .junk v
 |bool b=>exact .bool b
 |int k n=>exact .int k n
 |str s=>exact .str s
 |nilslice ht=>cases hd with|nilslice sz=>exact .nilslice (iK.none _ _ _)
 |slice=>cases hd
 |arr hb hn=>cases hd with|arr h=>exact .arr ((hγ _ h).trans hb) hn
 |view hb ha hn=>cases hd with|view h=>exact .view ((hγ _ h).trans hb) ha hn
 |ref hb=>
  cases hd with
  |ref h=>
   refine .ref ?_
   rw[hγ _ h]
   exact hb
 |dQ=>cases hd
 |aP=>exact .aP
 |fn hf hk _ _ ih1 ih2=>
  cases hd with
  |fn h h'=>exact .fn hf hk (fun i d v a b=>ih1 i d v a b (h d (List.mem_of_getElem? a))) (fun i d v a b=>ih2 i d v a b (h' d (List.mem_of_getElem? a)))
 |dD=>exact .dD
 |agg hl h1 _ ih=>cases hd with|agg h=>exact .agg hl h1 (fun i d v a b=>ih i d v a b (h d (List.mem_of_getElem? a)))
 |aJ hl _ ih=>cases hd with|aJ h=>exact .aJ hl (fun i d v a b=>ih i d v a b (h d (List.mem_of_getElem? a)))
 |iface _ ih=>cases hd with|iface h=>exact .iface (ih h)
 |aI=>exact .aI
 |val v=>exact .val v
 |bG=>exact .bG
 |map hb=>cases hd with|map h=>exact .map ((hγ _ h).trans hb)
end
theorem Weak.agC {st:St}(t:Nat)(e:TypeId)(sz:Nat)(es:List (List D))(k0:Nat){F':List (Nat × D)}(hk:st.get k0= .slice sz false es (some t))(hb:lk st.σ t=some (.aS e sz es.length))(hes:∀x∈es,∀d∈x,Fr t d)
  (hσ:∀b,b≠t→lk st.σ b=none) (hF:∀p∈F',(p.1=k0∧p.2= .arr t sz es.length)∨(st.get p.1=p.2∧Fr t p.2)):Weak [] st ⟨F',[(t,.arr e es.flatten)]⟩:=by
 rintro P E N a w ⟨γ,h1,h2,h3,h4,h5,h6⟩
 have hent:∀b,E.γ b=none:=fun b=>by
  cases h:E.γ b with
  |none=>rfl
  |some g=>exact absurd (h1 b g h) (by simp)
 obtain⟨g,q1,q2⟩:=h2.hit hb
 have hsl:=h6 k0
 rw[hk] at hsl
 generalize hv0:a.tmps.getD k0 undef=v0 at hsl
 rcases aW hsl with⟨_,_,hn⟩ | ⟨ad,cap,vs,rfl,_,hspot,hvs,hcap,hsz,hcell,hr,htip⟩
 ·cases hn
 cases q2 with
 | @aS _ _ _ v xs ho=>
  obtain⟨_,_,v',n',p1,p2,p3⟩:=htip t rfl
  rw[q1] at p1
  simp only[Option.some.injEq,G.aS.injEq] at p1
  obtain⟨rfl,rfl,rfl,rfl⟩:=p1
  have hv:=p3 rfl
  rcases ho.2 with⟨h0,_⟩ | ⟨B,cap',cur,hvB,_,hB,hnc,hcm,hcs,htake⟩
  ·rw[h0] at hv;cases hv
  rw[hvB] at hv
  simp only[Value.slice.injEq,Option.some.injEq,true_and] at hv
  obtain⟨rfl,rfl⟩:=hv
  let g':G:= .arr B cap sz
  have hnew:¬B<E.w.heap.size:=fun hlt=>by
   obtain⟨b',g0,r1,_⟩:=h3.old t _ B q1 (by rw[hvB];rfl) hlt
   rw[hent] at r1;cases r1
  have hblk:∀i gi,γ i=some gi→i=t:=fun i gi hg=>by
   by_cases hi:i=t
   ·exact hi
   ·rcases h2.names i with⟨blk,gi',r1,_⟩ | ⟨_,r2⟩
    ·rw[hσ i hi] at r1;cases r1
    ·rw[r2] at hg;cases hg
  have hother:∀i,i≠t→upd γ t (some g') i=γ i:=fun i hi=>bF _ _ hi
  have hgi:∀i gi,upd γ t (some g') i=some gi→i=t∧gi=g':=fun i gi hg=>by
   by_cases hi:i=t
   ·subst hi;rw[upd_same] at hg;cases hg;exact⟨rfl,rfl⟩
   ·rw[hother i hi] at hg;exact absurd (hblk i gi hg) hi
  have uX:=kJ es hsz
  have hMB:∀off,¬E.M.M B off:=fun off hm=>hnew (by
   have:=h2.outer B off hm
   exact absurd hm (h2.apart t _ B off q1 (by rw[hvB];rfl)))
  refine⟨upd γ t (some g'),fun b g0 hg=>(by rw[hent] at hg;cases hg),⟨fun i=>?_,fun i i' gi gi' B' a1 a2 a3 a4=>?_,h2.outer,fun i gi B' off a1 a2=>?_,h2.inv,fun i gi B' a1 a2=>?_,h2.big⟩,?_,h4,h5.back (fun b g B q1' q2=>by obtain⟨rfl,rfl⟩:=hgi _ _ q1';exact⟨b,_,q1,by rw[← q2,hvB];rfl⟩),fun k=>?_⟩
  ·by_cases hi:i=t
   ·subst hi
    refine .inl ⟨.arr e es.flatten,g',by simp[lk],upd_same _ _ _,?_⟩
    refine .arr cur e (0,0) hB (by rw[uX,hcs];exact Nat.mul_le_mul_right _ hcap) (fun j u hj hu=>⟨?_,by simp[World.frozen?,hB]⟩) (fun j d u hd hu=>?_) ⟨.inl ⟨rfl,rfl⟩,hcs,hcm⟩
    ·have hjv:j<vs.length:=by omega
     have:=hcell j _ (List.getElem?_eq_getElem hjv)
     simp only[Nat.zero_add] at this
     have hc:=this.1
     rw[cell_of_row w B j cur e _ hB,hu] at hc
     have:u=vs[j]:=by simpa using hc
     rw[this];exact (hcell j _ (List.getElem?_eq_getElem hjv)).2.2
    ·obtain⟨x,r1,r2⟩:=xP es hsz j d hd
     have hjv:j<vs.length:=by have:=(List.getElem?_eq_some_iff.1 hd).1;omega
     have:=hcell j _ (List.getElem?_eq_getElem hjv)
     simp only[Nat.zero_add] at this
     have hc:=this.1
     rw[cell_of_row w B j cur e _ hB,hu] at hc
     have hu':u=vs[j]:=by simpa using hc
     have h7:=hr (j / sz) (j % sz) x d vs[j] r1 r2 (by rw[Nat.div_add_mod'];exact List.getElem?_eq_getElem hjv)
     rw[hu']
     exact (hes x (List.mem_of_getElem? r1) d (List.mem_of_getElem? r2)).rep hother h7
   ·refine .inr ⟨by simp[lk,hi],?_⟩
    rw[hother i hi]
    exact h2.miss (hσ i hi)
  ·obtain⟨rfl,_⟩:=hgi _ _ a1
   obtain⟨rfl,_⟩:=hgi _ _ a2
   rfl
  ·obtain⟨rfl,rfl⟩:=hgi _ _ a1
   simp only[g',G.block,Option.some.injEq] at a2
   subst a2
   exact hMB off
  ·obtain⟨rfl,rfl⟩:=hgi _ _ a1
   simp only[g',G.block,Option.some.injEq] at a2
   subst a2
   exact h2.low i _ B q1 (by rw[hvB];rfl)
  ·refine⟨h3.os,h3.tape,h3.output,h3.size,h3.cell,fun B' off hm hlt=>?_,fun b g0 hg=>(by rw[hent] at hg;cases hg),fun B' hlt hno=>h3.block B' hlt hno,fun b g0 B' hg hgB hlt=>?_⟩
   ·rcases hm with hm | ⟨i,gi,hg,hw⟩
    ·exact h3.wr B' off (.inl hm) hlt
    ·obtain⟨rfl,rfl⟩:=hgi _ _ hg
     have:B'=B:=hw
     subst this
     exact absurd hlt hnew
   ·obtain⟨rfl,rfl⟩:=hgi _ _ hg
    simp only[g',G.block,Option.some.injEq] at hgB
    subst hgB
    exact absurd hlt hnew
  ·have h0:=h6 k
   show Rep _ _ _ ((lk F' k).getD .junk) _
   cases hl:lk F' k with
   |none=>exact .junk _
   |some d=>
    rcases hF _ (iZ _ _ _ hl) with⟨rfl,rfl⟩ | ⟨r1,r2⟩
    ·rw[hv0]
     exact .arr (upd_same _ _ _) hcap
    ·dsimp only at r1 r2
     rw[r1] at h0
     exact r2.rep hother h0
end Go.Id
namespace Go.Id
open Go
theorem aG.rows {P:gy}{k:FuncId}{args:List D}{b:Nat}{T:TypeId}{cs cs':List D}{rest:List (Nat × aU)}{val:D}(hlen':cs'.length=cs.length)(hb:oI P.prog k)
  (h:∀(M:Nat→Nat→Prop) (γ:Nat→Option G) (w:World) (vs:List Value) (B cap z:Nat) (us:Array Value),Store (P.base M) γ (lk ((b,.arr T cs)::rest)) w→vs.length=args.length→
   (∀(i:Nat) d v,args[i]?=some d→vs[i]?=some v→Rep (aC (P.base M) γ) γ w d v)→γ b=some (.arr B cap z)→w.heap[B]?=some (.cells us T (0,0))→us.size=cap * z→cs.length≤us.size→
   (∀(i:Nat) v,i<cs.length→us[i]?=some v→v.oneCell'=true∧w.frozen? ⟨B,i,none⟩=false)→(∀(i:Nat) d v,cs[i]?=some d→us[i]?=some v→Rep (aC (P.base M) γ) γ w d v)→
   Calls P.prog k vs.toArray w fun e w'=>∃v us',e= .returned v∧us'.size=us.size∧w'.heap[B]?=some (.cells us' T (0,0))∧(∀k,k<w.heap.size→k≠B→w'.heap[k]?=w.heap[k]?)∧w.heap.size≤w'.heap.size∧(w'.os=w.os∧w'.tape=w.tape∧w'.output=w.output)∧
    (∀(i:Nat) v,i<cs.length→us'[i]?=some v→v.oneCell'=true)∧(∀(i:Nat) d v,cs'[i]?=some d→us'[i]?=some v→Rep (aC (P.base M) γ) γ w d v)∧Rep (aC (P.base M) γ) γ w val v)
  (hT:T<1000000:=by decide):
  aG P k args ((b,.arr T cs)::rest) val ((b,.arr T cs')::rest):=by
 refine⟨hb,fun M γ w vs hst hl hr=>?_⟩
 have hlk:lk ((b,aU.arr T cs)::rest) b=some (.arr T cs):=by simp[lk]
 obtain⟨g,h2,h3⟩:=hst.hit hlk
 cases h3 with
 | @arr e0 _ B cap z us _ fz hB hlen h1 hrr hf=>
  obtain⟨hff,hsz,hcap⟩:=hf
  obtain⟨rfl,rfl⟩:=Dc hff hT
  refine (h M γ w vs B cap z us hst hl hr h2 hB hsz hlen h1 hrr).mono ?_
  rintro e w' ⟨v,us',rfl,hus,hB',hother,hsize,⟨ho1,ho2,ho3⟩,hu1,hu2,hv⟩
  have hM:∀o,aC (P.base M) γ B o:=fun o=> .inr ⟨b,_,h2,rfl⟩
  have hev:aQ (aC (P.base M) γ) γ w (aC (P.base M) γ) γ w':=by
   refine⟨ho1,ho2,ho3,hsize,fun B' o x hn hu=>?_,fun _ _ h _=>h,fun _ g h=>⟨g,h,G.le_refl g⟩,fun B' hlt hn=>hother B' hlt (fun e=>hn b _ h2 (by rw[e];rfl)),fun i gi _ h h' _=>⟨i,gi,h,h'⟩⟩
   have:B'≠B:=fun e=>by subst e;exact hn (hM o)
   rw[World.cell?_of_block (w:=w) (w':=w') (by simpa using hother B' (cell_lt hu) this)];exact hu
  have lW:upd γ b (some (.arr B cap z))=γ:=by funext i;by_cases hi:i=b <;> simp[upd,hi,h2]
  have hσ:upd (lk ((b,aU.arr T cs)::rest)) b (some (.arr T cs'))=lk ((b,aU.arr T cs')::rest):=by
   funext i
   by_cases hi:i=b <;> simp[upd,lk,hi]
  have hst':=hst.change b (.arr T cs') (.arr B cap z) w' (by rw[lW];exact hev) (fun i gi B2 hi hgi yL=>hother B2 (hst.lt hgi yL) (fun e=>hi (hst.dist i b gi _ B2 hgi h2 yL (by rw[e];rfl)))) (fun B' hB'=> .inr ⟨_,h2,hB'⟩) (by
   rw[lW]
   refine .arr us' T (0,0) hB' (by omega) (fun i x hi hx=>⟨hu1 i x (by omega) hx,?_⟩) (fun i d x hd hx=>(hu2 i d x hd hx).bZ hev) ⟨.inl ⟨rfl,rfl⟩,by rw[hus];exact hsz,hcap⟩
   simp[World.frozen?,hB'])
  rw[lW,hσ] at hst'
  exact⟨v,γ,rfl,hst',hev,hv.bZ hev⟩
@[simp] theorem agD {t b off:Nat}:Fr t (.ref b off)↔b≠t:=⟨fun h=>by cases h with|ref h=>exact h,.ref⟩
@[simp] theorem agE {t b sz n:Nat}:Fr t (.arr b sz n)↔b≠t:=⟨fun h=>by cases h with|arr h=>exact h,.arr⟩
@[simp] theorem akq {t sz:Nat}:Fr t (.slice sz true [] none):= .nilslice sz
def BFr (t:Nat):aU→Prop
 | .box _ cs | .arr _ cs=>∀d∈cs,Fr t d
 | .map es _=>∀e∈es,Fr t e.2.1
 | .dS m _ _ _=>m≠t
 | _=>True
theorem BFr.rel {t:Nat}{M M':Nat→Nat→Prop}{γ γ':Nat→Option G}{w:World}(hγ:∀i,i≠t→γ' i=γ i){blk:aU}{g:G}(hb:BFr t blk)(h:cO M γ w blk g):cO M' γ' w blk g:=by
 cases h with
 |box vs e fz hB hl h1 hr=>exact .box vs e fz hB hl h1 (fun i d v hd hv=>(hb d (List.mem_of_getElem? hd)).rep hγ (hr i d v hd hv))
 |arr vs e fz hB hl h1 hr hf=>exact .arr vs e fz hB hl h1 (fun i d v hd hv=>(hb d (List.mem_of_getElem? hd)).rep hγ (hr i d v hd hv)) hf
 |iter hB=>exact .iter hB
 |map en hB hl hk=>exact .map en hB hl (fun i e k d n q1 q2=>let ⟨r1,r2,r3⟩:=hk i e k d n q1 q2;⟨r1,r2,(hb _ (List.mem_of_getElem? q2)).rep hγ r3⟩)
 |dS hB hm=>exact .dS hB ((hγ _ hb).trans hm)
 |dead hB=>exact .dead hB
 |aS xs ho=>exact .aS xs ho
end Go.Id
namespace Go.Id
open Go
def agF (m:Nat→Nat→Prop)(W:World)(d:D)(v:Value):Prop:=
 Rep (fun _ _=>False) (fun _=>none) W d v∧∀cs a,d= .dQ cs→v= .pointer (some a)→∀(j:Nat) x u,cs[j]?=some x→W.cell? ⟨a.block,a.off+j,none⟩=some u→Rep m (fun _=>none) W x u∧cZ (fun _=>False) x
def WL (σ:List (Nat × aU))(d d':D):Prop:=
 (d'=d∧cZ (fun _=>False) d)∨∃b t cs,d= .ref b 0∧lk σ b=some (.box t cs)∧d'= .dQ cs∧∀x∈cs,cZ (fun _=>False) x
theorem Rep.alone {M:Nat→Nat→Prop}{γ:Nat→Option G}{w:World}{d:D}{v:Value}(h:Rep M γ w d v)(hc:cZ (fun _=>False) d):Rep (fun _ _=>False) (fun _=>none) w d v:=
 (h.restrict (γ':=fun _=>none) (S:=fun _=>False) (fun _ h=>h.elim) hc).sub (fun _ _ h=>h.elim)
theorem Rep.drp {M:Nat→Nat→Prop}{γ:Nat→Option G}{w:World}{d:D}{v:Value}(h:Rep M γ w d v)(hc:cZ (fun _=>False) d):Rep M (fun _=>none) w d v:=
 h.restrict (γ':=fun _=>none) (S:=fun _=>False) (fun _ h=>h.elim) hc
theorem WL.rep {M₀:Base}{γ:Nat→Option G}{σ:List (Nat × aU)}{w:World}(h:Store M₀ γ (lk σ) w){d d':D}(hc:WL σ d d'){v:Value}(hr:Rep (aC M₀ γ) γ w d v):agF (aC M₀ γ) w d' v:=by
 rcases hc with⟨rfl,hcl⟩ | ⟨b,t,cs,rfl,hb,rfl,hcl⟩
 ·refine⟨hr.alone hcl,?_⟩
  rintro cs a rfl rfl j x u hx hu
  cases hr with
  |dQ vs hvs hspot hc hr=>
   have hlt:j<vs.length:=by rw[hvs];exact (List.getElem?_eq_some_iff.1 hx).1
   have h1:=List.getElem?_eq_getElem hlt
   have h2:=(hc j _ h1).1
   rw[hu] at h2
   simp only[Option.some.injEq] at h2
   subst h2
   have hcx:cZ (fun _=>False) x:=by
    cases hcl with
    |dQ h=>exact h _ (List.mem_of_getElem? hx)
   exact⟨(hr j x _ hx h1).drp hcx,hcx⟩
 ·obtain⟨g,h1,h2⟩:=h.hit hb
  cases h2 with
  | @box _ B vs _ fz hB hl h3 h4=>
   cases hr with
   |ref hg=>
    rcases hg with hg | ⟨_,_,hg⟩|hg <;> rw[h1] at hg <;> cases hg
    refine⟨.dQ vs.toList (by simpa using hl) rfl (fun j u hu=>?_) (fun j d u hd hu=>?_),?_⟩
    ·have hu':vs[j]?=some u:=by simpa using hu
     refine⟨?_,fun h=>h,(h3 j u hu').1⟩
     simp only[Nat.zero_add]
     rw[cell_of_row w B j vs t _ hB];exact hu'
    ·have hu':vs[j]?=some u:=by simpa using hu
     exact (h4 j d u hd hu').alone (hcl d (List.mem_of_getElem? hd))
    ·rintro cs' a e1 e2 j x u hx hu
     cases e1;cases e2
     simp only[Nat.zero_add] at hu
     rw[cell_of_row w B j vs t _ hB] at hu
     have hcx:=hcl x (List.mem_of_getElem? hx)
     exact⟨(h4 j x u hx hu).drp hcx,hcx⟩
theorem Yn {strict:Prop}{γ:Nat→Option G}{T ds:List Deferred}{w:World}{n L:Nat}{o:Obj}(h:Marks strict T γ ds w n)(hL:∀o',w.heap[L]?=some o'→o'≠ .deferred (some [])):Marks strict T γ ds (w.putObj L o) n:=by
 obtain⟨Ds,h1,h2,h3⟩:=h
 refine⟨Ds,h1,h2,fun D hD=>?_⟩
 obtain⟨q1,q2,q3⟩:=h3 D hD
 exact⟨q1,(World.putObj_heap_other (fun e=>hL _ (e ▸ q2) rfl)).trans q2,q3⟩
structure Dt (P:gy) (E:CW P) (F:Nat→D) (tv:Nat→Value) (Yo:List D) (lb:Array Value) (ds:List Deferred) (L D0:Nat) (γ:Nat→Option G) (T:List (Nat × aU)) (W:World):Prop where
 st:Store E.M γ (lk T) W
 ev:aQ (aC E.M E.γ) E.γ E.w (aC E.M γ) γ W
 fr:∀t,Rep (aC E.M γ) γ W (F t) (tv t)
 cp:∀(i:Nat) d v,Yo[i]?=some d→lb[i]?=some v→Rep (aC E.M γ) γ W d v
 mrk:Marks False E.tail γ ds W E.lo
 un:∀b g,γ b=some g→g.block≠some L∧g.block≠some D0
 dd:W.heap[D0]?=some (.deferred (some []))
section
variable {P:gy} {E:CW P} {F:Nat→D} {tv:Nat→Value} {Yo:List D} {lb:Array Value} {ds:List Deferred} {L D0:Nat} {γ γ2:Nat→Option G} {T T2:List (Nat × aU)} {W W2:World}
theorem Dt.on (h:Dt P E F tv Yo lb ds L D0 γ T W)(h2:Store E.M γ2 (lk T2) W2)(h3:aQ (aC E.M γ) γ W (aC E.M γ2) γ2 W2)(hL:L<W.heap.size):Dt P E F tv Yo lb ds L D0 γ2 T2 W2∧W2.heap[L]?=W.heap[L]?:=by
 have hD:D0<W.heap.size:=(Array.getElem?_eq_some_iff.1 h.dd).1
 refine⟨⟨h2,h.ev.trans h3,fun t=>(h.fr t).bZ h3,fun i d v q1 q2=>(h.cp i d v q1 q2).bZ h3,h.mrk.bZ h3,fun b g hg=>⟨fun hB=>?_,fun hB=>?_⟩,(h3.block D0 hD (fun b g hg=>(h.un b g hg).2)).trans h.dd⟩,h3.block L hL (fun b g hg=>(h.un b g hg).1)⟩
 ·obtain⟨b',g',r1,r2⟩:=h3.old b g L hg hB hL
  exact (h.un b' g' r1).1 r2
 ·obtain⟨b',g',r1,r2⟩:=h3.old b g D0 hg hB hD
  exact (h.un b' g' r1).2 r2
theorem Dt.put (h:Dt P E F tv Yo lb ds L D0 γ T W){r:Loop}(hL:W.heap[L]?=some (.loop r))(h1:E.w.heap.size≤L)(h2:P.n≤L)(hne:L≠D0)(o:Obj):
  Dt P E F tv Yo lb ds L D0 γ T (W.putObj L o)∧∀d v,Rep (aC E.M γ) γ W d v→Rep (aC E.M γ) γ (W.putObj L o) d v:=by
 obtain⟨g1,g2,g3⟩:=L_ (o':=o) h.st h.ev h1 h2 hL rfl (fun b g hg=>(h.un b g hg).1)
 exact⟨⟨g1,g2,fun t=>g3 _ _ (h.fr t),fun i d v q1 q2=>g3 _ _ (h.cp i d v q1 q2),Yn h.mrk (fun o' q=>by rw[hL] at q;cases q;simp),h.un,(World.putObj_heap_other (Ne.symm hne)).trans h.dd⟩,g3⟩
end
end Go.Id
namespace Go.Id
open Go
def oK (W:Nat→Bool)(a a':Act):Prop:=a'.tmps.size=a.tmps.size∧∀t,W t=false→a'.tmps.getD t undef=a.tmps.getD t undef
theorem oK.refl (W:Nat→Bool)(a:Act):oK W a a:=⟨rfl,fun _ _=>rfl⟩
theorem oK.trans {W:Nat→Bool}{a b c:Act}(h:oK W a b)(k:oK W b c):oK W a c:=⟨k.1.trans h.1,fun t ht=>(k.2 t ht).trans (h.2 t ht)⟩
theorem oK.put {W:Nat→Bool}(a:Act)(dst:Option Tmp)(v:Value)(h:∀t,dst=some t→W t=true):oK W a (a.put dst v):=by
 cases dst with
 |none=>exact .refl W a
 |some d=>
  refine⟨by simp[Act.put],fun t ht=>?_⟩
  have:d≠t:=fun e=>by subst e;rw[h d rfl] at ht;cases ht
  simp[Act.put,Array.getD_eq_getD_getElem?,this]
theorem Rk {F:Fence}{n:Nat}{P:Program}{o:Oper}{a:Act}{W:Nat→Bool}(hd:∀t,o.dst=some t→W t=true){next next':Act→World→Prop}{Q Q':Exit→Act→World→Prop}{r:Result Next}
  (hn:∀a' w',oK W a a'→next a' w'→next' a' w') (hq:∀e a' w',e≠ .normal→Q e a' w'→Q' e a' w') (h:o.uponIn F n P a next Q r):o.uponIn F n P a next' Q' r:=by
 have kp:∀v,oK W a (a.put o.dst v):=fun v=> .put a o.dst v hd
 have he:∀(e:Ending) (w'':World),(match e with| .returned v=>next (a.put o.dst v) w'' | .panicked chain=>Q (.panic chain) a w'' | .outgrown=>LetsOut Q)→
   (match e with| .returned v=>next' (a.put o.dst v) w'' | .panicked chain=>Q' (.panic chain) a w'' | .outgrown=>LetsOut Q'):=by
  intro e w'' h
  cases e with
  |returned v=>exact hn _ _ (kp v) h
  |panicked chain=>exact hq _ _ _ (by simp) h
  |outgrown=>obtain⟨a,w,h⟩:=h;exact⟨a,w,hq _ _ _ (by simp) h⟩
 unfold Oper.uponIn at h ⊢
 split at h
 ·exact hn _ _ (kp _) h
 ·exact hn _ _ (kp _) h
 ·rename_i d w'
  refine hn _ _ ?_ h
  cases hdst:o.dst with
  |none=>exact .refl W a
  |some t=>
   have:=kp undef
   rw[hdst] at this
   exact this
 ·exact⟨h.1,h.2.mono fun e w'' h=>by
   have:=he e w'' (by cases e <;> exact h)
   cases e <;> exact this⟩
 ·exact⟨h.1,h.2.mono fun v w'' h=>hn _ _ (kp v) h⟩
 ·exact⟨h.1,h.2.mono fun e w'' h=>by
   have:=he e w'' (by cases e <;> exact h)
   cases e <;> exact this⟩
 ·exact hq _ _ _ (by simp) h
 ·exact h.elim
theorem nG {F:Fence}{n:Nat}{P:Program}{ops:Array Oper}{Q:Exit→Act→World→Prop}(l2:List Nat):∀(l1:List Nat) (a:Act) (w:World),
  wpOpsIn F n P ops (fun e a' w'=>match e with| .normal=>wpOpsIn F n P ops Q l2 a' w'|e=>Q e a' w') l1 a w→wpOpsIn F n P ops Q (l1++l2) a w
 | [],a,w,h=>h
 |i::l,a,w,h=>by
  simp only[List.cons_append,wpOpsIn] at h ⊢
  cases ho:ops[i]? with
  |none=>rw[ho] at h;exact nG l2 l a w h
  |some o=>
   rw[ho] at h
   dsimp only at h ⊢
   split at h
   ·rename_i hw
    rw[if_pos hw]
    exact⟨h.1,Rk (W:=fun _=>true) (fun _ _=>rfl) (fun a' w' _ h=>nG l2 l a' w' h) (fun e a' w' he h=>by cases e <;> first|exact absurd rfl he|exact h) h.2⟩
   ·rename_i hw
    rw[if_neg hw]
    exact⟨h.1,nG l2 l _ w h.2⟩
def adL (os:List Oper)(t:Nat):Bool:=os.any fun o=>o.dst == some t
section
variable {P:gy} {ent:List Nat} {N:Nat} {E:CW P}
theorem Chain.Rl {Fe:Fence}(hF:mJ Fe){nf:Nat}{ops:Array Oper}(hd:dX N ops=true)(Wr:Nat→Bool)(a0:Act)(Q:Exit→Act→World→Prop):∀{os:List Oper} {st st':St} {rs:List bP},Chain P ops os st rs st'→∀(k:Nat) (os2:List Oper),ops.toList.drop k=os++os2→
  (∀o∈os,∀t,o.dst=some t→Wr t=true)→∀(a:Act) (w:World),oK Wr a0 a∧a.defers=a0.defers→Rel E ent N st.get (lk st.σ) a w→(∀a' w',Rel E ent N st'.get (lk st'.σ) a' w'→oK Wr a0 a'∧a'.defers=a0.defers→Q .normal a' w')→wpOpsIn Fe nf P.prog ops Q (List.range' k os.length) a w:=by
 intro os st st' rs h
 induction h with
 |nil st=>intro k os2 hk _ a w hks hr hq;exact hq a w hr hks
 | @ran o os st st' d r rs hw ho hc ih=>
  intro k os2 hk hW a w hks hr hq
  have hko:ops[k]?=some o:=by
   have:(ops.toList.drop k)[0]?=some o:=by rw[hk];rfl
   simpa [List.getElem?_drop] using this
  have hmem:o∈ops:=Array.mem_of_getElem? hko
  simp only[List.length_cons,List.range'_succ,Go.wpOpsIn,hko,pz hr hw,if_true]
  refine ho.wp hF hr (dH hd hmem) _ _ (fun v w' hr'=>ih (k+1) os2 ?_ (fun o ho=>hW o (List.mem_cons_of_mem _ ho)) _ w' ⟨hks.1.trans (oK.put a o.dst v (hW o (by simp))),by rw[put_defers];exact hks.2⟩ ?_ hq)
  ·have:ops.toList.drop (k+1)=(ops.toList.drop k).drop 1:=by rw[List.drop_drop]
   rw[this,hk];rfl
  ·rw[nD,get_put,lay_σ,put_σ];exact hr'
 | @skip o os st st' rs hw hc ih=>
  intro k os2 hk hW a w hks hr hq
  have hko:ops[k]?=some o:=by
   have:(ops.toList.drop k)[0]?=some o:=by rw[hk];rfl
   simpa [List.getElem?_drop] using this
  have hmem:o∈ops:=Array.mem_of_getElem? hko
  simp only[List.length_cons,List.range'_succ,Go.wpOpsIn,hko,pz hr hw,Bool.false_eq_true,if_false]
  refine⟨fun f _=>hF.fn f,ih (k+1) os2 ?_ (fun o ho=>hW o (List.mem_cons_of_mem _ ho)) _ _ ⟨hks.1.trans (oK.put a o.dst undef (hW o (by simp))),by rw[put_defers];exact hks.2⟩ ?_ hq⟩
  ·have:ops.toList.drop (k+1)=(ops.toList.drop k).drop 1:=by rw[List.drop_drop]
   rw[this,hk];rfl
  ·rw[get_put,put_σ];exact hr.skip (dH hd hmem)
theorem uq {Fe:Fence}(hF:mJ Fe){nf:Nat}{a:Act}{w:World}{id:Nat}{ops:Array Oper}(hd:dX N ops=true)(os os2:List Oper)(hos:ops.toList=os++os2){st:St}{Q:St→Prop}{QQ:Exit→Act→World→Prop}
  (h:∀K:St→List bP→Prop,(∀st' rs,Q st'→K st' rs)→ah P ops os st [] K) (hr:Rel E ent N st.get (lk st.σ) a w)
  (hq:∀st' a' w',Q st'→Rel E ent N st'.get (lk st'.σ) a' w'→oK (adL os) a a'∧a'.defers=a.defers→wpOpsIn Fe nf P.prog ops QQ (List.range' os.length os2.length) a' w'):(Code.region id ops false).wpIn Fe nf P.prog QQ a w:=by
 obtain⟨rs,st',hc,hk⟩:=ah.chain _ _ _ _ (h (fun st' _=>Q st') (fun _ _ h=>h))
 refine wpIn_region ?_
 have hsz:ops.size=os.length+os2.length:=by rw[← Array.length_toList,hos,List.length_append]
 have hrg:List.range ops.size=List.range' 0 os.length++List.range' os.length os2.length:=by
  rw[List.range_eq_range',hsz]
  have:=List.range'_append (s:=0) (m:=os.length) (n:=os2.length) (step:=1)
  simpa using this.symm
 rw[hrg]
 refine nG _ _ _ _ ?_
 exact Chain.Rl hF hd (adL os) a _ hc 0 os2 (by simpa using hos) (fun o ho t ht=>List.any_eq_true.2 ⟨o,ho,by simp[ht]⟩) a w ⟨.refl _ _,rfl⟩ hr (fun a' w' hr' hks=>hq st' a' w' hk hr' hks)
theorem Iz {Fe:Fence}(hF:mJ Fe){nf:Nat}{a:Act}{w:World}{ops:Array Oper}(hd:dX N ops=true)(k:Nat)(os:List Oper)(hos:ops.toList.drop k=os){st:St}{Q:St→Prop}{QQ:Exit→Act→World→Prop}
  (h:∀K:St→List bP→Prop,(∀st' rs,Q st'→K st' rs)→ah P ops os st [] K) (hr:Rel E ent N st.get (lk st.σ) a w)
  (hq:∀st' a' w',Q st'→Rel E ent N st'.get (lk st'.σ) a' w'→oK (adL os) a a'∧a'.defers=a.defers→QQ .normal a' w'):wpOpsIn Fe nf P.prog ops QQ (List.range' k os.length) a w:=by
 obtain⟨rs,st',hc,hk⟩:=ah.chain _ _ _ _ (h (fun st' _=>Q st') (fun _ _ h=>h))
 exact Chain.Rl hF hd (adL os) a _ hc k [] (by simpa using hos) (fun o ho t ht=>List.any_eq_true.2 ⟨o,ho,by simp[ht]⟩) a w ⟨.refl _ _,rfl⟩ hr (fun a' w' hr' hks=>hq st' a' w' hk hr' hks)
theorem nS {Fe:Fence}{n:Nat}{Pg:Program}{ops:Array Oper}{Q:Exit→Act→World→Prop}{i:Nat}{is:List Nat}{o:Oper}{a:Act}{W:World}(ho:ops[i]?=some o)(hg:o.guard=none)(h:o.wpIn Fe n Pg a W (fun a' w'=>wpOpsIn Fe n Pg ops Q is a' w') Q):
  wpOpsIn Fe n Pg ops Q (i::is) a W:=by
 rw[wpOpsIn,ho]
 dsimp only
 rw[if_pos (by simp[Region.wanted,hg])]
 exact h
end
end Go.Id
namespace Go.Id
open Go Go.ChangeMaps
def iG (es:List (List UInt8 × D × Nat))(seen:List Nat):List (List UInt8 × D × Nat):=es.filter fun e=>!(seen.contains e.2.2)
section
variable {P:gy} {ent:List Nat} {N:Nat} {Q:Exit→St→Prop} {st:St}
theorem Rel.akX {E:CW P}{F:Nat→D}{σ:Nat→Option aU}{a:Act}{w:World}(h:Rel E ent N F σ a w){dst:Option Tmp}(hd:∀t,dst=some t→t<N){d:D}{v:Value}(hv:∀M γ w,Rep M γ w d v):Rel E ent N (oN F dst d) σ (a.put dst v) w:=by
 obtain⟨γ,h1,h2,h3,h4,h5,h6⟩:=h
 exact⟨γ,h1,h2,h3,by rw[gW];exact h4,by rw[put_defers];exact h5,jR (by rw[h4];exact hd) (hv _ _ _) h6⟩
theorem WP.IB {id:Nat}{ops:Array Oper}{x:Operand}{o:Oper}{os:List Oper}{b m since last clock:Nat}{seen:List Nat}{es:List (List UInt8 × D × Nat)}(hd:dX N ops=true)(hos:ops.toList=o::os)(hop:o.op= .next x false)(hg:o.guard=none)
  (hx:bQ st.get x= .ref b 0) (hb:lk st.σ b=some (.dS m since seen last)) (hm:lk st.σ m=some (.map es clock)) (hold:∀e∈es,e.2.2<since) (hsc:since≤last)
  (h0:iG es seen=[]→∀K:St→List bP→Prop,(∀st' rs,Q .normal st'→K st' rs)→ah P ops os (st.put o.dst (.aJ [.bool false])) [] K)
  (h1:∀e∈iG es seen,∀K:St→List bP→Prop,(∀st' rs,Q .normal st'→K st' rs)→ah P ops os ((st.put o.dst (.aJ [.bool true,.str e.1,e.2.1])).lay [(b,.dS m since (seen++[e.2.2]) clock)]) [] K):
  WP P ent N (.region id ops false) Q st:=by
 intro Fe nf hF E a w hr
 have hko:ops[0]?=some o:=by
  have:ops.toList[0]?=some o:=by rw[hos];rfl
  simpa using this
 have hmem:o∈ops:=Array.mem_of_getElem? hko
 have hsz:ops.size=os.length+1:=by rw[← Array.length_toList,hos];rfl
 refine wpIn_region ?_
 rw[hsz,List.range_eq_range',List.range'_succ,wpOpsIn,hko]
 dsimp only
 rw[if_pos (by simp[Region.wanted,hg])]
 have hdst:=dH hd hmem
 have go:∀(st1:St) (a':Act) (w':World),(∀K:St→List bP→Prop,(∀st' rs,Q .normal st'→K st' rs)→ah P ops os st1 [] K)→Rel E ent N st1.get (lk st1.σ) a' w'→
   wpOpsIn Fe nf P.prog ops (fun e a' w'=>∃st',Q e st'∧Rel E ent N st'.get (lk st'.σ) a' w') (List.range' (0+1) os.length) a' w':=by
  intro st1 a' w' h hr'
  obtain⟨rs,st',hc,hk⟩:=ah.chain _ _ _ _ (h (fun st' _=>Q .normal st') (fun _ _ h=>h))
  exact hc.wpOps hF.1 (nf:=nf) hd _ 1 (by rw[hos];rfl) a' w' hr' (fun a'' w'' aan=>⟨st',hk,aan⟩)
 have hr0:=hr
 obtain⟨γ,q1,q2,q3,q4,q5,q6⟩:=hr
 have hev:=iF q6 x
 rw[hx] at hev
 generalize hv:a.eval x=v at hev
 obtain⟨g,r2,r3⟩:=q2.hit hb
 obtain⟨g',r4,r5⟩:=q2.hit hm
 cases r3 with
 | @dS _ _ _ B Bm _ hB hmB=>
  rw[r4] at hmB;cases hmB
  cases r5 with
  | @map _ _ _ en hBm hl hk=>
   cases hev with
   | @ref _ B' _ hγ=>
    obtain rfl:B'=B:=by
     rcases hγ with hγ | ⟨_,_,hγ⟩|hγ <;> rw[r2] at hγ <;> cases hγ
     rfl
    have hborn:∀e∈en.toList,∃k d n,(k,d,n)∈es∧e.key= .string ⟨k.toArray⟩∧e.born=n∧Rep (aC E.M γ) γ w d e.val:=by
     intro e he
     obtain⟨i,hi,rfl⟩:=List.mem_iff_getElem.1 he
     have hi':i<en.size:=by simpa using hi
     have hi2:i<es.length:=by omega
     obtain⟨p1,p2,p3⟩:=hk i en[i] es[i].1 es[i].2.1 es[i].2.2 (Array.getElem?_eq_getElem hi') (List.getElem?_eq_getElem hi2)
     exact⟨_,_,_,List.getElem_mem hi2,by simpa using p1,by simpa using p2,by simpa using p3⟩
    have hrun:=run_next_at (P:=P.prog) w o.type B' Bm since last seen.toArray en clock hB hBm (fun e he=>by obtain⟨k,d,n,p1,_,p3,_⟩:=hborn e he;rw[p3];exact hold _ p1) hsc
    unfold Oper.wpIn
    refine⟨fun f _=>hF.1.fn f,?_⟩
    rw[Oper.semAt_plain Fe _ _ (by rw[hop];intro c hc';cases hc')]
    rcases hrun with⟨hz,hrun⟩ | ⟨e,he,w1,hw1,hrun⟩
    ·simp[execOp,hop,hv,hrun,Result.andThen]
     refine go _ _ _ (h0 ?_) (by rw[get_put,put_σ];exact hr0.akX hdst (fun _ _ _=> .aJ rfl (fun i d v h1 h2=>by
      match i with
      | 0=>simp at h1 h2;subst h1;subst h2;exact .bool _
      |i+1=>simp at h1)))
     unfold iG
     rw[List.filter_eq_nil_iff]
     intro y hy hs
     obtain⟨i,hi,rfl⟩:=List.mem_iff_getElem.1 hy
     have hi':i<en.size:=by omega
     obtain⟨p1,p2,p3⟩:=hk i en[i] es[i].1 es[i].2.1 es[i].2.2 (Array.getElem?_eq_getElem hi') (List.getElem?_eq_getElem hi)
     have hz':leftOf en seen.toArray=#[]:=Array.eq_empty_of_size_eq_zero hz
     have:en[i]∈leftOf en seen.toArray:=by
      unfold leftOf
      rw[Array.mem_filter]
      exact⟨Array.getElem_mem hi',by rw[p2];simpa using hs⟩
     rw[hz'] at this
     simp at this
    ·simp[execOp,hop,hv,hrun,Result.andThen]
     have he':e∈en.toList∧seen.contains e.born=false:=by
      unfold leftOf at he
      simp only[Array.toList_filter,List.mem_filter] at he
      exact⟨he.1,by simpa using he.2⟩
     obtain⟨k,d,n,p1,p2,p3,p4⟩:=hborn e he'.1
     have aiH:(k,d,n)∈iG es seen:=by
      unfold iG
      rw[List.mem_filter]
      exact⟨p1,by rw[← p3];simpa using he'.2⟩
     have hr1:Rel E ent N st.get (lk st.σ) a w1:=by rcases hw1 with rfl|rfl;exact hr0;exact hr0.drew
     have hh:w1.heap=w.heap:=by rcases hw1 with rfl|rfl <;> rfl
     refine go _ _ _ (h1 (k,d,n) aiH) ?_
     rw[nD,get_put,lay_σ,put_σ]
     have hq1:Store E.M γ (lk st.σ) w1∧aQ (aC E.M γ) γ w (aC E.M γ) γ w1:=by
      have hev:aQ (aC E.M γ) γ w (aC E.M γ) γ w1:=by
       rcases hw1 with rfl|rfl
       ·exact .refl _ _ _
       ·exact⟨rfl,rfl,rfl,Nat.le_refl _,fun _ _ _ _ h=>h,fun _ _ h _=>h,fun _ g h=>⟨g,h,G.le_refl g⟩,fun _ _ _=>rfl,fun b g _ h h' _=>⟨b,g,h,h'⟩⟩
      refine⟨⟨fun b=>?_,q2.dist,fun B off hm=>by rw[hh];exact q2.outer B off hm,q2.apart,E.M.stable _ _ q2.inv (fun _ _=>by rw[hh]),q2.low,by rw[hh];exact q2.big⟩,hev⟩
      rcases q2.names b with⟨blk,g,s1,s2,s3⟩|s
      ·exact .inl ⟨blk,g,s1,s2,s3.keep hev (fun _ _=>by rw[hh])⟩
      ·exact .inr s
     obtain⟨t2,t3⟩:=hq1
     have hB1:w1.heap[B']?=some (.mapIter (some Bm) since seen.toArray last):=by rw[hh];exact hB
     have hlt:B' < w1.heap.size:=(Array.getElem?_eq_some_iff.1 hB1).1
     generalize hw':setBlock w1 B' (.mapIter (some Bm) since (seen++[e.born]).toArray clock)=w'
     have hB':w'.heap[B']?=some (.mapIter (some Bm) since (seen++[n]).toArray clock):=by simp[← hw',setBlock,hlt,p3]
     have hother:∀k,k≠B'→w'.heap[k]?=w1.heap[k]?:=fun k hk=>by simp[← hw',setBlock,Ne.symm hk]
     have hsize:w'.heap.size=w1.heap.size:=by simp[← hw',setBlock]
     have hM:∀o,aC E.M γ B' o:=fun o=> .inr ⟨b,_,r2,rfl⟩
     have hev:aQ (aC E.M γ) γ w1 (aC E.M γ) γ w':=by
      refine⟨by rw[← hw'];rfl,by rw[← hw'];rfl,by rw[← hw'];rfl,by omega,fun B2 o u hn hu=>?_,fun _ _ h _=>h,fun _ g h=>⟨g,h,G.le_refl g⟩,fun B2 _ hn=>hother B2 (fun e=>hn b _ r2 (by rw[e];rfl)),fun i gi _ h h' _=>⟨i,gi,h,h'⟩⟩
      have:B2≠B':=fun e=>by subst e;exact hn (hM o)
      rw[World.cell?_of_block (w:=w1) (w':=w') (by simpa using hother B2 this)];exact hu
     have lW:upd γ b (some (.iter B'))=γ:=by funext i;by_cases hi:i=b <;> simp[upd,hi,r2]
     have hst:=t2.change b (.dS m since (seen++[n]) clock) (.iter B') w' (by rw[lW];exact hev) (fun i gi B2 hi hgi yL=>hother B2 (fun e=>hi (t2.dist i b gi _ B2 hgi r2 yL (by rw[e];rfl)))) (fun B2 hB2=> .inr ⟨_,r2,hB2⟩)
      (.dS hB' (by rw[lW];exact r4))
     rw[lW] at hst
     have hσ:laid (lk st.σ) [(b,aU.dS m since (seen++[n]) clock)]=upd (lk st.σ) b (some (.dS m since (seen++[n]) clock)):=by
      rw[← vJ];rfl
     refine⟨γ,q1,by rw[hσ];exact hst,(q3.trans t3).trans hev,by rw[gW];exact q4,by rw[put_defers];exact (q5.bZ t3).bZ hev,jR (by rw[q4];exact hdst) ?_ (fun t=>((q6 t).bZ t3).bZ hev)⟩
     refine .aJ rfl (fun i d' v' z1 z2=>?_)
     match i with
     | 0=>simp at z1 z2;subst z1;subst z2;exact .bool _
     | 1=>simp at z1 z2;subst z1;subst z2;rw[p2];have:=Rep.str (M:=aC E.M γ) (γ:=γ) (w:=w') ⟨k.toArray⟩;simpa using this
     | 2=>simp at z1 z2;subst z1;subst z2;exact (p4.bZ t3).bZ hev
     |i+3=>simp at z1
theorem WL.box {σ:List (Nat × aU)}(b:Nat)(t:TypeId)(cs:List D)(h:lk σ b=some (.box t cs))(hc:∀x∈cs,cZ (fun _=>False) x):WL σ (.ref b 0) (.dQ cs):= .inr ⟨b,t,cs,rfl,h,rfl,hc⟩
end
end Go.Id
namespace Go.Id
open Go
section
variable {H:Type} {enc:TypeId × Value→H} {P:Program} {w:World} {M:Nat→Nat→Prop} {γ:Nat→Option G} {base:Nat} {spare:Nat→Bool} {held:Bool}
def IC (M:Nat→Nat→Prop)(γ:Nat→Option G)(w:World)(ds:List D)(cs:List Value):Prop:=
 cs.length=ds.length∧∀(i:Nat) d v,ds[i]?=some d→cs[i]?=some v→v.oneCell'=true∧Rep M γ w d v
theorem IC.nil:IC M γ w [] []:=⟨rfl,fun i d v h=>by simp at h⟩
theorem IC.one {d:D}{v:Value}(h:v.oneCell'=true)(h':Rep M γ w d v):IC M γ w [d] [v]:=
 ⟨rfl,fun i d' v' h1 h2=>by
  match i with
  | 0=>simp at h1 h2;subst h1;subst h2;exact⟨h,h'⟩
  |i+1=>simp at h1⟩
theorem IC.append {ds es:List D}{cs bs:List Value}(h:IC M γ w ds cs)(k:IC M γ w es bs):IC M γ w (ds++es) (cs++bs):=by
 refine⟨by simp[h.1,k.1],fun i d v h1 h2=>?_⟩
 by_cases hi:i<ds.length
 ·rw[List.getElem?_append_left hi] at h1
  rw[List.getElem?_append_left (by rw[h.1];exact hi)] at h2
  exact h.2 i d v h1 h2
 ·rw[List.getElem?_append_right (by omega)] at h1
  rw[List.getElem?_append_right (by rw[h.1];omega),h.1] at h2
  exact k.2 _ d v h1 h2
def Rd (enc:TypeId × Value→H)(P:Program)(w:World)(M:Nat→Nat→Prop)(γ:Nat→Option G)(base:Nat)(spare:Nat→Bool)(held:Bool)(t:TypeId)(A:List D→Prop):Prop:=
 ∀n cs x,DataW.trod enc P w base spare held n t cs=some x→∃ds,A ds∧IC M γ w ds cs
theorem Rd.mono {t:TypeId}{A B:List D→Prop}(h:Rd enc P w M γ base spare held t A)(hAB:∀ds,A ds→B ds):Rd enc P w M γ base spare held t B:=
 fun n cs x hx=>let ⟨ds,ha,hc⟩:=h n cs x hx;⟨ds,hAB ds ha,hc⟩
theorem agG {t:TypeId}{k:IntKind}(ht:P.underlying t=some (.int k)):Rd enc P w M γ base spare held t (fun ds=>∃n,ds=[.int k n]∧(Lit.int k n).wf=true):=by
 intro n cs x h
 obtain⟨b,rfl,_,hw⟩:=DataW.trod_int ht h
 exact⟨_,⟨b,rfl,hw⟩,.one rfl (.int k b)⟩
theorem agH {t:TypeId}(ht:P.underlying t=some .string):Rd enc P w M γ base spare held t (fun ds=>∃s,ds=[.str s]∧s.length≤maxLen):=by
 intro n cs x h
 obtain⟨b,rfl,_,hw⟩:=DataW.trod_string ht h
 exact⟨_,⟨_,rfl,by simpa using hw⟩,.one rfl (.str b)⟩
theorem cell_spot {a:Addr}{i:Nat}{v:Value}{w:World}(h:w.cell? (a.add i)=some v):(a.add i).spot=none:=by
 cases hsp:(a.add i).spot with
 |none=>rfl
 |some s=>
  simp only[World.cell?] at h
  split at h
  ·simp[hsp] at h
  ·cases h
theorem add_eq {a:Addr}{i:Nat}(h:(a.add i).spot=none):a.add i=⟨a.block,a.off+i,none⟩:=by
 unfold Addr.add at h ⊢
 split
 ·rename_i h0
  subst h0
  rw[if_pos rfl] at h
  cases a
  simp_all
 ·rfl
theorem U4 {a:Addr}{n:Nat}{cs:List Value}(h:w.cells? base a n=some cs):cs.length=n∧∀(j:Nat) v,cs[j]?=some v→w.cell? ⟨a.block,a.off+j,none⟩=some v:=by
 unfold World.cells? at h
 split at h
 ·have hl:cs.length=n:=by simpa using mapM_some_length h
  refine⟨hl,fun j v hv=>?_⟩
  have hj:j<n:=by rw[← hl];exact (List.getElem?_eq_some_iff.1 hv).1
  have e:w.cell? (a.add j)=some v:=by
   rw[mapM_some_get h j j (List.getElem?_range hj),hv]
  rw[add_eq (cell_spot e)] at e
  exact e
 ·cases h
theorem IE {t e:TypeId}{A:List D→Prop}(ht:P.underlying t=some (.slice e))(hp:0<P.cellsOf e)(hM:∀B off,¬M B off)(he:Rd enc P w M γ base spare held e A):
  Rd enc P w M γ base spare held t (fun ds=>∃nl es,ds=[.slice (P.cellsOf e) nl es none]∧(nl=true→es=[])∧es.length≤maxLen∧∀x∈es,A x):=by
 intro n cs x h
 rcases DataW.trod_slice ht h with⟨rfl,_⟩ | ⟨a,len,cap,elems,rest,m,_,rfl,_,hb,hl,hm,hlen,hel,_,_⟩
 ·exact⟨_,⟨true,[],rfl,fun _=>rfl,Nat.zero_le _,by simp⟩,.one rfl (.nilslice (iK.none _ _ _))⟩
 ·have each:∀k,k≤len→∃(es:List (List D)) (vs:List Value),es.length=k∧(∀x∈es,A x∧x.length=P.cellsOf e)∧vs.length=k * P.cellsOf e∧
    (∀(j:Nat) v,vs[j]?=some v→w.cell? ⟨a.block,a.off+j,none⟩=some v∧v.oneCell'=true)∧
    ∀(i j:Nat) x d v,es[i]?=some x→x[j]?=some d→vs[i * P.cellsOf e+j]?=some v→Rep M γ w d v:=by
   intro k
   induction k with
   |zero=>intro _;exact⟨[],[],rfl,by simp,by simp,by simp,by simp⟩
   |succ k ih=>
    intro hk
    obtain⟨es,vs,h1,h2,h3,h4,h5⟩:=ih (by omega)
    have hx:∃y,elems[k]?=some y:=⟨elems[k],List.getElem?_eq_getElem (by omega)⟩
    obtain⟨y,hy⟩:=hx
    have hk':=hel k (by omega)
    rw[hy,Option.bind_eq_some_iff] at hk'
    obtain⟨cs,hcs,htr⟩:=hk'
    obtain⟨ds,hA,hc,hr⟩:=he m cs y htr
    obtain⟨hcl,hcc⟩:=U4 hcs
    have hdl:ds.length=P.cellsOf e:=hc.symm.trans hcl
    have hadd:0<cs.length→a.add (k * P.cellsOf e)=⟨a.block,a.off+k * P.cellsOf e,none⟩:=by
     intro h0
     refine add_eq ?_
     have hg:=hcs
     unfold World.cells? at hg
     split at hg
     ·have:=mapM_some_get hg 0 0 (List.getElem?_range hp)
      rw[List.getElem?_eq_getElem h0] at this
      have h7:=cell_spot this
      have h8:(a.add (k * P.cellsOf e)).add 0=a.add (k * P.cellsOf e):=by simp[Addr.add]
      rw[h8] at h7
      exact h7
     ·cases hg
    have hA':=hadd (by omega)
    rw[hA'] at hcc
    refine⟨es++[ds],vs++cs,by simp[h1],?_,by rw[List.length_append,h3,hcl,Nat.add_mul,Nat.one_mul],?_,?_⟩
    ·intro x hx
     rcases List.mem_append.1 hx with hx|hx
     ·exact h2 x hx
     ·rw[List.mem_singleton.1 hx];exact⟨hA,hdl⟩
    ·intro j v hv
     by_cases hj:j<vs.length
     ·rw[List.getElem?_append_left hj] at hv
      exact h4 j v hv
     ·rw[List.getElem?_append_right (by omega)] at hv
      have hj2:j - vs.length<cs.length:=(List.getElem?_eq_some_iff.1 hv).1
      have h9:=hcc _ _ hv
      have e9:a.off+k * P.cellsOf e+(j - vs.length)=a.off+j:=by omega
      rw[e9] at h9
      exact⟨h9,(hr (j - vs.length) ds[j - vs.length] v (List.getElem?_eq_getElem (by omega)) hv).1⟩
    ·intro i j x d v hi hj hv
     by_cases hik:i<k
     ·rw[List.getElem?_append_left (by omega)] at hi
      have hxl:=(h2 x (List.mem_of_getElem? hi)).2
      have hjl:j<x.length:=(List.getElem?_eq_some_iff.1 hj).1
      have:i * P.cellsOf e+j<vs.length:=by
       rw[h3]
       calc i * P.cellsOf e+j<i * P.cellsOf e+P.cellsOf e:=by omega
        _=(i+1) * P.cellsOf e:=by rw[Nat.add_mul,Nat.one_mul]
        _≤k * P.cellsOf e:=Nat.mul_le_mul_right _ hik
      rw[List.getElem?_append_left this] at hv
      exact h5 i j x d v hi hj hv
     ·rw[List.getElem?_append_right (by omega)] at hi
      have hi0:i - es.length=0:=by
       have:=(List.getElem?_eq_some_iff.1 hi).1
       simp at this
       omega
      rw[hi0] at hi
      simp at hi
      subst hi
      have akY:i=k:=by omega
      subst akY
      rw[List.getElem?_append_right (by omega)] at hv
      have:i * P.cellsOf e+j - vs.length=j:=by omega
      rw[this] at hv
      exact (hr j d v hj hv).2
  obtain⟨es,vs,h1,h2,h3,h4,h5⟩:=each len (Nat.le_refl _)
  have hspot:0<len→a.spot=none:=by
   intro h0
   have hx:∃y,elems[0]?=some y:=⟨elems[0],List.getElem?_eq_getElem (by omega)⟩
   obtain⟨y,hy⟩:=hx
   have hk':=hel 0 h0
   rw[hy,Option.bind_eq_some_iff] at hk'
   obtain⟨cs,hcs,_⟩:=hk'
   unfold World.cells? at hcs
   split at hcs
   ·have:=mapM_some_get hcs 0 0 (List.getElem?_range hp)
    have h0':0<cs.length:=by
     have:cs.length=P.cellsOf e:=by simpa using mapM_some_length hcs
     omega
    rw[List.getElem?_eq_getElem h0'] at this
    have h7:=cell_spot this
    simpa [Addr.add] using h7
   ·cases hcs
  subst h1
  have key:=@Rep.slice M γ w (P.cellsOf e) es none a cap vs (fun x hx=>(h2 x hx).2) h3 (fun h0=>hspot (List.length_pos_iff.2 h0)) (fun j v hv=>⟨(h4 j v hv).1,hM _ _,(h4 j v hv).2⟩) h5 hl (iK.none _ _ _)
  exact⟨_,⟨false,es,rfl,nofun,Nat.le_trans hl hm,fun x hx=>(h2 x hx).1⟩,.one rfl key⟩
def agI:List (List D→Prop)→List D→Prop
 | [],ds=>ds=[]
 |A::As,ds=>∃d e,A d∧agI As e∧ds=d++e
def FOk (enc:TypeId × Value→H)(P:Program)(w:World)(M:Nat→Nat→Prop)(γ:Nat→Option G)(base:Nat)(spare:Nat→Bool)(held:Bool):List Field→List (List D→Prop)→Nat→Nat→Prop
 | [],[],off,n=>off=n
 |f::fs,A::As,off,n=>f.offset=off∧Rd enc P w M γ base spare held f.type A∧FOk enc P w M γ base spare held fs As (off+P.cellsOf f.type) n
 | _,_,_,_=>False
theorem MC {m n:Nat}{cs:List Value}(hcs:cs.length=n):∀(fs:List Field) (As:List (List D→Prop)) (off:Nat) (xs:List (DataW H × List MemPlace)),FOk enc P w M γ base spare held fs As off n→
  (∀(i:Nat) (f:Field),fs[i]?=some f→DataW.trod enc P w base spare held m f.type ((cs.drop f.offset).take (P.cellsOf f.type))=xs[i]?)→xs.length=fs.length→∃ds,agI As ds∧IC M γ w ds (cs.drop off)
 | [],[],off,xs,h,_,_=>by
  have h:off=n:=h
  rw[List.drop_eq_nil_of_le (by omega)]
  exact⟨[],rfl,.nil⟩
 |f::fs,A::As,off,[],h,_,hl=>by simp at hl
 |f::fs,A::As,off,x::xs,h,hx,hl=>by
  obtain⟨h1,h2,h3⟩:=h
  have h4:=hx 0 f rfl
  rw[h1] at h4
  obtain⟨d,hA,hc⟩:=h2 m _ x h4
  obtain⟨e,hE,he⟩:=MC hcs fs As (off+P.cellsOf f.type) xs h3 (fun i g hg=>hx (i+1) g hg) (by simpa using hl)
  refine⟨d++e,⟨d,e,hA,hE,rfl⟩,?_⟩
  have:=hc.append he
  rwa [← List.drop_drop,List.take_append_drop] at this
theorem xR {t:TypeId}{fs:Array Field}{As:List (List D→Prop)}(ht:P.underlying t=some (.struct fs))(hf:FOk enc P w M γ base spare held fs.toList As 0 (P.cellsOf t)):
  Rd enc P w M γ base spare held t (agI As):=by
 intro n cs x h
 obtain⟨xs,m,_,_,hl,hxl,hx⟩:=DataW.trod_struct ht h
 obtain⟨ds,h1,h2⟩:=MC hl fs.toList As 0 xs hf (fun i f hf=>hx i f (by simpa using hf)) (by simpa using hxl)
 exact⟨ds,h1,by simpa using h2⟩
theorem xU {α:Type}{f:α→List D}{g:α→Prop}:∀(es:List (List D)),(∀e∈es,∃a,g a∧e=f a)→∃l:List α,es=l.map f∧∀a∈l,g a
 | [],_=>⟨[],rfl,by simp⟩
 |e::es,h=>by
  obtain⟨a,ha,rfl⟩:=h e (by simp)
  obtain⟨l,rfl,hl⟩:=xU es fun e he=>h e (by simp[he])
  exact⟨a::l,rfl,fun b hb=>(List.mem_cons.1 hb).elim (fun e=>e ▸ ha) (hl b)⟩
theorem agJ {t:TypeId}{A:List D→Prop}{v:Value}{d:DataW H}{ps:List MemPlace}(hr:Rd enc P w M γ base spare held t A)(h:DataW.Trod enc P w base spare held t v d ps)(hv:∀cs,v≠ .agg cs){D':D→Prop}(hA:∀ds,A ds→∃e,ds=[e]∧D' e):
  ∃e,D' e∧Rep M γ w e v:=by
 obtain⟨n,hn⟩:=h
 obtain⟨ds,h1,h2⟩:=hr _ _ _ hn
 obtain⟨e,rfl,h3⟩:=hA ds h1
 have:v.cells.toList=[v]:=by
  cases v with
  |agg cs=>exact absurd rfl (hv cs)
  | _=>rfl
 rw[this] at h2
 exact⟨e,h3,(h2.2 0 e v rfl rfl).2⟩
theorem agK {t:TypeId}{A:List D→Prop}{cs:Array Value}{d:DataW H}{ps:List MemPlace}(hr:Rd enc P w M γ base spare held t A)(h:DataW.Trod enc P w base spare held t (.agg cs) d ps):
  ∃ds,A ds∧Rep M γ w (.agg ds) (.agg cs):=by
 obtain⟨n,hn⟩:=h
 obtain⟨ds,h1,h2⟩:=hr _ _ _ hn
 have h2:IC M γ w ds cs.toList:=h2
 exact⟨ds,h1,.agg (by simpa using h2.1) (fun i v hv=>by
  have hi:i<ds.length:=by rw[← h2.1];simpa using (Array.getElem?_eq_some_iff.1 hv).1
  exact (h2.2 i _ v (List.getElem?_eq_getElem hi) (by simpa using hv)).1) (fun i d v hd hv=>(h2.2 i d v hd (by simpa using hv)).2)⟩
end
section
variable {H:Type} {enc:TypeId × Value→H} {P:Program}
theorem Pm {W W':World}{T:TypeId→Prop}(K:Kids P T)(hz:∀t e,T t→P.underlying t=some (.slice e)→0<P.cellsOf e)(hb:Go.RowKit.Below W.heap.size W W'):
  ∀{ts:List TypeId} {vs:List Value} {ds:List (DataW H)} {ps:List MemPlace},(∀t∈ts,T t)→DataW.TrodAll enc P W 0 (fun _=>true) true ts vs ds ps→(∀p∈ps,p.block<W.heap.size)→∀sp:Nat→Bool,(∀x∈ps,sp x.block=true)→DataW.TrodAll enc P W' 0 sp true ts vs ds ps:=by
 intro ts vs ds ps hT h hl sp hs
 have h':DataW.TrodAll enc P W' 0 (fun _=>true) true ts vs ds ps:=by
  clear hs hT
  induction ts generalizing vs ds ps with
  |nil=>
   match vs,ds,h with
   | [],[],h=>exact h
  |cons t ts ih=>
   match vs,ds,h with
   |v::vs,d::ds,⟨p,q,⟨n,hn⟩,h2,e⟩=>
    subst e
    exact⟨p,q,⟨n,DataW.trod_carry n _ _ _ hn fun x hx=>hb.same (hl x (List.mem_append_left _ hx))⟩,ih h2 (fun x hx=>hl x (List.mem_append_right _ hx)),rfl⟩
 exact h'.respare K hz hT hs
end
end Go.Id
namespace Go.Id
open Go
inductive Sh (t:Nat):D→Prop
 |junk:Sh t .junk
 |bool (b:Bool):Sh t (.bool b)
 |int (k:IntKind) (n:Int):Sh t (.int k n)
 |str (s:List UInt8):Sh t (.str s)
 |slice {sz:Nat} {nil:Bool} {es:List (List D)} {aS:Option Nat} (h:∀e∈es,∀d∈e,Sh t d) (h0:∀e,es[0]?=some e→∃s,e[0]?=some (.str s)) (ht:aS≠some t):Sh t (.slice sz nil es aS)
 |arr {b sz n:Nat} (h:b≠t):Sh t (.arr b sz n)
 |view {b off sz n:Nat} (h:b≠t):Sh t (.view b off sz n)
 |ref {b off:Nat} (h:b≠t):Sh t (.ref b off)
 |aP:Sh t .aP
 |fn {f:Fn} {a b:List D} (h:∀d∈a,Sh t d) (h':∀d∈b,Sh t d):Sh t (.fn f a b)
 |dD:Sh t .dD
 |agg {cs:List D} (h:∀d∈cs,Sh t d):Sh t (.agg cs)
 |aJ {cs:List D} (h:∀d∈cs,Sh t d):Sh t (.aJ cs)
 |aI:Sh t .aI
 |val (v:Value):Sh t (.val v)
 |bG:Sh t .bG
 |map {b:Nat} (h:b≠t):Sh t (.map b)
section
variable {t:Nat}
theorem Sh.rep {M M':Nat→Nat→Prop}{γ γ':Nat→Option G}{w:World}{B:Nat}(hγ:∀i,i≠t→γ' i=γ i)(hM:∀B' off,M' B' off→M B' off∨B'=B)(hB:∀off s,w.cell? ⟨B,off,none⟩=some (.string s)→M B off){d:D}(hd:Sh t d){v:Value}(h:Rep M γ w d v):Rep M' γ' w d v:=by
 induction h with
 |junk v=>exact .junk v
 |bool b=>exact .bool b
 |int k n=>exact .int k n
 |str s=>exact .str s
 | @nilslice sz aS ht=>
  cases hd with
  |slice h h0 hn=>
   refine .nilslice fun t' e=>?_
   have:t'≠t:=fun q=>hn (by rw[e,q])
   rw[hγ _ this];exact ht t' e
 | @slice sz es aS a cap vs hsz hvs hspot hc hr hcap ht ih=>
  cases hd with
  |slice h h0 hn=>
   have hne:∀(j:Nat) (v:Value),vs[j]?=some v→a.block≠B:=by
    intro j v hj e
    have hj':=(List.getElem?_eq_some_iff.1 hj).1
    cases es with
    | nil => have h00:vs.length=0:=by rw[hvs];simp
             omega
    |cons x es=>
     obtain⟨s,hs⟩:=h0 x rfl
     have hl:=hsz x (by simp)
     have hx0:0<x.length:=(List.getElem?_eq_some_iff.1 hs).1
     have h0':0<vs.length:=by omega
     have hv0:=List.getElem?_eq_getElem h0'
     have hr0:=hr 0 0 x _ vs[0] rfl hs (by simpa using hv0)
     obtain⟨q1,q2,_⟩:=hc 0 _ hv0
     generalize vs[0]=u at hr0 q1
     cases hr0 with
     |str s'=>rw[e] at q1 q2;exact q2 (hB _ _ q1)
   refine .slice vs hsz hvs hspot (fun j v hj=>?_) (fun i j e d v q1 q2 q3=>ih i j e d v q1 q2 q3 (h e (List.mem_of_getElem? q1) d (List.mem_of_getElem? q2))) hcap (fun t' e=>?_)
   ·obtain⟨q1,q2,q3⟩:=hc j v hj
    exact⟨q1,fun q=>(hM _ _ q).elim q2 (hne j v hj),q3⟩
   ·have:t'≠t:=fun q=>hn (by rw[e,q])
    rw[hγ _ this];exact ht t' e
 |arr hb hn=>cases hd with|arr h=>exact .arr ((hγ _ h).trans hb) hn
 |view hb ha hn=>cases hd with|view h=>exact .view ((hγ _ h).trans hb) ha hn
 |ref hb=>
  cases hd with
  |ref h=>
   refine .ref ?_
   rw[hγ _ h]
   exact hb
 |dQ=>cases hd
 |aP=>exact .aP
 |fn hf hk _ _ ih1 ih2=>
  cases hd with
  |fn h h'=>exact .fn hf hk (fun i d v a b=>ih1 i d v a b (h d (List.mem_of_getElem? a))) (fun i d v a b=>ih2 i d v a b (h' d (List.mem_of_getElem? a)))
 |dD=>exact .dD
 |agg hl h1 _ ih=>cases hd with|agg h=>exact .agg hl h1 (fun i d v a b=>ih i d v a b (h d (List.mem_of_getElem? a)))
 |aJ hl _ ih=>cases hd with|aJ h=>exact .aJ hl (fun i d v a b=>ih i d v a b (h d (List.mem_of_getElem? a)))
 |iface _ ih=>cases hd
 |aI=>exact .aI
 |val v=>exact .val v
 |bG=>exact .bG
 |map hb=>cases hd with|map h=>exact .map ((hγ _ h).trans hb)
end
def NS:D→Prop
 | .int _ _ | .bool _ | .slice _ _ _ _=>True
 | _=>False
theorem NS.not {M:Nat→Nat→Prop}{γ:Nat→Option G}{w:World}{d:D}{s:ByteArray}(h:NS d)(hr:Rep M γ w d (.string s)):False:=by
 cases hr <;> exact h
def TpD (t sz:Nat)(es:List (List D))(d d':D):Prop:=(d'=d∧Sh t d)∨(d= .slice sz false es (some t)∧d'= .arr t sz es.length)
def TpL (t sz:Nat)(es:List (List D)):List D→List D→Prop
 | [],[]=>True
 |d::l,d'::l'=>TpD t sz es d d'∧TpL t sz es l l'
 | _,_=>False
def BSh (t:Nat):aU→Prop
 | .box _ cs | .arr _ cs=>∀d∈cs,Sh t d
 | .map es _=>∀e∈es,Sh t e.2.1
 | .dS m _ _ _=>m≠t
 | _=>True
theorem TpL.at {t sz:Nat}{es:List (List D)}:∀{l l':List D},TpL t sz es l l'→l'.length=l.length∧∀(i:Nat) d',l'[i]?=some d'→∃d,l[i]?=some d∧TpD t sz es d d'
 | [],[],_=>⟨rfl,fun i d h=>by simp at h⟩
 |d::l,d'::l',h=>by
  obtain⟨h1,h2⟩:=TpL.at h.2
  refine⟨by simp[h1],fun i x hx=>?_⟩
  cases i with
  |zero=>simp at hx;subst hx;exact⟨d,rfl,h.1⟩
  |succ i=>simp at hx;simpa using h2 i x hx
 | [],_::_,h=>h.elim
 | _::_,[],h=>h.elim
theorem BSh.rel {t:Nat}{M M':Nat→Nat→Prop}{γ γ':Nat→Option G}{w:World}{B:Nat}(hγ:∀i,i≠t→γ' i=γ i)(hM:∀B' off,M' B' off→M B' off∨B'=B)(hB:∀off s,w.cell? ⟨B,off,none⟩=some (.string s)→M B off){blk:aU}{g:G}(hb:BSh t blk)(h:cO M γ w blk g):cO M' γ' w blk g:=by
 cases h with
 |box vs e fz hB' hl h1 hr=>exact .box vs e fz hB' hl h1 (fun i d v hd hv=>(hb d (List.mem_of_getElem? hd)).rep hγ hM hB (hr i d v hd hv))
 |arr vs e fz hB' hl h1 hr hf=>exact .arr vs e fz hB' hl h1 (fun i d v hd hv=>(hb d (List.mem_of_getElem? hd)).rep hγ hM hB (hr i d v hd hv)) hf
 |iter hB'=>exact .iter hB'
 |map en hB' hl hk=>exact .map en hB' hl (fun i e k d n q1 q2=>let ⟨r1,r2,r3⟩:=hk i e k d n q1 q2;⟨r1,r2,(hb _ (List.mem_of_getElem? q2)).rep hγ hM hB r3⟩)
 |dS hB' hm=>exact .dS hB' ((hγ _ hb).trans hm)
 |dead hB'=>exact .dead hB'
 |aS xs ho=>exact .aS xs ho
end Go.Id
namespace Go.Id
open Go
theorem Weak.qg {ent:List Nat}{st st':St}(hF:∀p∈st'.F,Le (st.get p.1) p.2)(hσ:∀b,lk st'.σ b=lk st.σ b):Weak ent st st':=by
 rintro P E N a w ⟨γ,h1,h2,h3,h4,h5,h6⟩
 have e:lk st'.σ=lk st.σ:=funext hσ
 exact⟨γ,h1,by rw[e];exact h2,h3,h4,h5,fun t=>Ir hF t _ _ _ _ (h6 t)⟩
theorem Weak.blk {ent:List Nat}{st:St}{σ':List (Nat × aU)}(b:Nat)(x x':aU)(hb:lk st.σ b=some x)(hσb:lk σ' b=some x')(hσ:∀i,i≠b→lk σ' i=lk st.σ i)(h:∀M γ w g,cO M γ w x g→cO M γ w x' g):Weak ent st ⟨st.F,σ'⟩:=by
 rintro P E N a w ⟨γ,h1,h2,h3,h4,h5,h6⟩
 refine⟨γ,h1,⟨fun i=>?_,h2.dist,h2.outer,h2.apart,h2.inv,h2.low,h2.big⟩,h3,h4,h5,h6⟩
 by_cases hi:i=b
 ·subst hi
  obtain⟨g,q1,q2⟩:=h2.hit hb
  exact .inl ⟨x',g,hσb,q1,h _ _ _ _ q2⟩
 ·show (∃blk g,lk σ' i=some blk∧_)∨(lk σ' i=none∧_)
  rw[hσ i hi]
  exact h2.names i
theorem UF.refl (t sz:Nat):∀l:List D,UF t sz l l
 | []=>trivial
 | _::l=>⟨.inl rfl,UF.refl t sz l⟩
theorem Rj.refl (t sz:Nat)(x:aU):Rj t sz x x:=by
 cases x with
 |box T cs=>exact⟨rfl,.refl t sz cs⟩
 |arr T cs=>exact⟨rfl,.refl t sz cs⟩
 | _=>exact rfl
theorem Dq.refl (t sz:Nat):∀l:List (Nat × aU),Dq t sz l l
 | []=>trivial
 |p::l=>⟨rfl,.refl t sz p.2,Dq.refl t sz l⟩
theorem Ac.refl (t sz:Nat):∀l:List (Nat × D),Ac t sz l l
 | []=>trivial
 |p::l=>⟨rfl,.inl rfl,Ac.refl t sz l⟩
def FzD (b sz:Nat)(es:List (List D))(d d':D):Prop:=(d'=d∧cZ (fun i=>i≠b) d)∨(d= .arr b sz es.length∧d'= .slice sz false es none)
def FzL (b sz:Nat)(es:List (List D)):List D→List D→Prop
 | [],[]=>True
 |d::l,d'::l'=>FzD b sz es d d'∧FzL b sz es l l'
 | _,_=>False
def FzB (b sz:Nat)(es:List (List D)):aU→aU→Prop
 | .box T cs,.box T' cs'=>T'=T∧FzL b sz es cs cs'
 |x,x'=>x'=x∧aA (fun i=>i≠b) x
theorem FzL.at {b sz:Nat}{es:List (List D)}:∀{l l':List D},FzL b sz es l l'→l'.length=l.length∧∀(i:Nat) d',l'[i]?=some d'→∃d,l[i]?=some d∧FzD b sz es d d'
 | [],[],_=>⟨rfl,fun i d h=>by simp at h⟩
 |d::l,d'::l',h=>by
  obtain⟨h1,h2⟩:=FzL.at h.2
  refine⟨by simp[h1],fun i x hx=>?_⟩
  cases i with
  |zero=>simp at hx;subst hx;exact⟨d,rfl,h.1⟩
  |succ i=>simp at hx;simpa using h2 i x hx
 | [],_::_,h=>h.elim
 | _::_,[],h=>h.elim
theorem Weak.freeze {st st':St}(b:Nat)(e:TypeId)(sz:Nat)(es:List (List D))(hb:lk st.σ b=some (.arr e es.flatten))(hsz:∀x∈es,x.length=sz)(h0:0<sz)(hσb:lk st'.σ b=none)(hec:∀x∈es,∀d∈x,cZ (fun i=>i≠b) d)
  (hF:∀p∈st'.F,FzD b sz es (st.get p.1) p.2) (hσ:∀i,i≠b→(lk st.σ i=none∧lk st'.σ i=none)∨∃x x',lk st.σ i=some x∧lk st'.σ i=some x'∧FzB b sz es x x'):Weak [] st st':=by
 rintro P E N a w ⟨γ,h1,h2,h3,h4,h5,h6⟩
 have hent:∀b,E.γ b=none:=fun b=>by
  cases h:E.γ b with
  |none=>rfl
  |some g=>exact absurd (h1 b g h) (by simp)
 obtain⟨g,q1,q2⟩:=h2.hit hb
 have uX:=kJ es hsz
 cases q2 with
 | @arr _ _ B cap z vs _ fz hB hl hh hr hf=>
  obtain⟨_,hf2,hf3⟩:=hf
  let γ':Nat→Option G:=fun i=>if i=b then none else γ i
  have hγ':∀i g,γ' i=some g→i≠b∧γ i=some g:=by
   intro i g hg
   simp only[γ'] at hg
   split at hg
   ·cases hg
   ·exact⟨by assumption,hg⟩
  have hS:∀i,i≠b→γ' i=γ i:=fun i hi=>by simp[γ',hi]
  have hM:∀B off,aC E.M γ' B off→aC E.M γ B off:=by
   rintro B off (hm | ⟨i,g,hg,hw⟩)
   ·exact .inl hm
   ·exact .inr ⟨i,g,(hγ' i g hg).2,hw⟩
  have hMB:∀off,¬aC E.M γ' B off:=by
   rintro off (hm | ⟨i,g,hg,hw⟩)
   ·exact h2.apart b _ B off q1 rfl hm
   ·obtain⟨r1,r2⟩:=hγ' i g hg
    exact r1 (h2.dist i b g _ B r2 q1 (G.jQ hw) rfl)
  have keep:∀d v,Rep (aC E.M γ) γ w d v→cZ (fun i=>i≠b) d→Rep (aC E.M γ') γ' w d v:=fun d v hr hc=>(hr.restrict hS hc).sub hM
  have turn:∀d d' v,FzD b sz es d d'→Rep (aC E.M γ) γ w d v→Rep (aC E.M γ') γ' w d' v:=by
   rintro d d' v (⟨rfl,hc⟩ | ⟨rfl,rfl⟩) hrv
   ·exact keep _ _ hrv hc
   ·cases hrv with
    | @arr _ B2 _ _ cap2 hg hn=>
     rw[q1] at hg;cases hg
     have hle:es.length * sz≤vs.size:=by omega
     have htl:(vs.toList.take (es.length * sz)).length=es.length * sz:=by rw[List.length_take];exact Nat.min_eq_left (by simpa using hle)
     refine Ad hB hsz (vs.toList.take (es.length * sz)) htl rfl (fun u hu=>?_) (fun off _=>hMB off) (fun i j x d u r1 r2 r3=>?_) hn (iK.none _ _ _)
     ·obtain⟨i,hi,rfl⟩:=List.mem_iff_getElem.1 hu
      rw[List.getElem_take]
      exact (hh i _ (by omega) (by rw[← Array.getElem?_toList];exact List.getElem?_eq_getElem (by simp at hi ⊢;omega))).1
     ·have hd:=flat_get es hsz i j x d r1 r2
      have hu:vs[i * sz+j]?=some u:=by
       rw[List.getElem?_take] at r3
       split at r3
       ·simpa using r3
       ·cases r3
      exact keep _ _ (hr _ d u hd hu) (hec x (List.mem_of_getElem? r1) d (List.mem_of_getElem? r2))
  refine⟨γ',fun i g hg=>(by rw[hent] at hg;cases hg),⟨fun i=>?_,fun i i' g g' B' a1 a2 a3 a4=>h2.dist i i' g g' B' (hγ' _ _ a1).2 (hγ' _ _ a2).2 a3 a4,h2.outer,fun i g B' off a1 a2=>h2.apart i g B' off (hγ' _ _ a1).2 a2,h2.inv,fun i g B' a1 a2=>h2.low i g B' (hγ' _ _ a1).2 a2,h2.big⟩,?_,h4,h5.sub (fun i g hg=>(hγ' i g hg).2),fun k=>?_⟩
  ·by_cases hi:i=b
   ·subst hi;exact .inr ⟨hσb,by simp[γ']⟩
   ·rw[hS i hi]
    rcases hσ i hi with⟨a1,a2⟩ | ⟨x,x',a1,a2,a3⟩
    ·exact .inr ⟨a2,h2.miss a1⟩
    ·obtain⟨gi,c1,c2⟩:=h2.hit a1
     refine .inl ⟨x',gi,a2,c1,?_⟩
     have gen:x'=x∧aA (fun i=>i≠b) x→cO (aC E.M γ') γ' w x' gi:=by
      rintro ⟨rfl,h⟩
      exact (c2.restrict hS h).Lc ⟨fun _ _ _ _ h=>h,fun B off h _=>hM B off h,fun _ g h=>⟨g,h,G.le_refl g⟩⟩ (fun _ _=>rfl)
     cases x with
     |box T cs=>
      cases x' with
      |box T' cs'=>
       obtain⟨rfl,hu⟩:=a3
       obtain⟨hlen,hat⟩:=hu.at
       cases c2 with
       |box ws _ fz hB' hl' hh' hr'=>
        refine .box ws _ fz hB' (by omega) hh' (fun j x v hx hv=>?_)
        obtain⟨d0,s1,s2⟩:=hat j x hx
        exact turn _ _ _ s2 (hr' j d0 v s1 hv)
      | _=>exact absurd a3.1 (by simp)
     | _=>cases x' <;> exact gen a3
  ·refine⟨h3.os,h3.tape,h3.output,h3.size,h3.cell,fun B' off hm hlt=>h3.wr B' off (hM _ _ hm) hlt,fun b g0 hg=>(by rw[hent] at hg;cases hg),fun B' hlt hno=>h3.block B' hlt hno,fun i g0 B' hg agL hlt=>h3.old i g0 B' (hγ' _ _ hg).2 agL hlt⟩
  ·show Rep _ _ _ ((lk st'.F k).getD .junk) _
   cases hl':lk st'.F k with
   |none=>exact .junk _
   |some d=>exact turn _ _ _ (hF _ (iZ _ _ _ hl')) (h6 k)
def IG (r:bP):List Nat × List Nat:=(r.r.zA,r.r.ws.map (·.1))
def vM (ops:Array Oper)(oi:Oper)(ki:List Nat × List Nat)(oj:Oper)(kj:List Nat × List Nat):Bool:=
 (match oi.dst with|some t=>!(pY ops oj).contains t && !(match oj.dst with|some t'=>t' == t|none=>false)|none=>true) &&
 (match oj.dst with|some t=>!(pY ops oi).contains t|none=>true) &&
 ki.2.all (fun p=>!kj.1.contains p && !(kj.2.any fun q=>q == p)) && kj.2.all (fun p=>!ki.1.contains p)
def MF (ops:Array Oper)(ks:List (List Nat × List Nat)):Bool:=
 let A:=Region.before ops
 (ops.toList.zipIdx.all fun (o,j)=>o.after.all fun e=>!Region.binds .any e || decide (e.on<j)) &&
 (ops.toList.zipIdx.all fun (o,j)=>(List.range j).all fun i=>!(A.getD j 0).testBit i || o.after.any fun e=>Region.binds .any e && (e.on == i || (decide (i<e.on) && (A.getD e.on 0).testBit i))) &&
 ((ops.toList.zip ks).zipIdx.all fun (q,j)=>((ops.toList.zip ks).take j).zipIdx.all fun (p,i)=>(A.getD j 0).testBit i || vM ops p.1 p.2 q.1 q.2)
theorem U5 (ops:Array Oper)(oi oj:Oper)(ri rj:bP):vK ops oi ri oj rj=vM ops oi (IG ri) oj (IG rj):=by
 simp only[vK,vM,IG,List.all_map,List.any_map,Function.comp_def]
 rfl
theorem Rn {α β γ:Type}(l:List α)(f:β→γ)(rs:List β)(P:Nat→α × γ→Nat→α × γ→Bool):
  ((l.zip (rs.map f)).zipIdx.all fun (q,j)=>((l.zip (rs.map f)).take j).zipIdx.all fun (p,i)=>P j q i p)=((l.zip rs).zipIdx.all fun (q,j)=>((l.zip rs).take j).zipIdx.all fun (p,i)=>P j (q.1,f q.2) i (p.1,f p.2)):=by
 have e:l.zip (rs.map f)=(l.zip rs).map (fun p=>(p.1,f p.2)):=by
  rw[List.zip_map_right];rfl
 rw[e,List.zipIdx_map,List.all_map]
 congr 1
 funext ⟨q,j⟩
 simp only[Function.comp_def,← List.map_take,List.zipIdx_map,List.all_map,Prod.map]
 rfl
theorem Yp (ops:Array Oper)(rs:List bP):r_ ops rs=MF ops (rs.map IG):=by
 unfold r_ MF
 simp only[]
 rw[Rn ops.toList IG rs (fun j q i p=>((Region.before ops).getD j 0).testBit i || vM ops p.1 p.2 q.1 q.2)]
 simp only[U5]
theorem Pn {f g:Nat→Nat}(h:∀n,g (f n)=n)(l:List Nat)(p:Nat):(l.map f).contains (f p)=l.contains p:=by
 rw[Bool.eq_iff_iff]
 simp only[List.contains_eq_mem,decide_eq_true_eq,List.mem_map]
 constructor
 ·rintro ⟨x,hx,e⟩
  have:=congrArg g e
  rw[h,h] at this;rwa [← this]
 ·exact fun hp=>⟨p,hp,rfl⟩
theorem U6 {f g:Nat→Nat}(h:∀n,g (f n)=n)(ops:Array Oper)(oi oj:Oper)(ki kj:List Nat × List Nat):vM ops oi (ki.1.map f,ki.2.map f) oj (kj.1.map f,kj.2.map f)=vM ops oi ki oj kj:=by
 have hf:∀x y:Nat,(f x == f y)=(x == y):=fun x y=>by
  rw[Bool.eq_iff_iff];simp only[beq_iff_eq]
  exact⟨fun e=>by have:=congrArg g e;rwa [h,h] at this,fun e=>by rw[e]⟩
 simp only[vM,List.all_map,List.any_map,Function.comp_def,Pn h,hf]
theorem Yq {f g:Nat→Nat}(h:∀n,g (f n)=n)(ops:Array Oper)(ks:List (List Nat × List Nat)):MF ops (ks.map fun k=>(k.1.map f,k.2.map f))=MF ops ks:=by
 unfold MF
 simp only[]
 rw[Rn ops.toList (fun k:List Nat × List Nat=>(k.1.map f,k.2.map f)) ks (fun j q i p=>((Region.before ops).getD j 0).testBit i || vM ops p.1 p.2 q.1 q.2)]
 simp only[U6 h]
theorem U7 {ops:Array Oper}{rs:List bP}(l:List Nat)(hl:l.Nodup)(ks:List (List Nat × List Nat))(hk:MF ops ks=true)(h:∀f:Nat→Nat,(∀(i:Nat) x,l[i]?=some x→f i=x)→rs.map IG=ks.map fun k=>(k.1.map f,k.2.map f)):r_ ops rs=true:=by
 obtain⟨f,g,h1,h2⟩:=kU l hl
 rw[Yp,h f h2,Yq h1];exact hk
end Go.Id
namespace Go.Id
open Go Go.ChangeMaps
section
variable {P:gy} {ent:List Nat} {N:Nat} {Q:Exit→St→Prop} {st:St}
theorem WP.Eu {id:Nat}{ops:Array Oper}{x:Operand}{o:Oper}{os:List Oper}{b m since clock n:Nat}{seen:List Nat}{es:List (List UInt8 × D × Nat)}{k:List UInt8}{d:D}(hd:dX N ops=true)(hos:ops.toList=o::os)(hop:o.op= .entry x)(hg:o.guard=none)
  (hx:bQ st.get x= .ref b 0) (hb:lk st.σ b=some (.dS m since (seen++[n]) clock)) (hm:lk st.σ m=some (.map es clock)) (he:(k,d,n)∈es) (hn:(es.map (·.2.2)).Nodup)
  (h1:∀K:St→List bP→Prop,(∀st' rs,Q .normal st'→K st' rs)→ah P ops os (st.put o.dst (.aJ [.str k,d])) [] K):
  WP P ent N (.region id ops false) Q st:=by
 intro Fe nf hF E a w hr
 have hko:ops[0]?=some o:=by
  have:ops.toList[0]?=some o:=by rw[hos];rfl
  simpa using this
 have hmem:o∈ops:=Array.mem_of_getElem? hko
 have hsz:ops.size=os.length+1:=by rw[← Array.length_toList,hos];rfl
 refine wpIn_region ?_
 rw[hsz,List.range_eq_range',List.range'_succ,wpOpsIn,hko]
 dsimp only
 rw[if_pos (by simp[Region.wanted,hg])]
 have hdst:=dH hd hmem
 have go:∀(st1:St) (a':Act) (w':World),(∀K:St→List bP→Prop,(∀st' rs,Q .normal st'→K st' rs)→ah P ops os st1 [] K)→Rel E ent N st1.get (lk st1.σ) a' w'→
   wpOpsIn Fe nf P.prog ops (fun e a' w'=>∃st',Q e st'∧Rel E ent N st'.get (lk st'.σ) a' w') (List.range' (0+1) os.length) a' w':=by
  intro st1 a' w' h hr'
  obtain⟨rs,st',hc,hk⟩:=ah.chain _ _ _ _ (h (fun st' _=>Q .normal st') (fun _ _ h=>h))
  exact hc.wpOps hF.1 (nf:=nf) hd _ 1 (by rw[hos];rfl) a' w' hr' (fun a'' w'' aan=>⟨st',hk,aan⟩)
 have hr0:=hr
 obtain⟨γ,q1,q2,q3,q4,q5,q6⟩:=hr
 have hev:=iF q6 x
 rw[hx] at hev
 generalize hv:a.eval x=v at hev
 obtain⟨g,r2,r3⟩:=q2.hit hb
 obtain⟨g',r4,r5⟩:=q2.hit hm
 cases r3 with
 | @dS _ _ _ B Bm _ hB hmB=>
  rw[r4] at hmB;cases hmB
  cases r5 with
  | @map _ _ _ en hBm hl hk=>
   cases hev with
   | @ref _ B' _ hγ=>
    obtain rfl:B'=B:=by
     rcases hγ with hγ | ⟨_,_,hγ⟩|hγ <;> rw[r2] at hγ <;> cases hγ
     rfl
    obtain⟨i,hi,hie⟩:=List.mem_iff_getElem.1 he
    have hi':i<en.size:=by omega
    obtain⟨p1,p2,p3⟩:=hk i en[i] es[i].1 es[i].2.1 es[i].2.2 (Array.getElem?_eq_getElem hi') (List.getElem?_eq_getElem hi)
    rw[hie] at p1 p2 p3
    have hborn:en.toList.map (·.born)=es.map (·.2.2):=by
     apply List.ext_getElem (by simpa using hl)
     intro j hj1 hj2
     simp only[List.length_map] at hj1 hj2
     have hj:j<en.size:=by simpa using hj1
     obtain⟨_,s2,_⟩:=hk j en[j] es[j].1 es[j].2.1 es[j].2.2 (Array.getElem?_eq_getElem hj) (List.getElem?_eq_getElem hj2)
     simpa using s2
    have hB1:w.heap[B']?=some (.mapIter (some Bm) since (seen.toArray.push en[i].born) clock):=by
     rw[hB]
     have:en[i].born=n:=p2
     rw[this];simp
    have hrun:=run_entry_at (P:=P.prog) w B' Bm since seen.toArray en clock en[i] hB1 hBm (by simp) (by rw[hborn];exact hn)
    unfold Oper.wpIn
    refine⟨fun f _=>hF.1.fn f,?_⟩
    rw[Oper.semAt_plain Fe _ _ (by rw[hop];intro c hc';cases hc')]
    simp[execOp,hop,hv,hrun,Result.andThen]
    refine go _ _ _ h1 ?_
    rw[get_put,put_σ]
    refine⟨γ,q1,q2,q3,by rw[gW];exact q4,by rw[put_defers];exact q5,jR (by rw[q4];exact hdst) ?_ q6⟩
    refine .aJ rfl (fun i' d' v' z1 z2=>?_)
    match i' with
    | 0=>simp at z1 z2;subst z1;subst z2;rw[p1];have:=Rep.str (M:=aC E.M γ) (γ:=γ) (w:=w) ⟨k.toArray⟩;simpa using this
    | 1=>simp at z1 z2;subst z1;subst z2;exact p3
    |i+2=>simp at z1
end
end Go.Id
namespace Go.Id
open Go
def iM (P:gy)(x:Value)(fo:D)(args:List D)(st:St)(K:List (Nat × aU)→Prop):Prop:=
 ∃k first cap ins ws,fo= .fn (.func k) first cap∧fU P (some x) k ((first++args++cap).map fg) ins .junk ws∧
  (∀b blk,lk ins b=some blk→lk st.σ b=some blk∧aA (fun i=>(lk ins i).isSome=true) blk)∧(∀b,(lk ws b).isSome=true→(lk ins b).isSome=true∨lk st.σ b=none)∧
  (∀d∈(first++args++cap).map fg,cZ (fun i=>(lk ins i).isSome=true) d)∧K ws
section
variable {P:gy} {ent:List Nat} {N:Nat} {Q:Exit→St→Prop} {st:St}
theorem WP.lX {id:Nat}{ops:Array Oper}(n:Nat){o:Oper}{os2:List Oper}{x:Value}{fo:Operand}{args:Array Operand}{ts:Array TypeId}(hd:dX N ops=true)(hos:ops.toList.drop n=o::os2)(hg:o.guard=none)
  (hop:o.op= .call { callee:= .value fo,args:=args,argTypes:=ts })
  (h:∀K:St→List bP→Prop,(∀st' rs,iM P x (bQ st'.get fo) (args.toList.map (bQ st'.get)) st' (fun ws=>Q (.panic [{ v:=x,recovered:=false }]) (st'.lay ws))→K st' rs)→ah P ops (ops.toList.take n) st [] K):
  WP P ent N (.region id ops false) Q st:=by
 intro Fe nf hF E a w hr
 have hlt:n<ops.toList.length:=by
  rcases Nat.lt_or_ge n ops.toList.length with h|h
  ·exact h
  ·rw[List.drop_eq_nil_of_le h] at hos;cases hos
 have htk:(ops.toList.take n).length=n:=by rw[List.length_take];omega
 refine uq hF.1 hd (ops.toList.take n) (o::os2) (by rw[← hos,List.take_append_drop]) h hr ?_
 rintro st' a' w' ⟨k,first,cap,ins,ws,h1,h2,h3,h4,h5,h6⟩ hr' hk
 rw[htk]
 have hko:ops[n]?=some o:=by
  have:(ops.toList.drop n)[0]?=some o:=by rw[hos];rfl
  simpa [List.getElem?_drop] using this
 rw[List.length_cons,List.range'_succ]
 refine nS hko hg ?_
 refine fU.op hF.1 hr' hop h1 h2 h3 h4 h5 (dH hd (Array.mem_of_getElem? hko)) _ _ (fun e=>by cases e) (fun y e w'' aan=>?_)
 cases e
 exact⟨_,h6,by rw[nD,lay_σ];exact aan⟩
theorem WP.agM {id:Nat}{ops:Array Oper}(n:Nat){o:Oper}{os2:List Oper}{t:TypeId}{x:Value}{y:Operand}(hd:dX N ops=true)(hos:ops.toList.drop n=o::os2)(hg:o.guard=none)(hop:o.op= .panic y)
  (h:∀K:St→List bP→Prop,(∀st' rs,(∀(M:Nat→Nat→Prop) (γ:Nat→Option G) (w:World) (v:Value),Rep M γ w (bQ st'.get y) v→v= .iface t x)→Q (.panic [{ v:= .iface t x,recovered:=false }]) st'→K st' rs)→ah P ops (ops.toList.take n) st [] K):
  WP P ent N (.region id ops false) Q st:=by
 intro Fe nf hF E a w hr
 have hlt:n<ops.toList.length:=by
  rcases Nat.lt_or_ge n ops.toList.length with h|h
  ·exact h
  ·rw[List.drop_eq_nil_of_le h] at hos;cases hos
 have htk:(ops.toList.take n).length=n:=by rw[List.length_take];omega
 refine uq hF.1 hd (ops.toList.take n) (o::os2) (by rw[← hos,List.take_append_drop]) (Q:=fun st'=>(∀(M:Nat→Nat→Prop) (γ:Nat→Option G) (w:World) (v:Value),Rep M γ w (bQ st'.get y) v→v= .iface t x)∧Q (.panic [{ v:= .iface t x,recovered:=false }]) st')
  (fun K hK=>h K fun st' rs h1 h2=>hK st' rs ⟨h1,h2⟩) hr ?_
 rintro st' a' w' ⟨h1,h2⟩ hr' hk
 rw[htk]
 have hko:ops[n]?=some o:=by
  have:(ops.toList.drop n)[0]?=some o:=by rw[hos];rfl
  simpa [List.getElem?_drop] using this
 rw[List.length_cons,List.range'_succ]
 refine nS hko hg ⟨fun f _=>hF.1.fn f,?_⟩
 rw[Oper.semAt_plain Fe _ _ (by rw[hop];intro c hc;cases hc)]
 have hv:a'.eval y= .iface t x:=by
  obtain⟨γ,r1,r2,r3,r4,r5,r6⟩:=hr'
  exact h1 _ _ _ _ (iF r6 y)
 have hrun:(execOp a'.eval o).run P.prog w'= .halt (.panic (.iface t x)) w':=by
  simp[execOp,hop,hv,Instr.panic]
 rw[hrun]
 exact⟨st',h2,hr'⟩
end
end Go.Id
namespace Go.Id
open Go
theorem Rel.junk {P:gy}{E:CW P}{ent:List Nat}{N:Nat}{st:St}{a:Act}{w:World}(h:Rel E ent N st.get (lk st.σ) a w){t:Nat}(ht:t<N)(v:Value){d:D}(hv:∀(M:Nat→Nat→Prop) (γ:Nat→Option G),Rep M γ w d v):
  Rel E ent N (st.put (some t) d).get (lk (st.put (some t) d).σ) (a.put (some t) v) w:=by
 obtain⟨γ,h1,h2,h3,h4,h5,h6⟩:=h
 rw[get_put,put_σ]
 exact⟨γ,h1,h2,h3,by rw[gW];exact h4,by rw[put_defers];exact h5,jR (by rw[h4];intro t' e;cases e;exact ht) (hv _ _) h6⟩
section
variable {P:gy} {ent:List Nat} {N:Nat} {Q:Exit→St→Prop} {st:St}
theorem WP.agN {id:Nat}{ops:Array Oper}{t src dst e:TypeId}{tx t1 t2:Tmp}{o1 o2:Oper}{os:List Oper}{n b by':Nat}{T:TypeId}{s:List UInt8}(hd:dX N ops=true)(hos:ops.toList=o1::o2::os)
  (g1:o1.guard=none) (g2:o2.guard=none) (p1:o1.op= .slice t (.tmp tx) none none none) (p2:o2.op= .convert src dst (.tmp t1)) (d1:o1.dst=some t1) (d2:o2.dst=some t2)
  (ha:Ll P.prog t=some (n,1)) (hs:isStr P.prog dst=true) (he:bV P.prog src=some (e,1,by')) (hk:jJ P.prog e=some .u8) (hx:st.get tx= .ref b 0) (hb:lk st.σ b=some (.box T (s.map fun c=> .int .u8 c.toNat))) (hn:s.length=n)
  (h:∀K:St→List bP→Prop,(∀st' rs,Q .normal st'→K st' rs)→ah P ops os ((st.put (some t1) .junk).put (some t2) (.str s)) [] K):WP P ent N (.region id ops false) Q st:=by
 intro Fe nf hF E a w hr
 have hsz:ops.size=2+os.length:=by rw[← Array.length_toList,hos];simp;omega
 have k0:ops[0]?=some o1:=by
  have:ops.toList[0]?=some o1:=by rw[hos];rfl
  simpa using this
 have k1:ops[1]?=some o2:=by
  have:ops.toList[1]?=some o2:=by rw[hos];rfl
  simpa using this
 have l1:=dH hd (Array.mem_of_getElem? k0) t1 d1
 have l2:=dH hd (Array.mem_of_getElem? k1) t2 d2
 refine wpIn_region ?_
 rw[hsz,List.range_eq_range',show 2+os.length=os.length+1+1 by omega,List.range'_succ,List.range'_succ]
 have hr0:=hr
 obtain⟨γ,h1,h2,h3,h4,h5,h6⟩:=hr0
 obtain⟨g,q1,q2⟩:=h2.hit hb
 cases q2 with
 | @box _ B vs _ fz hB hl hc hrr=>
 have hxv:=h6 tx
 rw[hx] at hxv
 have hav:a.tmps.getD tx undef= .pointer (some ⟨B,0,none⟩):=by
  generalize a.tmps.getD tx undef=v at hxv
  cases hxv with
  |ref hb'=>
   rcases hb' with hb' | ⟨c,z,hb'⟩|hb' <;> rw[q1] at hb' <;> cases hb'
   rfl
 obtain⟨el,ti,u1,u2,u3⟩:=Dh ha
 have hsize:(sizeOf el).run P.prog w= .ok 1 w:=by simp[sizeOf,typeInfo,u2,u3]
 have hlen:vs.size=n:=by rw[hl,List.length_map,hn]
 refine nS k0 g1 ⟨fun f _=>hF.1.fn f,?_⟩
 rw[Oper.semAt_plain Fe _ _ (by rw[p1];intro c hc;cases hc)]
 have hrun1:(execOp a.eval o1).run P.prog w= .ok (.value (.slice (some ⟨B,0,none⟩) n n)) w:=by
  have hbn:=iE (P:=P.prog) (w:=w) false n n none none 0 n (.inl ⟨rfl,rfl⟩) (.inl ⟨rfl,rfl⟩) (Nat.zero_le _) (Nat.le_refl _)
  simp only[execOp,p1,Act.eval,hav,Instr.sliceAt,Instr.sureAddr,Sem.run_bind,run_underlying u1,Result.andThen_ok,Sem.run_pure,Option.map_none,hbn,hsize]
  simp[Addr.add_lit]
 rw[hrun1]
 show wpOpsIn _ _ _ _ _ _ _ _
 rw[d1]
 have hr1:=hr.junk l1 (.slice (some ⟨B,0,none⟩) n n) (d:= .junk) (fun _ _=> .junk _)
 have he1:(a.put (some t1) (.slice (some ⟨B,0,none⟩) n n)).eval (.tmp t1)= .slice (some ⟨B,0,none⟩) n n:=by
  show (a.put (some t1) _).tmps.getD t1 undef=_
  rw[ug (by rw[h4];intro t' e;cases e;exact l1),if_pos rfl]
 have hsl:Rep (fun _ _=>False) γ w (.slice 1 false (eY s) none) (.slice (some ⟨B,0,none⟩) (eY s).length n):=by
  refine .slice vs.toList (by simp[eY]) (by simp[eY,hlen,hn]) (fun _=>rfl) (fun j v hv=>⟨?_,fun h=>h,?_⟩) (fun i j e d v he hdd hv=>?_) (by simp[eY,hn]) (fun t e=>by cases e)
  ·have hv':vs[j]?=some v:=by simpa using hv
   simp[World.cell?,hB,hv']
  ·have hv':vs[j]?=some v:=by simpa using hv
   exact (hc j v hv').1
  ·simp only[eY,List.getElem?_map] at he
   obtain⟨c,hcc,rfl⟩:=Option.map_eq_some_iff.1 he
   match j with
   | 0=>
    simp at hdd;subst hdd
    have hv':vs[i]?=some v:=by simpa using hv
    have:=hrr i (.int .u8 c.toNat) v (by simp[List.getElem?_map,hcc]) hv'
    rw[int_inj this]
    exact .int _ _
   |j+1=>simp at hdd
 have hcv:Ib P.prog src dst (.slice 1 false (eY s) none)=some (.str s):=by
  unfold Ib
  simp[hs,he,hk,qO]
 obtain⟨r,hrn,agO⟩:=Di hcv hsl
 have hlu:(eY s).length=n:=by simp[eY,hn]
 rw[hlu] at hrn
 refine nS k1 g2 ⟨fun f _=>hF.1.fn f,?_⟩
 rw[Oper.semAt_plain Fe _ _ (by rw[p2];intro c hc;cases hc)]
 have hrun2:(execOp (a.put (some t1) (.slice (some ⟨B,0,none⟩) n n)).eval o2).run P.prog w= .ok (.value r) w:=by
  simp only[execOp,p2,he1,Sem.run_bind,hrn,Result.andThen_ok,Sem.run_pure]
 rw[hrun2]
 show wpOpsIn _ _ _ _ _ _ _ _
 rw[d2]
 have hr2:=hr1.junk l2 r (d:= .str s) (fun M γ'=>by
  obtain⟨b',e1,e2⟩:=str_inj agO
  rw[e1,← e2]
  exact .str _)
 refine Iz hF.1 hd 2 os (by rw[hos];rfl) (Q:=fun st'=>Q .normal st') h hr2 (fun st' a' w' hq hr' _=>⟨st',hq,hr'⟩)
end
end Go.Id
namespace Go.Id
open Go
theorem iM.imp {P:gy}{x:Value}{fo:D}{args:List D}{st:St}{K:List (Nat × aU)→Prop}{k:FuncId}{first cap as:List D}{ins outs:List (Nat × aU)}(h:fU P (some x) k as ins .junk outs)(hfo:fo= .fn (.func k) first cap)(has:as=(first++args++cap).map fg)
  (hin:∀p∈ins,lk st.σ p.1=some p.2∧aA (fun i=>(lk ins i).isSome=true) p.2) (hout:∀p∈outs,(lk ins p.1).isSome=true∨lk st.σ p.1=none)
  (hcl:∀d∈as,cZ (fun i=>(lk ins i).isSome=true) d) (hk:K outs):iM P x fo args st K:=by
 refine⟨k,first,cap,ins,outs,hfo,by rw[← has];exact h,?_,?_,by rw[← has];exact hcl,hk⟩
 ·intro b blk hb
  exact hin (b,blk) (qR hb)
 ·intro b hb
  obtain⟨x,hx⟩:=Option.isSome_iff_exists.1 hb
  exact hout (b,x) (qR hx)
theorem kE.panic {P:gy}{fn:Func}{ins outs:List (Nat × aU)}{x:Option Value}{y:Value}{val:D}{st:St}(hx:x=some y)(hv:val= .junk)(hout:∀p∈outs,lk st.σ p.1=some p.2∧aA (fun i=>(lk outs i).isSome=true) p.2)(hin:∀p∈ins,(lk outs p.1).isSome=true):
  kE P fn ins x val outs (.panic [{ v:=y,recovered:=false }]) st:=by
 subst hx;exact⟨rfl,hv,hout,hin⟩
theorem kE.ret {P:gy}{fn:Func}{ins outs:List (Nat × aU)}{x:Option Value}{val:D}{e:Exit}{st:St}(hx:x=none)(h:Ends P fn ins val outs e st):kE P fn ins x val outs e st:=by
 subst hx;exact h
theorem fU.Po {P:gy}{x:Option Value}{k:FuncId}{args:List D}{ins:List (Nat × aU)}{val:D}{b:Nat}{T:TypeId}{cs cs':List D}(h:fU P x k args ins val [(b,.box T cs)])(hle:Les cs cs'):fU P x k args ins val [(b,.box T cs')]:=by
 refine⟨h.1,fun M γ w vs hst hl hr=>(h.2 M γ w vs hst hl hr).mono ?_⟩
 rintro e w' ⟨v,γ',he,hst',hev,hv⟩
 refine⟨v,γ',he,⟨fun i=>?_,hst'.dist,hst'.outer,hst'.apart,hst'.inv,hst'.low,hst'.big⟩,hev,hv⟩
 rcases hst'.names i with⟨blk,g,q1,q2,q3⟩ | ⟨q1,q2⟩
 ·simp only[lk] at q1
  split at q1
  ·rename_i e;subst e
   cases q1
   refine .inl ⟨.box T cs',g,by simp[lk],q2,?_⟩
   cases q3 with
   | @box _ B us _ fz hB hl h1 hrr=>
    obtain⟨l1,l2⟩:=hle.at
    refine .box us T fz hB (hl.trans l1) h1 (fun j d u hd hu=>?_)
    have hj:j<cs.length:=by rw[l1];exact (List.getElem?_eq_some_iff.1 hd).1
    exact l2 j _ _ (List.getElem?_eq_getElem hj) hd _ _ _ _ (hrr j _ u (List.getElem?_eq_getElem hj) hu)
  ·cases q1
 ·refine .inr ⟨?_,q2⟩
  simp only[lk] at q1 ⊢
  split at q1
  ·cases q1
  ·rename_i hne;rw[if_neg hne]
theorem Weak.aiJ {ent:List Nat}{st:St}(b:Nat)(e:TypeId)(cs cs':List D)(hb:lk st.σ b=some (.box e cs))(h:Les cs cs'):Weak ent st ⟨st.F,(b,.box e cs')::dl st.σ b⟩:=
 Weak.blk b (.box e cs) (.box e cs') hb (by simp[lk]) (fun i hi=>by simp[lk,Mc,hi]) fun M γ w g hg=>by
  obtain⟨l1,l2⟩:=h.at
  cases hg with
  | @box _ B us _ fz hB hl h1 hrr=>
   refine .box us e fz hB (hl.trans l1) h1 (fun j d u hd hu=>?_)
   have hj:j<cs.length:=by rw[l1];exact (List.getElem?_eq_some_iff.1 hd).1
   exact l2 j _ _ (List.getElem?_eq_getElem hj) hd _ _ _ _ (hrr j _ u (List.getElem?_eq_getElem hj) hu)
end Go.Id
namespace Go.Id
open Go
section
variable {P:gy} {ent:List Nat} {N:Nat} {E:CW P}
end
inductive Recovers:FrameMode→Value→FrameMode→Prop
 |no:Recovers .returning .nilIface .returning
 |yes (y:Value):Recovers (.panicking [{ v:=y,recovered:=false }]) y (.panicking [{ v:=y,recovered:=true }])
theorem Lu {P:gy}{g:FuncId}{QM:Func}{N2 r0 n:Nat}{U8:Array Oper}{o1 o2:Oper}{ta tb:Tmp}{gc:Code}(hf:P.prog.funcs[g]?=some QM)(hb:QM.body=some (.seq (.region r0 U8 false) gc))(hN:QM.ntmps=N2)(hres:QM.results=#[])
  (hops:U8=#[o1,o2]) (g1:o1.guard=none) (g2:o2.guard=none) (d1:o1.dst=some ta) (d2:o2.dst=some tb) (p2:o2.op= .assign (.tmp ta))
  {c1:Call} (p1:o1.op= .call c1) (pc:c1.callee= .builtin .recover) (pa:c1.args=#[])
  {u u':FrameMode} {x:D} {xv:Value} (hrec:Recovers u xv u') (hx:∀(M:Nat→Nat→Prop) (γ:Nat→Option G) (w:World),Rep M γ w x xv)
  {m:Nat→Nat→Prop} {γ:Nat→Option G} {σl:List (Nat × aU)} {w:World} (hst:Store (P.base m) γ (lk σl) w) {cs:List D} {vs:Array Value} (hlen:vs.size=cs.length) (ha:cs.length≤ta) (hNl:cs.length≤N2) (ha2:ta<N2) (hb2:tb<N2) (hab:ta≠tb)
  (hr:∀(i:Nat) d v,cs[i]?=some d→vs[i]?=some v→Rep (aC (P.base m) γ) γ w d v) {Q:List (Nat × aU)→Prop}
  (hwp:WP P (MS::σl.map (·.1)) N2 gc (fun e st'=>(e= .normal∨e= .ret)∧Q st'.σ) ⟨(tb,x)::ay 0 cs,σl⟩)
  {R:Ending→FrameMode→World→Prop} (hR:∀w' γ' σ',Store (P.base m) γ' (lk σ') w'→aQ (aC (P.base m) γ) γ w (aC (P.base m) γ') γ' w'→Q σ'→∀v,R (.returned v) u' w'):
  CallsDIn Fence.wide n P.prog g vs u w R:=by
 subst hops
 refine callsDIn_of_wpSIn hf hb trivial fun c₀ fs hu=>?_
 refine wpSIn_seq (wpSIn_region ?_)
 have ak1:List.range (#[o1,o2]:Array Oper).size=[0,1]:=rfl
 rw[ak1]
 have aiK:∀(a:Act) (w:World),(execOp a.eval o1).run P.prog w= .ok .recover w:=by
  intro a w
  obtain⟨cal,ars,tys⟩:=c1
  simp only at pc pa
  subst pc;subst pa
  simp only[execOp,p1,resolve,invoke,Sem.run_bind,Sem.run_pure,Result.andThen_ok]
  rfl
 have aiL:∀(a:Act) (w:World),(execOp a.eval o2).run P.prog w= .ok (.value (a.eval (.tmp ta))) w:=by
  intro a w
  simp only[execOp,p2,Sem.run_pure]
 let a0:Act:={ tmps:=vs++Array.replicate (QM.ntmps - vs.size) undef,defers:=[] }
 have hsz0:a0.tmps.size=N2:=by simp[a0,hN];omega
 let a1:=a0.put (some ta) xv
 let a2:=a1.put (some tb) xv
 have hev:a1.eval (.tmp ta)=xv:=by
  show (a0.put (some ta) xv).tmps.getD ta undef=_
  rw[ug (by intro t e;cases e;rw[hsz0];exact ha2),if_pos rfl]
 have hrel:Rel (⟨m,γ,w,0,Nat.zero_le _,[]⟩:CW P) (MS::σl.map (·.1)) N2 (St.get ⟨(tb,x)::ay 0 cs,σl⟩) (lk σl) a2 w:=by
  refine⟨γ,fun b g' hg=>?_,hst,aQ.refl _ _ _,by rw[gW,gW];exact hsz0,Marks.nil _ _ _ _,fun t=>?_⟩
  ·rcases hst.names b with⟨blk,g'',q1,_⟩ | ⟨_,q1⟩
   ·exact List.mem_cons_of_mem _ (List.mem_map.2 ⟨(b,blk),iZ _ _ _ q1,rfl⟩)
   ·have hg':γ b=some g':=hg
    rw[hg'] at q1;cases q1
  ·rw[ug (by intro t' e;cases e;rw[gW,hsz0];exact hb2)]
   by_cases htb:tb=t
   ·subst htb
    rw[if_pos rfl]
    simp only[St.get,lk,if_true,Option.getD_some]
    exact hx _ _ _
   ·rw[if_neg (by simpa using htb),ug (by intro t' e;cases e;rw[hsz0];exact ha2)]
    have hget:St.get ⟨(tb,x)::ay 0 cs,σl⟩ t=(cs[t]?).getD .junk:=by
     simp only[St.get,lk,uj,Nat.zero_le,if_true,Nat.sub_zero]
     rw[if_neg (fun e=>htb e.symm)]
    rw[hget]
    by_cases hta:ta=t
    ·subst hta
     rw[List.getElem?_eq_none (by omega)]
     exact .junk _
    ·rw[if_neg (by simpa using hta)]
     by_cases ht:t<cs.length
     ·have h1:a0.tmps.getD t undef=vs[t]'(by omega):=by
       simp only[a0,Array.getD_eq_getD_getElem?]
       rw[Array.getElem?_append_left (by omega),Array.getElem?_eq_getElem (by omega)]
       rfl
      rw[h1,List.getElem?_eq_getElem ht]
      exact hr t _ _ (List.getElem?_eq_getElem ht) (Array.getElem?_eq_getElem (by omega))
     ·rw[List.getElem?_eq_none (by omega)]
      exact .junk _
 have aiM:∀fs',fs'={ c₀ with mode:=u' }::fs→Exit.thenS (gc.wpSIn Fence.wide n P.prog (bodyPostS P.prog QM c₀ fs R)) (bodyPostS P.prog QM c₀ fs R) .normal a2 fs' w:=by
  rintro fs' rfl
  show gc.wpSIn Fence.wide n P.prog (bodyPostS P.prog QM c₀ fs R) a2 _ w
  refine wpSIn_of_wpIn rfl (wpIn_mono (hwp Fence.wide n (.wide _) _ _ _ hrel) ?_)
  rintro e a' w' ⟨st',⟨he,hq⟩,γ',h1,h2,h3,h4,h5,h6⟩
  have adM:(results QM a'.tmps).run P.prog w'= .ok (.tuple #[]) w':=by
   unfold results
   rw[hres]
   simp
  have hnil:a'.defers=[]:=by
   obtain⟨Ds,⟨k1,k2⟩,_⟩:=h5
   rw[k1,k2 (by simp)];rfl
  have hfin:bodyPostS P.prog QM c₀ fs R .normal a' ({ c₀ with mode:=u' }::fs) w':=
   ⟨hnil,u',rfl,_,adM,hR w' γ' st'.σ h2 h3 hq _⟩
  rcases he with rfl|rfl <;> exact hfin
 have hop1:∀(a:Act) (w:World),o1.about P.prog w a.eval=none∨∀f:FuncId,Fence.wide.fn f:=fun _ _=> .inr fun _=>trivial
 unfold wpOpsSIn
 rw[show (#[o1,o2]:Array Oper)[0]?=some o1 from rfl]
 dsimp only
 refine⟨fun f _=>trivial,?_⟩
 rw[if_pos (by simp[Region.wanted,g1]),aiK]
 dsimp only
 have tail:∀fs',fs'={ c₀ with mode:=u' }::fs→wpOpsSIn Fence.wide n P.prog #[o1,o2] (Exit.thenS (gc.wpSIn Fence.wide n P.prog (bodyPostS P.prog QM c₀ fs R)) (bodyPostS P.prog QM c₀ fs R)) [1] (a0.put o1.dst xv) fs' w:=by
  intro fs' hfs
  unfold wpOpsSIn
  rw[show (#[o1,o2]:Array Oper)[1]?=some o2 from rfl]
  dsimp only
  refine⟨fun f _=>trivial,?_⟩
  rw[if_pos (by simp[Region.wanted,g2]),aiL]
  dsimp only
  rw[d1,d2,hev]
  exact aiM fs' hfs
 cases hrec with
 |no=>
  have:recoverD (c₀::fs)=none:=by simp[recoverD,hu]
  rw[this]
  exact tail _ (by rw[← hu])
 |yes y=>
  have:recoverD (c₀::fs)=some (xv,{ c₀ with mode:= .panicking [{ v:=xv,recovered:=true }] }::fs):=by simp[recoverD,hu]
  rw[this]
  exact tail _ rfl
structure aiN (P:gy) (fn:Func) (N2:Nat) (tb:Tmp) (gc:Code) (cs:List D) (val:D) (e:Exit) (st:St) (u u':FrameMode) (x:D) (xv:Value):Prop where
 rcv:Recovers u xv u'
 how:((e= .normal∨e= .ret)∧u= .returning)∨(e= .panic [{ v:=xv,recovered:=false }]∧u= .panicking [{ v:=xv,recovered:=false }])
 rep:∀(M:Nat→Nat→Prop) (γ:Nat→Option G) (w:World),Rep M γ w x xv
 wp:WP P (MS::st.σ.map (·.1)) N2 gc (fun e st'=>(e= .normal∨e= .ret)∧∃d,resD P.prog fn ⟨st.F,st'.σ⟩=some d∧Le d val) ⟨(tb,x)::ay 0 cs,st.σ⟩
theorem Yr {P:gy}{fn:Func}{args:List D}{ent:List Nat}{N:Nat}{m:Nat→Nat→Prop}{γ:Nat→Option G}{w:World}{vs:List Value}(hN:fn.ntmps=N)(hle:args.length≤N)(hst:Store (P.base m) γ (lk []) w)(hl:vs.length=args.length)
  (hr:∀(i:Nat) d v,args[i]?=some d→vs[i]?=some v→Rep (aC (P.base m) γ) γ w d v):
  Rel (⟨m,γ,w,max w.heap.size P.n,Nat.le_refl _,[]⟩:CW P) ent N (St.get ⟨ay 0 args,[]⟩) (lk []) { tmps:=vs.toArray++Array.replicate (fn.ntmps - vs.toArray.size) undef,defers:=[] } w:=by
 refine⟨γ,fun b g hg=>?_,hst,aQ.refl _ _ _,?_,Marks.nil _ _ _ _,fun t=>?_⟩
 ·rcases hst.names b with⟨blk,g',q1,_⟩ | ⟨_,q1⟩
  ·cases q1
  ·have hg':γ b=some g:=hg
   rw[hg'] at q1;cases q1
 ·simp[hl];omega
 ·simp only[St.get,uj,Nat.zero_le,if_true,Nat.sub_zero]
  rw[Array.getD_eq_getD_getElem?]
  by_cases ht:t<vs.length
  ·have h1:(vs.toArray++Array.replicate (fn.ntmps - vs.toArray.size) undef)[t]?=vs[t]?:=by
    rw[Array.getElem?_append_left (by simpa using ht)];simp
   have h2:t<args.length:=by omega
   rw[h1,List.getElem?_eq_getElem ht,List.getElem?_eq_getElem h2]
   exact hr t _ _ (List.getElem?_eq_getElem h2) (List.getElem?_eq_getElem ht)
  ·rw[List.getElem?_eq_none (by omega:args.length≤t)]
   exact .junk _
theorem ak.aao {P:gy}{k:FuncId}{fn:Func}{c0 c1 rest:Code}{r3:Nat}{q1 q2:Oper}{t9:Tmp}{caps:Array Operand}{args:List D}{val:D}{N:Nat}
  {g:FuncId} {QM:Func} {N2 r0:Nat} {U8:Array Oper} {o1 o2:Oper} {ta tb:Tmp} {gc:Code} {WM Ro:Call}
  (hf:P.prog.funcs[k]?=some fn) (hb:fn.body=some (.seq c0 (.seq c1 (.seq (.region r3 #[q1,q2] false) rest)))) (hn:(fn.name == "runtime.NumGoroutine")=false) (hN:fn.ntmps=N) (hle:args.length≤N)
  (e1:q1.op= .makeFunc (.func g) #[] caps) (e2:q2.op= .defer Ro) (ec:Ro.callee= .value (.tmp t9)) (ea:Ro.args=#[]) (eg1:q1.guard=none) (eg2:q2.guard=none) (ed1:q1.dst=some t9) (ed2:q2.dst=none) (h9:t9<N)
  (gf:P.prog.funcs[g]?=some QM) (gb:QM.body=some (.seq (.region r0 U8 false) gc)) (gN:QM.ntmps=N2) (gres:QM.results=#[]) (gname:(QM.name == "runtime.NumGoroutine")=false)
  (hops:U8=#[o1,o2]) (g1:o1.guard=none) (g2:o2.guard=none) (d1:o1.dst=some ta) (d2:o2.dst=some tb) (p2:o2.op= .assign (.tmp ta)) (p1:o1.op= .call WM) (pc:WM.callee= .builtin .recover) (pa:WM.args=#[])
  (ha:caps.size≤ta) (hNl:caps.size≤N2) (ha2:ta<N2) (hb2:tb<N2) (hab:ta≠tb) (st1:St) (hj:st1.get t9= .junk) (hcl:cZ (fun _=>False) val)
  (h01:WP P [MS] N c0 (fun e st'=>e= .normal∧WP P [MS] N c1 (fun e aiO=>e= .normal∧Weak [MS] aiO st1) st') ⟨ay 0 args,[]⟩)
  (hrest:WP P (st1.σ.map (·.1)) N rest (fun e st=>∃u u' x xv,aiN P fn N2 tb gc (caps.toList.map (bQ st1.get)) val e st u u' x xv) st1):ak P k args val:=by
 refine⟨⟨fn,hf,hn,by simp[hb]⟩,fun m γ w vs hst hl hr=>?_⟩
 refine callsIn_wide.1 (callsIn_of_wp_marks (n:=0) hf hb trivial ?_ rfl)
 have aiP:=Yr (P:=P) (fn:=fn) (ent:=[MS]) hN hle hst hl hr
 refine wpIn_seq (wpIn_mono (h01 Fence.wide 0 (OkF.wide _) _ _ _ aiP) ?_)
 rintro e a1 w1 ⟨st',⟨rfl,h1⟩,hr1⟩
 show Code.wpIn _ _ _ _ _ _ _
 refine wpIn_seq (wpIn_mono (h1 Fence.wide 0 (OkF.wide _) _ _ _ hr1) ?_)
 rintro e a2 w2 ⟨aiO,⟨rfl,hw⟩,hr2⟩
 show Code.wpIn _ _ _ _ _ _ _
 obtain⟨γ2,k1,k2,k3,k4,k5,k6⟩:=hw P _ N a2 w2 hr2
 have hdf:a2.defers=[]:=by
  obtain⟨Ds,⟨x1,x2⟩,_⟩:=k5
  rw[x1,x2 (by simp)];rfl
 refine wpIn_seq (wpIn_region ?_)
 rw[show List.range (#[q1,q2]:Array Oper).size=[0,1] from rfl]
 refine nS (o:=q1) rfl eg1 ⟨fun f _=>trivial,?_⟩
 rw[Oper.semAt_plain Fence.wide _ _ (by rw[e1];intro c hc;cases hc)]
 have hrun1:(execOp a2.eval q1).run P.prog w2= .ok (.value (.func (.func g) #[] (caps.map a2.eval))) w2:=by
  simp[execOp,e1,Instr.makeFunc]
 rw[hrun1]
 show wpOpsIn _ _ _ _ _ _ _ _
 refine nS (o:=q2) rfl eg2 ⟨fun f _=>trivial,?_⟩
 rw[show Oper.semAt Fence.wide.round=Oper.semAt none from rfl,Oper.semAt_none,ed1]
 have he9:(a2.put (some t9) (.func (.func g) #[] (caps.map a2.eval))).eval (.tmp t9)= .func (.func g) #[] (caps.map a2.eval):=by
  show (a2.put (some t9) _).tmps.getD t9 undef=_
  rw[ug (by intro t' e;cases e;rw[k4];exact h9),if_pos rfl]
 have hrun2:(execOp (a2.put (some t9) (.func (.func g) #[] (caps.map a2.eval))).eval q2).run P.prog w2= .ok (.defer { target:= .fn (.func g) (caps.map a2.eval),args:=#[] }) w2:=by
  obtain⟨cal,ars,tys⟩:=Ro
  simp only at ec ea
  subst ec;subst ea
  simp only[execOp,e2,resolve,he9,Deferred.ofValue,Sem.run_bind,Sem.run_pure,Result.andThen_ok]
  simp
 rw[hrun2]
 rw[Oper.uponIn_defer,ed2]
 show Code.wpIn _ _ _ _ _ _ _
 have aiQ:Rel (⟨m,γ2,w2,max w2.heap.size P.n,Nat.le_refl _,[{ target:= .fn (.func g) (caps.map a2.eval),args:=#[] }]⟩:CW P) (st1.σ.map (·.1)) N st1.get (lk st1.σ)
   (Act.put { (a2.put (some t9) (.func (.func g) #[] (caps.map a2.eval))) with defers:={ target:= .fn (.func g) (caps.map a2.eval),args:=#[] }::(a2.put (some t9) (.func (.func g) #[] (caps.map a2.eval))).defers } none undef) w2:=by
  refine⟨γ2,fun b g' hg=>?_,k2,aQ.refl _ _ _,?_,?_,fun t=>?_⟩
  ·rcases k2.names b with⟨blk,g'',y1,_⟩ | ⟨_,y1⟩
   ·exact List.mem_map.2 ⟨(b,blk),iZ _ _ _ y1,rfl⟩
   ·have hg':γ2 b=some g':=hg
    rw[hg'] at y1;cases y1
  ·rw[gW]
   show (a2.put (some t9) _).tmps.size=N
   rw[gW];exact k4
  ·have:(Act.put { (a2.put (some t9) (.func (.func g) #[] (caps.map a2.eval))) with defers:={ target:= .fn (.func g) (caps.map a2.eval),args:=#[] }::(a2.put (some t9) (.func (.func g) #[] (caps.map a2.eval))).defers } none undef).defers=[{ target:= .fn (.func g) (caps.map a2.eval),args:=#[] }]:=by
    rw[put_defers]
    show _::(a2.put (some t9) _).defers=_
    rw[put_defers,hdf]
   rw[this]
   exact Marks.nil _ _ _ _
  ·show Rep _ _ _ _ ((a2.put (some t9) _).tmps.getD t undef)
   rw[ug (by intro t' e;cases e;rw[k4];exact h9)]
   by_cases ht:t9=t
   ·subst ht
    rw[hj];exact .junk _
   ·rw[if_neg (by simpa using ht)]
    exact k6 t
 refine wpIn_mono (hrest Fence.wide 0 (OkF.wide _) _ _ _ aiQ) ?_
 rintro e a' w' ⟨st,⟨u,u',x,xv,hd⟩,γ',r1,r2,r3,r4,r5,r6⟩
 obtain⟨Ds,⟨z1,_⟩,z2,z3⟩:=r5
 have aiR:u≠ .run:=by
  have:=hd.rcv
  cases this <;> simp
 have hset:settle u'= .returning:=by
  have:=hd.rcv
  cases this <;> simp[settle]
 have key:=um (P:=P) (E:=⟨m,γ2,w2,max w2.heap.size P.n,Nat.le_refl _,[{ target:= .fn (.func g) (caps.map a2.eval),args:=#[] }]⟩) (fn:=fn) (tmps:=a'.tmps) (F:=st.get) (σ:=lk st.σ) (γ:=γ2) (γ':=γ') (w:=w2)
  (T:=[{ target:= .fn (.func g) (caps.map a2.eval),args:=#[] }]) (n:=max w2.heap.size P.n) (by omega) (u:=u) aiR
  (R:=fun e w'=>∃v γ',e= .returned v∧Store (P.base m) γ' (lk []) w'∧aQ (aC (P.base m) γ) γ w (aC (P.base m) γ') γ' w'∧Rep (aC (P.base m) γ') γ' w' val v)
  (fun w4 g2' g3' g6'=>by
   refine⟨aiR,.inr ⟨(fun e=>by cases e),.func g,caps.map a2.eval,g,#[]++caps.map a2.eval,rfl,?_,fun _ _=>trivial,?_⟩⟩
   ·simp only[invoke,callFunc,Sem.run_bind,run_program,Result.andThen_ok,gf,gname]
    simp[gb]
   ·refine Lu (cs:=caps.toList.map (bQ st1.get)) (Q:=fun σ'=>∃d,resD P.prog fn ⟨st.F,σ'⟩=some d∧Le d val) gf gb gN gres hops g1 g2 d1 d2 p2 p1 pc pa hd.rcv hd.rep g2' (by simp) (by simpa using ha) (by simpa using hNl) ha2 hb2 hab (fun i d v hi hv=>?_) hd.wp ?_
    ·have hi':i<caps.size:=by
      have:=(List.getElem?_eq_some_iff.1 hi).1
      simpa using this
     rw[List.getElem?_map] at hi
     obtain⟨o,ho,rfl⟩:=Option.map_eq_some_iff.1 hi
     have hv':v=a2.eval o:=by
      have ho':caps[i]?=some o:=by simpa using ho
      rw[Array.empty_append,Array.getElem?_map,ho'] at hv
      simpa using hv.symm
     rw[hv']
     exact (iF k6 o).bZ g3'
    ·rintro w5 γ5 σ5 s5 ev5 ⟨dd,hdd,hle'⟩ v
     show LeavesInM _ _ _ _ _ _ [] (settle u') w5
     rw[hset]
     show ∃v,_
     obtain⟨v',y1,y2⟩:=Me (E:=(⟨m,γ2,w2,max w2.heap.size P.n,Nat.le_refl _,[]⟩:CW P)) (st:=⟨st.F,σ5⟩) s5 (a:=a') (fun t=>(g6' t).bZ ev5) hdd
     have aiS:aQ (aC (P.base m) γ) γ w (aC (P.base m) γ5) γ5 w5:=(k3.trans g3').trans ev5
     obtain⟨γ6,m1,m2,m3⟩:=Store.forget s5 aiS (l:=[]) (by simp) (by simp) (fun b g' hg=>by
      have:=k1 b g' hg
      rcases hst.names b with⟨blk,g'',y1,_⟩ | ⟨_,y1⟩
      ·cases y1
      ·rw[hg] at y1;cases y1)
     exact⟨v',y1,v',γ6,rfl,m1,m2,m3 _ _ (hle' _ _ _ _ y2) (hcl.mono fun _ h=>h.elim)⟩) (by omega) Ds a'.defers w' z1 z2 z3 r2 r3 r6
 rcases hd.how with⟨he,rfl⟩ | ⟨rfl,rfl⟩
 ·rcases he with rfl|rfl <;> exact key
 ·exact key
section
variable {P:gy} {f g:Nat→Nat} {m:Nat→Nat→Prop}
theorem fU.rename (h:∀n,g (f n)=n){k:FuncId}{args:List D}{ins outs:List (Nat × aU)}{val:D}{x0:Option Value}(hc:fU P x0 k args ins val outs):fU P x0 k (args.map (dh f)) (kG f ins) (dh f val) (kG f outs):=by
 refine⟨hc.1,fun M γ' w vs hst hl hr=>?_⟩
 have hb:=fun {c x} (q:γ' c=some x)=>Ht h hst q
 refine (hc.2 M (fun b=>γ' (f b)) w vs (hst.back h) (by simpa using hl) (fun i d v hd hv=>?_)).mono ?_
 ·have:=((hr i (dh f d) v (by rw[List.getElem?_map,hd];rfl) hv).ren (γ':=fun b=>γ' (f b)) (f:=g) (fun c y hy=>by show γ' (f (g c))=some y;rw[hb hy];exact hy)).same (fun B off=>mV h hst B off)
  rw[sD h] at this
  exact this
 ·rintro e w' ⟨v,γ₂,rfl,q1,q2,q3⟩
  refine⟨v,fwd f g γ₂,rfl,q1.forth h,?_,?_⟩
  ·refine⟨q2.os,q2.tape,q2.output,q2.size,fun B off u hm hu=>q2.cell B off u (fun q=>hm ((mV h hst B off).1 q)) hu,fun B off hm hlt=>(mV h hst B off).1 (q2.wr B off ((qc h γ₂ B off).1 hm) hlt),fun c x hx=>?_,fun B hB hn=>q2.block B hB (fun b x hx=>hn (f b) x hx),fun c x B hx hB hlt=>?_⟩
   ·obtain⟨x',r1,r2⟩:=q2.names (g c) x (by show γ' (f (g c))=some x;rw[hb hx];exact hx)
    exact⟨x',by rw[← hb hx,uo h];exact r1,r2⟩
   ·obtain⟨b',x',r1,r2⟩:=q2.old (g c) x B (oQ hx).2 hB hlt
    exact⟨f b',x',r1,r2⟩
  ·exact (q3.ren (γ':=fwd f g γ₂) (f:=f) (fun b y hy=>(uo h γ₂ b).trans hy)).same (fun B off=>qc h γ₂ B off)
end
end Go.Id
namespace Go.Id
open Go
def agP:aU→Prop
 | .box .. | .arr .. | .map ..=>True
 | _=>False
theorem Yt {P:gy}{E:CW P}{ent:List Nat}{σ:Nat→Option aU}{γ:Nat→Option G}{w:World}{t:Nat}(h1:∀b g,E.γ b=some g→b∈ent)(h2:Store E.M γ σ w)(h3:aQ (aC E.M E.γ) E.γ E.w (aC E.M γ) γ w)
  (hent:∀b∈ent,b≠t∧∃blk,σ b=some blk∧agP blk):∀b g,E.γ b=some g→b≠t∧γ b=some g:=by
 intro b g hg
 obtain⟨hne,blk,hb,hf⟩:=hent b (h1 b g hg)
 obtain⟨g',hg',hle⟩:=h3.names b g hg
 refine⟨hne,?_⟩
 cases g with
 |aS sz e v n=>
  obtain⟨v',n',rfl,_⟩:=hle
  obtain⟨g2,q1,q2⟩:=h2.hit hb
  rw[hg'] at q1;cases q1
  cases q2 <;> exact hf.elim
 | _=>rw[hg'];exact congrArg some hle
theorem Weak.adN {ent:List Nat}{st:St}(t:Nat)(e:TypeId)(sz:Nat)(es:List (List D))(k0:Nat){F':List (Nat × D)}{σ':List (Nat × aU)}(hk:st.get k0= .slice sz false es (some t))(hb:lk st.σ t=some (.aS e sz es.length))(hes:∀x∈es,∀d∈x,Fr t d)
  (hσt:lk σ' t=some (.arr e es.flatten)) (hσ:∀b,b≠t→lk σ' b=lk st.σ b) (hσc:∀p∈st.σ,p.1≠t→BFr t p.2) (hF:∀p∈F',(p.1=k0∧p.2= .arr t sz es.length)∨(st.get p.1=p.2∧Fr t p.2)) (hent:∀b∈ent,b≠t∧∃blk,lk st.σ b=some blk∧agP blk):Weak ent st ⟨F',σ'⟩:=by
 rintro P E N a w ⟨γ,h1,h2,h3,h4,h5,h6⟩
 have hE:=Yt h1 h2 h3 hent
 obtain⟨g,q1,q2⟩:=h2.hit hb
 have hsl:=h6 k0
 rw[hk] at hsl
 generalize hv0:a.tmps.getD k0 undef=v0 at hsl
 rcases aW hsl with⟨_,_,hn⟩ | ⟨ad,cap,vs,rfl,_,hspot,hvs,hcap,hsz,hcell,hr,htip⟩
 ·cases hn
 cases q2 with
 | @aS _ _ _ v xs ho=>
  obtain⟨_,_,v',n',p1,p2,p3⟩:=htip t rfl
  rw[q1] at p1
  simp only[Option.some.injEq,G.aS.injEq] at p1
  obtain⟨rfl,rfl,rfl,rfl⟩:=p1
  have hv:=p3 rfl
  rcases ho.2 with⟨h0,_⟩ | ⟨B,cap',cur,hvB,_,hB,hnc,hcm,hcs,htake⟩
  ·rw[h0] at hv;cases hv
  rw[hvB] at hv
  simp only[Value.slice.injEq,Option.some.injEq,true_and] at hv
  obtain⟨rfl,rfl⟩:=hv
  let g':G:= .arr B cap sz
  have hnew:¬B<E.w.heap.size:=fun hlt=>by
   obtain⟨b',g0,r1,r2⟩:=h3.old t _ B q1 (by rw[hvB];rfl) hlt
   obtain⟨hne,hg⟩:=hE b' g0 r1
   exact hne (h2.dist b' t g0 _ B hg q1 r2 (by rw[hvB];rfl))
  have hgB:(G.aS sz e v es.length).block=some B:=by rw[hvB];rfl
  have hother:∀i,i≠t→upd γ t (some g') i=γ i:=fun i hi=>bF _ _ hi
  have hback:∀i gi,upd γ t (some g') i=some gi→∃g0,γ i=some g0∧g0.block=gi.block:=by
   intro i gi hg
   by_cases hi:i=t
   ·subst hi;rw[upd_same] at hg;cases hg;exact⟨_,q1,hgB⟩
   ·rw[hother i hi] at hg;exact⟨gi,hg,rfl⟩
  have uX:=kJ es hsz
  have hMB:∀off,¬E.M.M B off:=fun off hm=>h2.apart t _ B off q1 hgB hm
  refine⟨upd γ t (some g'),h1,⟨fun i=>?_,fun i i' gi gi' B' a1 a2 a3 a4=>?_,h2.outer,fun i gi B' off a1 a2=>?_,h2.inv,fun i gi B' a1 a2=>?_,h2.big⟩,?_,h4,h5.back (fun b g B q1 q2=>by obtain⟨g0,r1,r2⟩:=hback _ _ q1;exact⟨b,g0,r1,r2.trans q2⟩),fun k=>?_⟩
  ·by_cases hi:i=t
   ·subst hi
    refine .inl ⟨.arr e es.flatten,g',hσt,upd_same _ _ _,?_⟩
    refine .arr cur e (0,0) hB (by rw[uX,hcs];exact Nat.mul_le_mul_right _ hcap) (fun j u hj hu=>⟨?_,by simp[World.frozen?,hB]⟩) (fun j d u hd hu=>?_) ⟨.inl ⟨rfl,rfl⟩,hcs,hcm⟩
    ·have hjv:j<vs.length:=by omega
     have:=hcell j _ (List.getElem?_eq_getElem hjv)
     simp only[Nat.zero_add] at this
     have hc:=this.1
     rw[cell_of_row w B j cur e _ hB,hu] at hc
     have:u=vs[j]:=by simpa using hc
     rw[this];exact (hcell j _ (List.getElem?_eq_getElem hjv)).2.2
    ·obtain⟨x,r1,r2⟩:=xP es hsz j d hd
     have hjv:j<vs.length:=by have:=(List.getElem?_eq_some_iff.1 hd).1;omega
     have:=hcell j _ (List.getElem?_eq_getElem hjv)
     simp only[Nat.zero_add] at this
     have hc:=this.1
     rw[cell_of_row w B j cur e _ hB,hu] at hc
     have hu':u=vs[j]:=by simpa using hc
     have h7:=hr (j / sz) (j % sz) x d vs[j] r1 r2 (by rw[Nat.div_add_mod'];exact List.getElem?_eq_getElem hjv)
     rw[hu']
     exact (hes x (List.mem_of_getElem? r1) d (List.mem_of_getElem? r2)).rep hother h7
   ·show (∃blk g,lk σ' i=some blk∧_)∨(lk σ' i=none∧_)
    rw[hσ i hi,hother i hi]
    rcases h2.names i with⟨blk,gi,a1,a2,a3⟩ | ⟨a1,a2⟩
    ·exact .inl ⟨blk,gi,a1,a2,(hσc _ (iZ _ _ _ a1) hi).rel hother a3⟩
    ·exact .inr ⟨a1,a2⟩
  ·obtain⟨g1,b1,b2⟩:=hback _ _ a1
   obtain⟨g2,b3,b4⟩:=hback _ _ a2
   exact h2.dist i i' g1 g2 B' b1 b3 (b2.trans a3) (b4.trans a4)
  ·obtain⟨g1,b1,b2⟩:=hback _ _ a1
   exact h2.apart i g1 B' off b1 (b2.trans a2)
  ·obtain⟨g1,b1,b2⟩:=hback _ _ a1
   exact h2.low i g1 B' b1 (b2.trans a2)
  ·refine⟨h3.os,h3.tape,h3.output,h3.size,h3.cell,fun B' off hm hlt=>?_,fun b g0 hg=>⟨g0,by rw[hother b (hE b g0 hg).1];exact (hE b g0 hg).2,G.le_refl g0⟩,fun B' hlt hno=>h3.block B' hlt hno,fun b g0 B' hg agL hlt=>?_⟩
   ·rcases hm with hm | ⟨i,gi,hg,hw⟩
    ·exact h3.wr B' off (.inl hm) hlt
    ·by_cases hi:i=t
     ·subst hi;rw[upd_same] at hg;cases hg
      have:B'=B:=hw
      subst this
      exact absurd hlt hnew
     ·rw[hother i hi] at hg;exact h3.wr B' off (.inr ⟨i,gi,hg,hw⟩) hlt
   ·obtain⟨g1,b1,b2⟩:=hback _ _ hg
    exact h3.old b g1 B' b1 (b2.trans agL) hlt
  ·have h0:=h6 k
   show Rep _ _ _ ((lk F' k).getD .junk) _
   cases hl:lk F' k with
   |none=>exact .junk _
   |some d=>
    rcases hF _ (iZ _ _ _ hl) with⟨rfl,rfl⟩ | ⟨r1,r2⟩
    ·rw[hv0]
     exact .arr (upd_same _ _ _) hcap
    ·dsimp only at r1 r2
     rw[r1] at h0
     exact r2.rep hother h0
end Go.Id
namespace Go.Id
open Go
def aap (es:List (List UInt8 × D × Nat))(vs:List Value):List (List UInt8 × D × Nat):=(es.zip vs).map fun p=>(p.1.1,.val p.2,p.1.2.2)
end Go.Id
namespace Go.Id
open Go
inductive Kd where
 |s|i|l|b
 deriving DecidableEq
def kdD:D→Option Kd
 | .str _=>some .s
 | .int _ _=>some .i
 | .slice _ _ _ _=>some .l
 | .bool _=>some .b
 | _=>none
def kdV:Value→Option Kd
 | .string _=>some .s
 | .int _ _=>some .i
 | .slice _ _ _=>some .l
 | .bool _=>some .b
 | _=>none
theorem agQ {M:Nat→Nat→Prop}{γ:Nat→Option G}{w:World}{d:D}{v:Value}(h:Rep M γ w d v){k:Kd}(hk:kdD d=some k):kdV v=some k:=by
 cases h <;> simp_all[kdD,kdV]
def clash (pat:List Kd)(row:List (Option Kd)):Bool:=
 (List.range pat.length).all fun φ=>(List.range row.length).any fun j=>match row[j]?,pat[(φ+j) % pat.length]? with
  |some (some k),some k'=>decide (k≠k')
  | _,_=>false
theorem aaq {pat:List Kd}{row:List (Option Kd)}(h:clash pat row=true){o:Nat}(h0:0<pat.length):∃j k k',row[j]?=some (some k)∧pat[(o+j) % pat.length]?=some k'∧k≠k':=by
 unfold clash at h
 rw[List.all_eq_true] at h
 have h1:=h (o % pat.length) (List.mem_range.2 (Nat.mod_lt _ h0))
 rw[List.any_eq_true] at h1
 obtain⟨j,_,hj⟩:=h1
 rw[Nat.mod_add_mod] at hj
 split at hj
 ·rename_i k k' e1 e2
  exact⟨j,k,k',e1,e2,by simpa using hj⟩
 ·cases hj
inductive Du (t:Nat) (pat:List Kd):D→Prop
 |junk:Du t pat .junk
 |bool (b:Bool):Du t pat (.bool b)
 |int (k:IntKind) (n:Int):Du t pat (.int k n)
 |str (s:List UInt8):Du t pat (.str s)
 |slice {sz:Nat} {nil:Bool} {es:List (List D)} {aS:Option Nat} (h:∀e∈es,∀d∈e,Du t pat d) (h0:∀e,es[0]?=some e→clash pat (e.map kdD)=true) (ht:aS≠some t):Du t pat (.slice sz nil es aS)
 |arr {b sz n:Nat} (h:b≠t):Du t pat (.arr b sz n)
 |view {b off sz n:Nat} (h:b≠t):Du t pat (.view b off sz n)
 |ref {b off:Nat} (h:b≠t):Du t pat (.ref b off)
 |aP:Du t pat .aP
 |fn {f:Fn} {a b:List D} (h:∀d∈a,Du t pat d) (h':∀d∈b,Du t pat d):Du t pat (.fn f a b)
 |dD:Du t pat .dD
 |agg {cs:List D} (h:∀d∈cs,Du t pat d):Du t pat (.agg cs)
 |aJ {cs:List D} (h:∀d∈cs,Du t pat d):Du t pat (.aJ cs)
 |aI:Du t pat .aI
 |val (v:Value):Du t pat (.val v)
 |bG:Du t pat .bG
 |map {b:Nat} (h:b≠t):Du t pat (.map b)
section
variable {t:Nat} {pat:List Kd}
theorem Du.rep {M M':Nat→Nat→Prop}{γ γ':Nat→Option G}{w:World}{B:Nat}(hγ:∀i,i≠t→γ' i=γ i)(hM:∀B' off,M' B' off→M B' off∨B'=B)(hp:0<pat.length)(hB:∀off u,w.cell? ⟨B,off,none⟩=some u→¬M B off→∃k,pat[off % pat.length]?=some k∧kdV u=some k){d:D}(hd:Du t pat d){v:Value}(h:Rep M γ w d v):Rep M' γ' w d v:=by
 induction h with
 |junk v=>exact .junk v
 |bool b=>exact .bool b
 |int k n=>exact .int k n
 |str s=>exact .str s
 | @nilslice sz aS ht=>
  cases hd with
  |slice h h0 hn=>
   refine .nilslice fun t' e=>?_
   have:t'≠t:=fun q=>hn (by rw[e,q])
   rw[hγ _ this];exact ht t' e
 | @slice sz es aS a cap vs hsz hvs hspot hc hr hcap ht ih=>
  cases hd with
  |slice h h0 hn=>
   have hne:∀(j:Nat) (v:Value),vs[j]?=some v→a.block≠B:=by
    intro j v hj e
    have hj':=(List.getElem?_eq_some_iff.1 hj).1
    cases es with
    | nil => have h00:vs.length=0:=by rw[hvs];simp
             omega
    |cons x es=>
     obtain⟨j0,k,k',e1,e2,e3⟩:=aaq (h0 x rfl) (o:=a.off) hp
     rw[List.getElem?_map] at e1
     obtain⟨d0,e4,e5⟩:=Option.map_eq_some_iff.1 e1
     have hl:=hsz x (by simp)
     have hx0:j0<x.length:=(List.getElem?_eq_some_iff.1 e4).1
     have h0':j0<vs.length:=by
      have:sz≤vs.length:=by rw[hvs,List.length_cons,Nat.add_mul];omega
      omega
     have hv0:=List.getElem?_eq_getElem h0'
     have hr0:=hr 0 j0 x d0 vs[j0] rfl e4 (by simpa using hv0)
     obtain⟨q1,q2,_⟩:=hc j0 _ hv0
     rw[e] at q1 q2
     obtain⟨k2,e6,e7⟩:=hB _ _ q1 q2
     rw[e2] at e6;cases e6
     rw[agQ hr0 e5] at e7;cases e7
     exact e3 rfl
   refine .slice vs hsz hvs hspot (fun j v hj=>?_) (fun i j e d v q1 q2 q3=>ih i j e d v q1 q2 q3 (h e (List.mem_of_getElem? q1) d (List.mem_of_getElem? q2))) hcap (fun t' e=>?_)
   ·obtain⟨q1,q2,q3⟩:=hc j v hj
    exact⟨q1,fun q=>(hM _ _ q).elim q2 (hne j v hj),q3⟩
   ·have:t'≠t:=fun q=>hn (by rw[e,q])
    rw[hγ _ this];exact ht t' e
 |arr hb hn=>cases hd with|arr h=>exact .arr ((hγ _ h).trans hb) hn
 |view hb ha hn=>cases hd with|view h=>exact .view ((hγ _ h).trans hb) ha hn
 |ref hb=>
  cases hd with
  |ref h=>
   refine .ref ?_
   rw[hγ _ h]
   exact hb
 |dQ=>cases hd
 |aP=>exact .aP
 |fn hf hk _ _ ih1 ih2=>
  cases hd with
  |fn h h'=>exact .fn hf hk (fun i d v a b=>ih1 i d v a b (h d (List.mem_of_getElem? a))) (fun i d v a b=>ih2 i d v a b (h' d (List.mem_of_getElem? a)))
 |dD=>exact .dD
 |agg hl h1 _ ih=>cases hd with|agg h=>exact .agg hl h1 (fun i d v a b=>ih i d v a b (h d (List.mem_of_getElem? a)))
 |aJ hl _ ih=>cases hd with|aJ h=>exact .aJ hl (fun i d v a b=>ih i d v a b (h d (List.mem_of_getElem? a)))
 |iface _ ih=>cases hd
 |aI=>exact .aI
 |val v=>exact .val v
 |bG=>exact .bG
 |map hb=>cases hd with|map h=>exact .map ((hγ _ h).trans hb)
end
def TgD (t:Nat)(pat:List Kd)(sz:Nat)(es:List (List D))(d d':D):Prop:=(d'=d∧Du t pat d)∨(d= .slice sz false es (some t)∧d'= .arr t sz es.length)
def TgL (t:Nat)(pat:List Kd)(sz:Nat)(es:List (List D)):List D→List D→Prop
 | [],[]=>True
 |d::l,d'::l'=>TgD t pat sz es d d'∧TgL t pat sz es l l'
 | _,_=>False
def aiT (t:Nat)(pat:List Kd):aU→Prop
 | .box _ cs | .arr _ cs=>∀d∈cs,Du t pat d
 | .map es _=>∀e∈es,Du t pat e.2.1
 | .dS m _ _ _=>m≠t
 | _=>True
theorem TgL.at {t:Nat}{pat:List Kd}{sz:Nat}{es:List (List D)}:∀{l l':List D},TgL t pat sz es l l'→l'.length=l.length∧∀(i:Nat) d',l'[i]?=some d'→∃d,l[i]?=some d∧TgD t pat sz es d d'
 | [],[],_=>⟨rfl,fun i d h=>by simp at h⟩
 |d::l,d'::l',h=>by
  obtain⟨h1,h2⟩:=TgL.at h.2
  refine⟨by simp[h1],fun i x hx=>?_⟩
  cases i with
  |zero=>simp at hx;subst hx;exact⟨d,rfl,h.1⟩
  |succ i=>simp at hx;simpa using h2 i x hx
 | [],_::_,h=>h.elim
 | _::_,[],h=>h.elim
theorem aiT.rel {t:Nat}{pat:List Kd}{M M':Nat→Nat→Prop}{γ γ':Nat→Option G}{w:World}{B:Nat}(hγ:∀i,i≠t→γ' i=γ i)(hM:∀B' off,M' B' off→M B' off∨B'=B)(hp:0<pat.length)(hB:∀off u,w.cell? ⟨B,off,none⟩=some u→¬M B off→∃k,pat[off % pat.length]?=some k∧kdV u=some k){blk:aU}{g:G}(hb:aiT t pat blk)(h:cO M γ w blk g):cO M' γ' w blk g:=by
 cases h with
 |box vs e fz hB' hl h1 hr=>exact .box vs e fz hB' hl h1 (fun i d v hd hv=>(hb d (List.mem_of_getElem? hd)).rep hγ hM hp hB (hr i d v hd hv))
 |arr vs e fz hB' hl h1 hr hf=>exact .arr vs e fz hB' hl h1 (fun i d v hd hv=>(hb d (List.mem_of_getElem? hd)).rep hγ hM hp hB (hr i d v hd hv)) hf
 |iter hB'=>exact .iter hB'
 |map en hB' hl hk=>exact .map en hB' hl (fun i e k d n q1 q2=>let ⟨r1,r2,r3⟩:=hk i e k d n q1 q2;⟨r1,r2,(hb _ (List.mem_of_getElem? q2)).rep hγ hM hp hB r3⟩)
 |dS hB' hm=>exact .dS hB' ((hγ _ hb).trans hm)
 |dead hB'=>exact .dead hB'
 |aS xs ho=>exact .aS xs ho
end Go.Id
namespace Go.Id
open Go
def ArL (b sz:Nat)(es:List (List D)):List D→List D→Prop
 | [],[]=>True
 |d::l,d'::l'=>ArD b sz es d d'∧ArL b sz es l l'
 | _,_=>False
theorem ArL.at {b sz:Nat}{es:List (List D)}:∀{l l':List D},ArL b sz es l l'→l'.length=l.length∧∀(i:Nat) d',l'[i]?=some d'→∃d,l[i]?=some d∧ArD b sz es d d'
 | [],[],_=>⟨rfl,fun i d h=>by simp at h⟩
 |d::l,d'::l',h=>by
  obtain⟨h1,h2⟩:=ArL.at h.2
  refine⟨by simp[h1],fun i x hx=>?_⟩
  cases i with
  |zero=>simp at hx;subst hx;exact⟨d,rfl,h.1⟩
  |succ i=>simp at hx;simpa using h2 i x hx
 | [],_::_,h=>h.elim
 | _::_,[],h=>h.elim
theorem Weak.ren {st st':St}{f g:Nat→Nat}(h:∀n,g (f n)=n)(hF:∀p∈st'.F,p.2=dh f (st.get p.1))(hσ:∀b,lk st'.σ b=lk (kG f st.σ) b):Weak [] st st':=by
 rintro P E N a w ⟨γ,h1,h2,h3,h4,h5,h6⟩
 have hent:∀b,E.γ b=none:=fun b=>by
  cases h:E.γ b with
  |none=>rfl
  |some g=>exact absurd (h1 b g h) (by simp)
 have hst:lk st'.σ=lk (kG f st.σ):=funext hσ
 refine⟨fwd f g γ,h1,by rw[hst];exact Store.forth h h2,?_,h4,h5.back (fun c x B hc hB=>⟨g c,x,(oQ hc).2,hB⟩),fun k=>?_⟩
 ·refine⟨h3.os,h3.tape,h3.output,h3.size,h3.cell,fun B off hm hlt=>h3.wr B off ((qc h γ B off).1 hm) hlt,fun b x hx=>(by rw[hent] at hx;cases hx),h3.block,fun c x B hc hB hlt=>?_⟩
  exact h3.old (g c) x B (oQ hc).2 hB hlt
 ·show Rep _ _ _ ((lk st'.F k).getD .junk) _
  cases hl:lk st'.F k with
  |none=>exact .junk _
  |some d=>
   have hd:=hF _ (iZ _ _ _ hl)
   dsimp only at hd
   rw[Option.getD_some,hd]
   exact ((h6 k).ren (γ':=fwd f g γ) (f:=f) (fun b y hy=>(uo h γ b).trans hy)).same (fun B off=>qc h γ B off)
end Go.Id
namespace Go.Id
open Go
section
variable {P:gy} {ent:List Nat} {N:Nat} {Q:Exit→St→Prop} {st:St}
theorem WP.S (ks:List Nat){id:Nat}{ops:Array Oper}{y:Code}(h:∀K:St→List bP→Prop,(∀st' rs,WP P ent N y Q ⟨Go.Id.keep ks st'.F,st'.σ⟩→K st' rs)→ah P ops ops.toList st [] K)
  (hd:dX N ops=true:=by kernel_rfl):WP P ent N (.seq (.region id ops false) y) Q st:=WP.sr ks hd h
theorem WP.R {id:Nat}{ops:Array Oper}(h:∀K:St→List bP→Prop,(∀st' rs,Q .normal st'→K st' rs)→ah P ops ops.toList st [] K)
  (hd:dX N ops=true:=by kernel_rfl):WP P ent N (.region id ops false) Q st:=WP.region hd h
theorem WP.D (ks:List Nat){id:Nat}{ops:Array Oper}{y:Code}(h:∀K:St→List bP→Prop,(∀st' rs,r_ ops rs=true→WP P ent N y Q ⟨Go.Id.keep ks st'.F,st'.σ⟩→K st' rs)→ah P ops ops.toList st [] K)
  (hm:P.prog.follows .mixedOrders=true:=by kernel_rfl) (hd:dX N ops=true:=by kernel_rfl):WP P ent N (.seq (.region id ops true) y) Q st:=WP.sd ks hm hd h
theorem WP.E {id:Nat}{ops:Array Oper}(h:∀K:St→List bP→Prop,(∀st' rs,r_ ops rs=true→Q .normal st'→K st' rs)→ah P ops ops.toList st [] K)
  (hm:P.prog.follows .mixedOrders=true:=by kernel_rfl) (hd:dX N ops=true:=by kernel_rfl):WP P ent N (.region id ops true) Q st:=WP.drawn hm hd h
theorem WP.cT {c:Operand}{x y:Code}(h:WP P ent N x Q st)(hc:bQ st.get c= .bool true:=by rfl):WP P ent N (.cond c x y) Q st:=WP.cond hc (fun _=>h) nofun
theorem WP.cF {c:Operand}{x y:Code}(h:WP P ent N y Q st)(hc:bQ st.get c= .bool false:=by rfl):WP P ent N (.cond c x y) Q st:=WP.cond hc nofun fun _=>h
end
theorem aj.P {P:gy}{fo:D}{args:List D}{σ:List (Nat × aU)}{K:D→Rec→Prop}{k:FuncId}{first cap as:List D}{val:D}(h:ak P k as val)(hfo:fo= .fn (.func k) first cap)(has:as=(first++args++cap).map fg)(hk:K val ⟨[],[]⟩)
  (hcl:∀d∈as,cZ (fun _=>False) d:=by simp[-List.map_take]):aj P fo args σ K:=aj.pure h hfo has hcl hk
theorem aj.I {P:gy}{fo:D}{args:List D}{σ:List (Nat × aU)}{K:D→Rec→Prop}{k:FuncId}{first cap as:List D}{ins outs:List (Nat × aU)}{val:D}(h:aG P k as ins val outs)(hfo:fo= .fn (.func k) first cap)(has:as=(first++args++cap).map fg)(hk:K val ⟨ins.map (·.1)++outs.map (·.1),outs⟩)
  (hin:∀p∈ins,lk σ p.1=some p.2∧aA (fun i=>(lk ins i).isSome=true) p.2:=by simp[lk,aA]) (hout:∀p∈outs,(lk ins p.1).isSome=true∨lk σ p.1=none:=by simp[lk])
  (hcl:∀d∈as,cZ (fun i=>(lk ins i).isSome=true) d:=by simp[lk,fg]):aj P fo args σ K:=aj.imp h hfo has hin hout hcl hk
theorem Ends.P {P:gy}{fn:Func}{val d:D}{e:Exit}{st:St}(hd:resD P.prog fn st=some d)(hle:Le d val)(he:e= .normal∨e= .ret:=by simp)(hcl:cZ (fun _=>False) val:=by simp):Ends P fn [] val [] e st:=Ends.pure he hd hle hcl
theorem ak.W {P:gy}{k:FuncId}{fn:Func}{c:Code}{args:List D}{val:D}{N:Nat}(hf:P.prog.funcs[k]?=some fn)(hN:fn.ntmps=N)(h:WP P [] N c (Ends P fn [] val []) ⟨ay 0 args,[]⟩)
  (hb:fn.body=some c:=by rfl) (hn:(fn.name == "runtime.NumGoroutine")=false:=by kernel_rfl) (hle:args.length≤N:=by simp):ak P k args val:=ak.of_wp hf hb hn hN hle h
theorem MG (n:Nat):Int.toNat (no_index (OfNat.ofNat n))=OfNat.ofNat n:=rfl
end Go.Id
namespace Go.Id
open Go
def Dv (σ:Nat→Option aU)(b:Nat)(e:TypeId)(sz:Nat)(cs:List D)(n:Nat)(x:D):Prop:=
 (((σ b=none∧∃z,x= .slice z true [] none)∨(σ b=some (.aS e sz 0)∧∃z,x= .slice z true [] (some b)))∧cs=[]∧n=0)∨(σ b=some (.arr e cs)∧cs.length=n * sz∧x= .arr b sz n)
section
variable {P:gy} {E:CW P} {ent:List Nat} {N:Nat} {F:Nat→D} {σ:Nat→Option aU} {a:Act} {w:World}
theorem Rel.U9 (h:Rel E ent N F σ a w){t e:TypeId}{sz by' b n sz':Nat}{cs:List D}{nl:Bool}{es':List (List D)}{aS:Option Nat}{x y:Operand}(ty:TypeId)
  (he:bV P.prog t=some (e,sz,by')) (hok:g_ P.prog e=true) (hox:Dv σ b e sz cs n (bQ F x)) (hoy:bQ F y= .slice sz' nl es' aS) (hne:es'≠[]) (hsz':sz'=sz)
  (he9:e<1000000) (h63:n+es'.length≤9223372036854775807) (hby:(n+es'.length) * by'≤140737488355328) (hent:b ∉ ent)
  (hcs:∀d∈cs,cZ (fun i=>i≠b) d) (hes:∀x∈es',∀d∈x,cZ (fun i=>i≠b) d) (hσ:∀i blk,i≠b→σ i=some blk→aA (fun i=>i≠b) blk)
  {F':Nat→D} (hF:∀k,F' k= .junk∨(F' k=F k∧cZ (fun i=>i≠b) (F k))):
  ∃v w',(Builtin.append_ #[t,t] ty #[a.eval x,a.eval y]).run P.prog w= .ok v w'∧
   ∀dst,(∀d,dst=some d→d<N)→Rel E ent N (oN F' dst (.arr b sz (n+es'.length))) (upd σ b (some (.arr e (cs++es'.flatten)))) (a.put dst v) w':=by
 subst hsz'
 obtain⟨γ,h1,h2,h3,h4,h5,h6⟩:=h
 obtain⟨i,ht,hi,rfl,rfl⟩:=fB he
 obtain⟨i',z,hi',hz,hzs⟩:=nN hok
 rw[hi] at hi';cases hi'
 have hx:=iF h6 x
 have hy:=iF h6 y
 rw[hoy] at hy
 have aiU:E.γ b=none:=by
  cases hq:E.γ b with
  |none=>rfl
  |some g=>exact absurd (h1 b g hq) hent
 rcases aW hy with⟨_,h0,_⟩ | ⟨ad,c,vs',hyv,_,hspot,hvs',hcc,hsz2,hc',hr',_⟩
 ·exact absurd h0 hne
 have hm:0<es'.length:=List.length_pos_iff.2 hne
 have h1n:∀u∈vs',u.oneCell'=true:=fun u hu=>by
  obtain⟨j,hj⟩:=List.getElem?_of_mem hu
  exact (hc' j u hj).2.2
 have hown:∃xs:List Value,w.ownsRow 0 e i.size (a.eval x) n xs∧xs.length=cs.length∧cs.length=n * i.size∧(∀(j:Nat) d u,cs[j]?=some d→xs[j]?=some u→Rep (aC E.M γ) γ w d u)∧(∀u∈xs,u.oneCell'=true)∧
   (∀B,(a.eval x).ownBlock=some B→∃cap,γ b=some (.arr B cap i.size)):=by
  rcases hox with⟨hb,rfl,rfl⟩ | ⟨hb,hlen,hx0⟩
  ·have:a.eval x= .slice none 0 0:=by
    rcases hb with⟨_,z0,hx0⟩ | ⟨_,z0,hx0⟩ <;> rw[hx0] at hx <;> generalize a.eval x=xv at hx ⊢ <;> cases hx <;> rfl
   rw[this]
   exact⟨[],World.ownsRow_nil w 0 e i.size,rfl,by simp,by simp,by simp,fun B hB=>by cases hB⟩
  ·rw[hx0] at hx
   obtain⟨g,q1,q2⟩:=h2.hit hb
   cases q2 with
   | @arr e0 _ B cap zz vs _ fz hB hl hh hr hf=>
    obtain⟨hff,hf2,hf3⟩:=hf
    obtain⟨rfl,rfl⟩:=Dc hff he9
    generalize hav:a.eval x=xv at hx
    cases hx with
    | @arr _ B' _ _ cap' hγ hn=>
     rw[q1] at hγ;cases hγ
     have hle:n * i.size≤vs.size:=by rw[hf2];exact Nat.mul_le_mul_right _ hn
     have htl:(vs.toList.take (n * i.size)).length=n * i.size:=by rw[List.length_take];exact Nat.min_eq_left (by simpa using hle)
     refine⟨vs.toList.take (n * i.size),⟨htl,.inr ⟨B,cap,vs,rfl,Nat.zero_le _,hB,hn,hf3,hf2,rfl⟩⟩,by rw[htl,hlen],hlen,fun j d u hd hu=>?_,fun u hu=>?_,fun B' hB'=>?_⟩
     ·have hj:=(List.getElem?_eq_some_iff.1 hd).1
      rw[List.getElem?_take,if_pos (by omega)] at hu
      exact hr j d u hd (by simpa using hu)
     ·obtain⟨j,hj⟩:=List.getElem?_of_mem hu
      have hjl:=(List.getElem?_eq_some_iff.1 hj).1
      rw[List.getElem?_take,if_pos (by omega)] at hj
      exact (hh j u (by omega) (by simpa using hj)).1
     ·simp only[Value.ownBlock,Option.some.injEq] at hB'
      subst hB'
      exact⟨_,q1⟩
 obtain⟨xs,hown,hxl,hlen,hxr,hx1,hxb⟩:=hown
 obtain⟨B,cap,cur,w',hrun,e1,e2,e3,e4,hB,hcsz,hcap,hcm,htake,vG⟩:=Ie (P:=P.prog) (w:=w) ht hi hz hzs ty (a.eval x) n xs hown ad es'.length c vs' hvs'
  (fun j u hu=>by rw[nM (hspot hne)];exact (hc' j u hu).1) h1n hm h63 hby
 rw[← hyv] at hrun
 have hwh:(B=w.heap.size∧∀k,k<w.heap.size→w'.heap[k]?=w.heap[k]?)∨(∃cap0,γ b=some (.arr B cap0 i.size)∧∀k,k≠B→w'.heap[k]?=w.heap[k]?):=by
  rcases vG with q | ⟨q1,q2⟩
  ·exact .inl q
  ·obtain⟨c0,q3⟩:=hxb B q1
   exact .inr ⟨c0,q3,q2⟩
 let g':G:= .arr B cap i.size
 have hother:∀j,j≠b→upd γ b (some g') j=γ j:=fun j hj=>bF _ _ hj
 have hMw:∀B' off,aC E.M (upd γ b (some g')) B' off→B' < w.heap.size→aC E.M γ B' off:=by
  intro B' off hM hlt
  rcases aC.UK hM with q|q
  ·exact q
  ·simp only[g',G.wr] at q
   subst q
   rcases hwh with⟨rfl,_⟩ | ⟨c0,q1,_⟩
   ·omega
   ·exact .inr ⟨b,_,q1,rfl⟩
 have hsame:∀B',B' < w.heap.size→(∀c0,γ b≠some (.arr B' c0 i.size))→w'.heap[B']?=w.heap[B']?:=by
  intro B' hlt hno
  rcases hwh with⟨_,q⟩ | ⟨c0,q1,q⟩
  ·exact q B' hlt
  ·exact q B' (fun e=>hno c0 (e ▸ q1))
 have hcell:∀B' off u,¬aC E.M γ B' off→w.cell? ⟨B',off,none⟩=some u→w'.cell? ⟨B',off,none⟩=some u:=by
  intro B' off u hM hu
  rw[World.cell?_of_block (w:=w) (w':=w') (by simpa using hsame B' (cell_lt hu) (fun c0 q=>hM (.inr ⟨b,_,q,rfl⟩)))]
  exact hu
 let γ₀:Nat→Option G:=fun j=>if j=b then none else γ j
 have hS:∀j,j≠b→γ₀ j=γ j:=fun j hj=>by simp[γ₀,hj]
 have aiV:Evo (aC E.M γ) γ₀ w (aC E.M (upd γ b (some g'))) (upd γ b (some g')) w':=
  ⟨hcell,hMw,fun j g hg=>by
   by_cases hj:j=b
   ·simp[γ₀,hj] at hg
   ·rw[hS j hj] at hg
    exact⟨g,(hother j hj).trans hg,G.le_refl g⟩⟩
 have move:∀{d:D} {u:Value},Rep (aC E.M γ) γ w d u→cZ (fun j=>j≠b) d→Rep (aC E.M (upd γ b (some g'))) (upd γ b (some g')) w' d u:=fun hd hc=>(hd.restrict hS hc).Lc aiV
 have hblk:∀j gj B',j≠b→γ j=some gj→gj.block=some B'→w'.heap[B']?=w.heap[B']?:=by
  intro j gj B' hj hg hB'
  exact hsame B' (h2.lt hg hB') (fun c0 q=>hj (h2.dist j b _ _ B' hg q hB' rfl))
 have afD:∀j gj,j≠b→γ j=some gj→gj.block=some B→False:=by
  intro j gj hj hg hBj
  rcases hwh with⟨rfl,_⟩ | ⟨c0,q1,_⟩
  ·have:=h2.lt hg hBj;omega
  ·exact hj (h2.dist j b _ _ B hg q1 hBj rfl)
 have afE:P.n≤B∧(∀off,¬E.M.M B off):=by
  rcases hwh with⟨rfl,_⟩ | ⟨c0,q1,_⟩
  ·exact⟨h2.big,fun off hm=>by have:=(h2.outer _ _ hm).2;omega⟩
  ·exact⟨h2.low b _ B q1 rfl,fun off hm=>h2.apart b _ B off q1 rfl hm⟩
 have hback:∀j gj B',upd γ b (some g') j=some gj→gj.block=some B'→B' < w.heap.size→∃gj',γ j=some gj'∧gj'.block=some B':=by
  intro j gj B' hg hB' hlt
  by_cases hj:j=b
  ·subst hj
   rw[upd_same] at hg;cases hg
   simp only[g',G.block,Option.some.injEq] at hB'
   subst hB'
   rcases hwh with⟨rfl,_⟩ | ⟨c0,q1,_⟩
   ·omega
   ·exact⟨_,q1,rfl⟩
  ·rw[hother j hj] at hg;exact⟨gj,hg,hB'⟩
 have uX:=kJ es' hsz2
 have hst:Store E.M (upd γ b (some g')) (upd σ b (some (.arr e (cs++es'.flatten)))) w':=by
  refine⟨fun j=>?_,fun j j' gj gj' B' a1 a2 a3 a4=>?_,fun B' off hm=>⟨(h2.outer B' off hm).1,Nat.lt_of_lt_of_le (h2.outer B' off hm).2 e4⟩,fun j gj B' off a1 a2 hm=>?_,?_,fun j gj B' a1 a2=>?_,Nat.le_trans h2.big e4⟩
  ·by_cases hj:j=b
   ·subst hj
    refine .inl ⟨_,g',upd_same _ _ _,upd_same _ _ _,?_⟩
    have hat:∀j u,j<(n+es'.length) * i.size→cur[j]?=some u→(xs++vs')[j]?=some u:=by
     intro j u hj hu
     rw[← htake,List.getElem?_take,if_pos hj];simpa using hu
    have hl2:(cs++es'.flatten).length=(n+es'.length) * i.size:=by rw[List.length_append,hlen,uX,Nat.add_mul]
    refine .arr cur e (0,0) hB (by rw[hl2,hcsz];exact Nat.mul_le_mul_right _ hcap) (fun j u hj hu=>⟨?_,by simp[World.frozen?,hB]⟩) (fun j d u hd hu=>?_) ⟨.inl ⟨rfl,rfl⟩,hcsz,hcm⟩
    ·rw[hl2] at hj
     exact (List.mem_append.1 (List.mem_of_getElem? (hat j u hj hu))).elim (hx1 u) (h1n u)
    ·have hj:=(List.getElem?_eq_some_iff.1 hd).1
     rw[hl2] at hj
     have hu':=hat j u hj hu
     by_cases hjc:j<cs.length
     ·rw[List.getElem?_append_left hjc] at hd
      rw[List.getElem?_append_left (by omega)] at hu'
      exact move (hxr j d u hd hu') (hcs d (List.mem_of_getElem? hd))
     ·rw[List.getElem?_append_right (by omega)] at hd
      rw[List.getElem?_append_right (by omega),hxl] at hu'
      obtain⟨x0,r1,r2⟩:=xP es' hsz2 (j - cs.length) d hd
      exact move (hr' _ _ x0 d u r1 r2 (by rw[Nat.div_add_mod'];exact hu')) (hes x0 (List.mem_of_getElem? r1) d (List.mem_of_getElem? r2))
   ·rcases h2.names j with⟨blk,gj,q1,q2,q3⟩ | ⟨q1,q2⟩
    ·exact .inl ⟨blk,gj,by rw[bF _ _ hj];exact q1,(hother j hj).trans q2,(q3.restrict hS (hσ j blk hj q1)).Lc aiV (fun B' hB'=>hblk j gj B' hj q2 hB')⟩
    ·exact .inr ⟨by rw[bF _ _ hj];exact q1,(hother j hj).trans q2⟩
  ·by_cases hj:j=b <;> by_cases hj':j'=b
   ·rw[hj,hj']
   ·subst hj
    rw[upd_same] at a1;cases a1
    rw[hother j' hj'] at a2
    simp only[g',G.block,Option.some.injEq] at a3
    subst a3
    exact (afD j' gj' hj' a2 a4).elim
   ·subst hj'
    rw[upd_same] at a2;cases a2
    rw[hother j hj] at a1
    simp only[g',G.block,Option.some.injEq] at a4
    subst a4
    exact (afD j gj hj a1 a3).elim
   ·rw[hother j hj] at a1
    rw[hother j' hj'] at a2
    exact h2.dist j j' gj gj' B' a1 a2 a3 a4
  ·by_cases hj:j=b
   ·subst hj
    rw[upd_same] at a1;cases a1
    simp only[g',G.block,Option.some.injEq] at a2
    subst a2
    exact afE.2 off hm
   ·rw[hother j hj] at a1;exact h2.apart j gj B' off a1 a2 hm
  ·refine E.M.stable w w' h2.inv (fun k hk=>hsame k (Nat.lt_of_lt_of_le hk h2.big) (fun c0 q=>?_))
   have:=h2.low b _ k q rfl
   exact absurd hk (Nat.not_lt.2 this)
  ·by_cases hj:j=b
   ·subst hj
    rw[upd_same] at a1;cases a1
    simp only[g',G.block,Option.some.injEq] at a2
    subst a2
    exact afE.1
   ·rw[hother j hj] at a1;exact h2.low j gj B' a1 a2
 refine⟨_,w',hrun,fun dst hdst=>⟨upd γ b (some g'),h1,hst,?_,by rw[gW];exact h4,?_,?_⟩⟩
 ·refine⟨e1.trans h3.os,e2.trans h3.tape,e3.trans h3.output,Nat.le_trans h3.size e4,fun B' off u hm hu=>?_,fun B' off hm hlt=>?_,fun j gj hg=>?_,fun B' hlt hno=>?_,fun j gj B' hg hB' hlt=>?_⟩
  ·refine hcell B' off u (fun hm'=>hm (h3.wr B' off hm' (cell_lt hu))) (h3.cell B' off u hm hu)
  ·exact h3.wr B' off (hMw B' off hm (Nat.lt_of_lt_of_le hlt h3.size)) hlt
  ·have hj:j≠b:=fun e=>by rw[e,aiU] at hg;cases hg
   obtain⟨g1,q1,q2⟩:=h3.names j gj hg
   exact⟨g1,(hother j hj).trans q1,q2⟩
  ·refine (hsame B' (Nat.lt_of_lt_of_le hlt h3.size) (fun c0 q=>?_)).trans (h3.block B' hlt hno)
   obtain⟨b',g1,q1,q2⟩:=h3.old b _ B' q rfl hlt
   exact hno b' g1 q1 q2
  ·obtain⟨g1,q1,q2⟩:=hback j gj B' hg hB' (Nat.lt_of_lt_of_le hlt h3.size)
   exact h3.old j g1 B' q1 q2 hlt
 ·rw[put_defers]
  obtain⟨Ds,d1,d2,d3⟩:=h5
  refine⟨Ds,d1,d2,fun D hD=>?_⟩
  obtain⟨q1,q2,q3⟩:=d3 D hD
  have hlt:D<w.heap.size:=(Array.getElem?_eq_some_iff.1 q2).1
  refine⟨q1,(hsame D hlt (fun c0 q=>q3 b _ q rfl)).trans q2,fun j gj hg hBj=>?_⟩
  obtain⟨g1,r1,r2⟩:=hback j gj D hg hBj hlt
  exact q3 j g1 r1 r2
 ·refine jR (by rw[h4];exact hdst) (.arr (upd_same _ _ _) hcap) (fun k=>?_)
  rcases hF k with q | ⟨q1,q2⟩
  ·rw[q];exact .junk _
  ·rw[q1];exact move (h6 k) q2
end
def ak4 (P:gy)(ent:List Nat)(t:TypeId)(x y:Operand)(st:St)(K:St→D→Prop):Prop:=
 ∃e sz by' b n cs sz' nl es' aS F',bV P.prog t=some (e,sz,by')∧g_ P.prog e=true∧Dv (lk st.σ) b e sz cs n (bQ st.get x)∧bQ st.get y= .slice sz' nl es' aS∧es'≠[]∧sz'=sz∧e<1000000∧
  n+es'.length≤9223372036854775807∧(n+es'.length) * by'≤140737488355328∧b ∉ ent∧(∀d∈cs,cZ (fun i=>i≠b) d)∧(∀x∈es',∀d∈x,cZ (fun i=>i≠b) d)∧
  (∀i blk,i≠b→lk st.σ i=some blk→aA (fun i=>i≠b) blk)∧(∀p∈F',st.get p.1=p.2∧cZ (fun i=>i≠b) p.2)∧
  K ⟨F',(b,.arr e (cs++es'.flatten))::dl st.σ b⟩ (.arr b sz (n+es'.length))
section
variable {P:gy} {ent:List Nat} {N:Nat} {Q:Exit→St→Prop} {st:St}
theorem WP.U9 {id:Nat}{ops:Array Oper}(n:Nat){o:Oper}{os2:List Oper}{x y:Operand}{t:TypeId}(hd:dX N ops=true)(hos:ops.toList.drop n=o::os2)(hg:o.guard=none)
  (hop:o.op= .call { callee:= .builtin .append,args:=#[x,y],argTypes:=#[t,t] })
  (h:∀K:St→List bP→Prop,(∀st' rs,ak4 P ent t x y st' (fun s d=>∀K2:St→List bP→Prop,(∀s' r,Q .normal s'→K2 s' r)→ah P ops os2 (s.put o.dst d) [] K2)→K st' rs)→ah P ops (ops.toList.take n) st [] K):
  WP P ent N (.region id ops false) Q st:=by
 intro Fe nf hF E a w hr
 have hlt:n<ops.toList.length:=by
  rcases Nat.lt_or_ge n ops.toList.length with h|h
  ·exact h
  ·rw[List.drop_eq_nil_of_le h] at hos;cases hos
 have htk:(ops.toList.take n).length=n:=by rw[List.length_take];omega
 refine uq hF.1 hd (ops.toList.take n) (o::os2) (by rw[← hos,List.take_append_drop]) h hr ?_
 rintro st' a' w' ⟨e,sz,by',b,m,cs,sz',nl,es',aS,F',q1,q2,q3,q4,q5,q6,q0,q7,q8,q9,q10,q11,q12,q13,hk⟩ hr' hkeep
 rw[htk]
 have hko:ops[n]?=some o:=by
  have:(ops.toList.drop n)[0]?=some o:=by rw[hos];rfl
  simpa [List.getElem?_drop] using this
 rw[List.length_cons,List.range'_succ]
 obtain⟨v,w2,hrun,hrel⟩:=Rel.U9 hr' o.type q1 q2 q3 q4 q5 q6 q0 q7 q8 q9 q10 q11 q12 (F':=(⟨F',[]⟩:St).get) (fun k=>by
  show (lk F' k).getD .junk=_∨_
  cases hl:lk F' k with
  |none=>exact .inl rfl
  |some d=>
   obtain⟨r1,r2⟩:=q13 _ (iZ _ _ _ hl)
   dsimp only at r1 r2
   refine .inr ⟨?_,by rw[r1];exact r2⟩
   show (lk F' k).getD .junk=_
   rw[hl,r1];rfl)
 refine nS hko hg ⟨fun f _=>hF.1.fn f,?_⟩
 rw[Oper.semAt_plain Fe _ _ (by rw[hop];intro c hc;cases hc)]
 have hex:(execOp a'.eval o).run P.prog w'= .ok (.value v) w2:=by
  simpa only[execOp,hop,resolve,invoke,builtin,Sem.run_bind,Sem.run_pure,Result.andThen_ok,List.map_toArray,List.map_cons,List.map_nil] using (by rw[hrun];rfl:((Builtin.append_ #[t,t] o.type #[a'.eval x,a'.eval y]).run P.prog w').andThen _=_)
 rw[hex]
 show wpOpsIn _ _ _ _ _ _ _ _
 have hr2:=hrel o.dst (dH hd (Array.mem_of_getElem? hko))
 refine Iz hF.1 hd (n+1) os2 (by rw[List.drop_add_one_eq_tail_drop,hos];rfl) (Q:=fun st'=>Q .normal st') hk (st:=(⟨F',(b,.arr e (cs++es'.flatten))::dl st'.σ b⟩:St).put o.dst (.arr b sz (m+es'.length))) ?_ (fun st' a' w' hq hr' _=>⟨st',hq,hr'⟩)
 rw[get_put,put_σ]
 have hσ:lk (((b,aU.arr e (cs++es'.flatten))::dl st'.σ b))=upd (lk st'.σ) b (some (.arr e (cs++es'.flatten))):=by
  funext k
  rw[zB];rfl
 rw[hσ]
 exact hr2
end
end Go.Id
namespace Go.Id
open Go
theorem mW {α:Type}:∀(l k:List (Nat × α)) (b:Nat),lk (l++k) b=match lk l b with|some x=>some x|none=>lk k b
 | [],k,b=>rfl
 |(i,v)::l,k,b=>by
  simp only[List.cons_append,lk]
  by_cases h:b=i
  ·simp[h]
  ·simp only[if_neg h];exact mW l k b
theorem aG.frame {P:gy}{k:FuncId}{args:List D}{ins outs:List (Nat × aU)}{val:D}(rest:List (Nat × aU))(h:aG P k args ins val outs)
  (hin:∀b blk,lk ins b=some blk→aA (fun i=>(lk ins i).isSome=true) blk) (hio:∀b,(lk ins b).isSome=true→(lk outs b).isSome=true)
  (hout:∀b,(lk outs b).isSome=true→(lk ins b).isSome=true∨lk rest b=none) (hcl:∀d∈args,cZ (fun i=>(lk ins i).isSome=true) d):aG P k args (ins++rest) val (outs++rest):=by
 refine⟨h.1,fun M γ w vs hst hl hr=>?_⟩
 have e:after (lk (ins++rest)) ins outs=lk (outs++rest):=by
  funext b
  simp only[after,mW]
  cases hq:lk outs b with
  |some x=>rfl
  |none=>
   cases hi:lk ins b with
   |none=>rfl
   |some y=>have:=hio b (by simp[hi]);rw[hq] at this;cases this
 have:=h.use hst (fun b blk hb=>⟨by rw[mW,hb],hin b blk hb⟩) (fun b hb=>by
  cases hi:lk ins b with
  |some y=>exact .inl rfl
  |none=>
   rcases hout b hb with q|q
   ·rw[hi] at q;cases q
   ·exact .inr (by rw[mW,hi];exact q)) vs hl hr hcl
 rw[e] at this
 exact this
end Go.Id
