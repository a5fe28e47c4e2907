import Derived.Calls
import Derived.Orders
import Derived.Below
import Derived.Laws.AppendOwn
import Derived.KernelRfl
import Derived.Lib.AppendStr
import Derived.Laws.Strings
import Derived.Laws.StructEq
import Derived.MapKept
set_option linter.unusedVariables false
set_option linter.unusedSimpArgs false
set_option linter.unnecessarySimpa false
namespace Go.Id
open Go
inductive D where
 |junk
 |bool (b:Bool)
 |int (k:IntKind) (n:Int)
 |str (s:List UInt8)
 |slice (sz:Nat) (nil:Bool) (es:List (List D)) (aS:Option Nat)
 |arr (b sz n:Nat)
 |view (b off sz n:Nat)
 |ref (b off:Nat)
 |dQ (cs:List D)
 |aP
 |fn (f:Fn) (first cap:List D)
 |dD
 |agg (cs:List D)
 |aJ (vs:List D)
 |iface (t:TypeId) (v:D)
 |aI
 |val (v:Value)
 |bG
 |map (b:Nat)
 deriving Inhabited
inductive G where
 |box (B:Nat)
 |arr (B cap z:Nat)
 |aS (sz:Nat) (e:TypeId) (v:Value) (n:Nat)
 |iter (B:Nat)
def G.block:G→Option Nat
 | .box B | .arr B _ _ | .iter B=>some B
 | .aS _ _ v _=>v.ownBlock
def G.wr:G→Nat→Nat→Prop
 | .box B,b,_ | .arr B _ _,b,_ | .iter B,b,_=>b=B
 | .aS sz _ v n,b,off=>v.ownBlock=some b∧n * sz≤off
def iK (γ:Nat→Option G)(aS:Option Nat)(n:Nat)(v:Value):Prop:=
 ∀t,aS=some t→∃sz e v' n',γ t=some (.aS sz e v' n')∧n≤n'∧(n=n'→v=v')
inductive Rep (M:Nat→Nat→Prop) (γ:Nat→Option G) (w:World):D→Value→Prop
 |junk (v:Value):Rep M γ w .junk v
 |bool (b:Bool):Rep M γ w (.bool b) (.bool b)
 |int (k:IntKind) (n:Int):Rep M γ w (.int k n) (.int k n)
 |str (s:ByteArray):Rep M γ w (.str s.data.toList) (.string s)
 |nilslice {sz:Nat} {aS:Option Nat} (h:iK γ aS 0 (.slice none 0 0)):Rep M γ w (.slice sz true [] aS) (.slice none 0 0)
 | slice {sz:Nat} {es:List (List D)} {aS:Option Nat} {a:Addr} {cap:Nat} (vs:List Value)
   (hsz:∀e∈es,e.length=sz) (hvs:vs.length=es.length * sz) (hspot:es≠[]→a.spot=none)
   (hc:∀j v,vs[j]?=some v→w.cell? ⟨a.block,a.off+j,none⟩=some v∧¬M a.block (a.off+j)∧v.oneCell'=true)
   (hr:∀i j e d v,es[i]?=some e→e[j]?=some d→vs[i * sz+j]?=some v→Rep M γ w d v)
   (hcap:es.length≤cap)
   (ht:iK γ aS es.length (.slice (some a) es.length cap)):
   Rep M γ w (.slice sz false es aS) (.slice (some a) es.length cap)
 |arr {b B sz n cap:Nat} (h:γ b=some (.arr B cap sz)) (hn:n≤cap):Rep M γ w (.arr b sz n) (.slice (some ⟨B,0,none⟩) n cap)
 |view {b B off sz n cap c:Nat} {a:Addr} (h:γ b=some (.arr B cap sz)) (ha:n=0∨a=⟨B,off,none⟩) (hn:off+n * sz≤cap * sz):Rep M γ w (.view b off sz n) (.slice (some a) n c)
 |ref {b B off:Nat} (h:γ b=some (.box B)∨(∃cap z,γ b=some (.arr B cap z))∨γ b=some (.iter B)):Rep M γ w (.ref b off) (.pointer (some ⟨B,off,none⟩))
 | dQ {cs:List D} {a:Addr} (vs:List Value) (hvs:vs.length=cs.length) (hspot:a.spot=none)
   (hc:∀j v,vs[j]?=some v→w.cell? ⟨a.block,a.off+j,none⟩=some v∧¬M a.block (a.off+j)∧v.oneCell'=true)
   (hr:∀(j:Nat) d v,cs[j]?=some d→vs[j]?=some v→Rep M γ w d v):Rep M γ w (.dQ cs) (.pointer (some a))
 |aP:Rep M γ w .aP (.pointer none)
 | fn {f:Fn} {first cap:List D} {first' cap':Array Value} (hf:first'.size=first.length) (hk:cap'.size=cap.length)
   (h1:∀(i:Nat) d v,first[i]?=some d→first'[i]?=some v→Rep M γ w d v)
   (h2:∀(i:Nat) d v,cap[i]?=some d→cap'[i]?=some v→Rep M γ w d v):Rep M γ w (.fn f first cap) (.func f first' cap')
 |dD:Rep M γ w .dD .nilFunc
 | agg {cs:List D} {vs:Array Value} (hl:vs.size=cs.length) (h1:∀(i:Nat) v,vs[i]?=some v→v.oneCell'=true)
   (hr:∀(i:Nat) d v,cs[i]?=some d→vs[i]?=some v→Rep M γ w d v):Rep M γ w (.agg cs) (.agg vs)
 | aJ {cs:List D} {vs:Array Value} (hl:vs.size=cs.length)
   (hr:∀(i:Nat) d v,cs[i]?=some d→vs[i]?=some v→Rep M γ w d v):Rep M γ w (.aJ cs) (.tuple vs)
 |iface {t:TypeId} {d:D} {v:Value} (h:Rep M γ w d v):Rep M γ w (.iface t d) (.iface t v)
 |aI:Rep M γ w .aI .nilIface
 |val (v:Value):Rep M γ w (.val v) v
 |bG:Rep M γ w .bG (.map none)
 |map {b B:Nat} (h:γ b=some (.box B)):Rep M γ w (.map b) (.map (some B))
def G.le:G→G→Prop
 | .box B,g=>g= .box B
 | .arr B cap z,g=>g= .arr B cap z
 | .iter B,g=>g= .iter B
 | .aS sz e v n,g=>∃v' n',g= .aS sz e v' n'∧n≤n'∧(n=n'→v=v')
theorem G.le_refl (g:G):g.le g:=by
 cases g with
 |aS sz e v n=>exact⟨v,n,rfl,Nat.le_refl _,fun _=>rfl⟩
 | _=>simp[G.le]
theorem G.le_trans {a b c:G}(h:a.le b)(h':b.le c):a.le c:=by
 cases a with
 |box B=>simp only[G.le] at h;subst h;exact h'
 |arr B cap z=>simp only[G.le] at h;subst h;exact h'
 |iter B=>simp only[G.le] at h;subst h;exact h'
 |aS sz e v n=>
  obtain⟨v',n',rfl,h1,h2⟩:=h
  obtain⟨v'',n'',rfl,h3,h4⟩:=h'
  refine⟨v'',n'',rfl,Nat.le_trans h1 h3,fun e=>?_⟩
  subst e
  obtain rfl:n=n':=Nat.le_antisymm h1 h3
  rw[h2 rfl,h4 rfl]
structure aQ (M:Nat→Nat→Prop) (γ:Nat→Option G) (w:World) (M':Nat→Nat→Prop) (γ':Nat→Option G) (w':World):Prop where
 os:w'.os=w.os
 tape:w'.tape=w.tape
 output:w'.output=w.output
 size:w.heap.size≤w'.heap.size
 cell:∀B off v,¬M B off→w.cell? ⟨B,off,none⟩=some v→w'.cell? ⟨B,off,none⟩=some v
 wr:∀B off,M' B off→B<w.heap.size→M B off
 names:∀b g,γ b=some g→∃g',γ' b=some g'∧g.le g'
 block:∀B,B<w.heap.size→(∀b g,γ b=some g→g.block≠some B)→w'.heap[B]?=w.heap[B]?
 old:∀b g B,γ' b=some g→g.block=some B→B<w.heap.size→∃b' g',γ b'=some g'∧g'.block=some B
theorem aQ.refl (M:Nat→Nat→Prop)(γ:Nat→Option G)(w:World):aQ M γ w M γ w:=
 ⟨rfl,rfl,rfl,Nat.le_refl _,fun _ _ _ _ h=>h,fun _ _ h _=>h,fun _ g h=>⟨g,h,G.le_refl g⟩,fun _ _ _=>rfl,fun b g _ h h' _=>⟨b,g,h,h'⟩⟩
theorem cell_lt {w:World}{B off:Nat}{v:Value}(h:w.cell? ⟨B,off,none⟩=some v):B<w.heap.size:=World.block_lt_of_cell? w _ h
theorem aQ.trans {M₁ M₂ M₃:Nat→Nat→Prop}{γ₁ γ₂ γ₃:Nat→Option G}{w₁ w₂ w₃:World}(h:aQ M₁ γ₁ w₁ M₂ γ₂ w₂)(k:aQ M₂ γ₂ w₂ M₃ γ₃ w₃):
  aQ M₁ γ₁ w₁ M₃ γ₃ w₃ where
 os:=k.os.trans h.os
 tape:=k.tape.trans h.tape
 output:=k.output.trans h.output
 size:=Nat.le_trans h.size k.size
 cell B off v hm hv:=k.cell B off v (fun h2=>hm (h.wr B off h2 (cell_lt hv))) (h.cell B off v hm hv)
 wr B off hm hb:=h.wr B off (k.wr B off hm (Nat.lt_of_lt_of_le hb h.size)) hb
 names b g hg:=by
  obtain⟨g',h1,h2⟩:=h.names b g hg
  obtain⟨g'',h3,h4⟩:=k.names b g' h1
  exact⟨g'',h3,G.le_trans h2 h4⟩
 block B hB hm:=(k.block B (Nat.lt_of_lt_of_le hB h.size) (fun b g hg hb=>by
  obtain⟨b',g',h1,h2⟩:=h.old b g B hg hb hB
  exact hm b' g' h1 h2)).trans (h.block B hB hm)
 old b g B hg hb hB:=by
  obtain⟨b',g',h1,h2⟩:=k.old b g B hg hb (Nat.lt_of_lt_of_le hB h.size)
  exact h.old b' g' B h1 h2 hB
theorem iK.bZ {γ γ':Nat→Option G}(h:∀b g,γ b=some g→∃g',γ' b=some g'∧g.le g'){aS:Option Nat}{n:Nat}{v:Value}(ht:iK γ aS n v):iK γ' aS n v:=by
 intro t e
 obtain⟨sz,el,v',n',h1,h2,h3⟩:=ht t e
 obtain⟨g',h4,v'',n'',rfl,h5,h6⟩:=h t _ h1
 refine⟨sz,el,v'',n'',h4,Nat.le_trans h2 h5,fun e=>?_⟩
 subst e
 obtain rfl:n=n':=Nat.le_antisymm h2 h5
 rw[h3 rfl,h6 rfl]
theorem iK.none (γ:Nat→Option G)(n:Nat)(v:Value):iK γ none n v:=fun _ h=>by cases h
structure Evo (M:Nat→Nat→Prop) (γ:Nat→Option G) (w:World) (M':Nat→Nat→Prop) (γ':Nat→Option G) (w':World):Prop where
 cell:∀B off v,¬M B off→w.cell? ⟨B,off,none⟩=some v→w'.cell? ⟨B,off,none⟩=some v
 wr:∀B off,M' B off→B<w.heap.size→M B off
 names:∀b g,γ b=some g→∃g',γ' b=some g'∧g.le g'
theorem aQ.Lc {M M':Nat→Nat→Prop}{γ γ':Nat→Option G}{w w':World}(h:aQ M γ w M' γ' w'):Evo M γ w M' γ' w':=⟨h.cell,h.wr,h.names⟩
theorem Rep.Lc {M M':Nat→Nat→Prop}{γ γ':Nat→Option G}{w w':World}(h:Evo M γ w M' γ' w'){d:D}{v:Value}(hr:Rep M γ w d v):Rep M' γ' w' d v:=by
 have keep:∀B off v,w.cell? ⟨B,off,none⟩=some v∧¬M B off∧v.oneCell'=true→w'.cell? ⟨B,off,none⟩=some v∧¬M' B off∧v.oneCell'=true:=
  fun B off v ⟨h1,h2,h3⟩=>⟨h.cell B off v h2 h1,fun h4=>h2 (h.wr B off h4 (cell_lt h1)),h3⟩
 induction hr with
 |junk v=>exact .junk v
 |bool b=>exact .bool b
 |int k n=>exact .int k n
 |str s=>exact .str s
 |nilslice ht=>exact .nilslice (ht.bZ h.names)
 |slice vs hsz hvs hspot hc _ hcap ht ih=>exact .slice vs hsz hvs hspot (fun j v hv=>keep _ _ _ (hc j v hv)) ih hcap (ht.bZ h.names)
 |arr hb hn=>
  obtain⟨g',h1,h2⟩:=h.names _ _ hb
  simp only[G.le] at h2;subst h2
  exact .arr h1 hn
 |view hb ha hn=>
  obtain⟨g',h1,h2⟩:=h.names _ _ hb
  simp only[G.le] at h2;subst h2
  exact .view h1 ha hn
 |ref hb=>
  rcases hb with hb | ⟨cap,z,hb⟩|hb
  ·obtain⟨g',h1,h2⟩:=h.names _ _ hb
   simp only[G.le] at h2;subst h2
   exact .ref (.inl h1)
  ·obtain⟨g',h1,h2⟩:=h.names _ _ hb
   simp only[G.le] at h2;subst h2
   exact .ref (.inr (.inl ⟨_,_,h1⟩))
  ·obtain⟨g',h1,h2⟩:=h.names _ _ hb
   simp only[G.le] at h2;subst h2
   exact .ref (.inr (.inr h1))
 |dQ vs hvs hspot hc _ ih=>exact .dQ vs hvs hspot (fun j v hv=>keep _ _ _ (hc j v hv)) ih
 |aP=>exact .aP
 |fn hf hk _ _ ih1 ih2=>exact .fn hf hk ih1 ih2
 |dD=>exact .dD
 |agg hl h1 _ ih=>exact .agg hl h1 ih
 |aJ hl _ ih=>exact .aJ hl ih
 |iface _ ih=>exact .iface ih
 |aI=>exact .aI
 |val v=>exact .val v
 |bG=>exact .bG
 |map hb=>
  obtain⟨g',h1,h2⟩:=h.names _ _ hb
  simp only[G.le] at h2;subst h2
  exact .map h1
theorem Rep.bZ {M M':Nat→Nat→Prop}{γ γ':Nat→Option G}{w w':World}(h:aQ M γ w M' γ' w'){d:D}{v:Value}(hr:Rep M γ w d v):Rep M' γ' w' d v:=hr.Lc h.Lc
end Go.Id
namespace Go.Id
open Go
inductive aU where
 |box (t:TypeId) (cs:List D)
 |arr (e:TypeId) (cs:List D)
 |aS (e:TypeId) (sz n:Nat)
 |dead
 |iter (s:List UInt8) (pos:Nat)
 |map (es:List (List UInt8 × D × Nat)) (clock:Nat)
 |dS (m since:Nat) (seen:List Nat) (last:Nat)
 deriving Inhabited
def lk {α:Type}:List (Nat × α)→Nat→Option α
 | [],_=>none
 |(k,v)::l,i=>if i=k then some v else lk l i
def dl {α:Type}:List (Nat × α)→Nat→List (Nat × α)
 | [],_=>[]
 |(k,v)::l,i=>if i=k then dl l i else (k,v)::dl l i
def ins:Nat→List Nat→Bool
 | _,[]=>false
 |k,a::l=>if k=a then true else ins k l
def keep {α:Type}(ks:List Nat):List (Nat × α)→List (Nat × α)
 | []=>[]
 |(k,v)::l=>if ins k ks=true then (k,v)::keep ks l else keep ks l
def fresh {α:Type}:List (Nat × α)→Nat
 | []=>0
 |(k,_)::l=>max (k+1) (fresh l)
structure St where
 F:List (Nat × D)
 σ:List (Nat × aU)
def St.get (st:St)(t:Nat):D:=(lk st.F t).getD .junk
def St.put (st:St)(dst:Option Tmp)(d:D):St:=
 match dst with
 |some t=>{ st with F:=(t,d)::dl st.F t }
 |none=>st
def xK:Value→D
 | .bool b=> .bool b
 | .int k n=> .int k n
 | .string s=> .str s.data.toList
 | .pointer none=> .aP
 | .slice none 0 0=> .slice 0 true [] none
 | .map none=> .bG
 | .nilFunc=> .dD
 | .nilIface=> .aI
 | _=> .junk
def jv:Value→D
 | .agg cs=>if cs.all (·.oneCell') then .agg (cs.toList.map xK) else .junk
 | .tuple _=> .junk
 |v=>xK v
def bQ (F:Nat→D):Operand→D
 | .tmp t=>F t
 | .const v=>jv v
 | .global _=> .junk
 | .func f=> .fn (.func f) [] []
def cells?:D→Option (List D)
 | .junk | .aJ _ | .val _=>none
 | .agg cs=>some cs
 |d=>some [d]
section
variable (P:Program)
def bV (t:TypeId):Option (TypeId × Nat × Nat):=
 match P.underlying t with
 |some (.slice e)=>(P.info? e).map fun i=>(e,i.size,i.bytes)
 | _=>none
def Ll (t:TypeId):Option (Nat × Nat):=
 match P.underlying t with
 |some (.array n e)=>(P.info? e).map fun i=>(n,i.size)
 | _=>none
def ZQ (t:TypeId):Option Nat:=
 match P.underlying t with
 |some (.array n e)=>(P.info? e).bind fun i=>match P.underlying e with
  |some (.struct _)|some (.array _ _)=>none
  |some _=>if i.size=1 then some n else none
  |none=>none
 | _=>none
def gV (t:TypeId):Option (List D):=
 match (P.info? t).map (·.zero) with
 |some (some v)=>cells? (jv v)
 | _=>none
def rY (t:TypeId):Option Nat:=(P.info? t).map (·.size)
def jw (t:TypeId):Option Bool:=
 match P.underlying t with
 |some (.struct _)|some (.array _ _)=>some true
 |some _=>some false
 |none=>none
def dV (s:TypeId)(f:Nat):Option (Nat × Nat):=
 match P.underlying s with
 |some (.struct fs)=>(fs[f]?).bind fun fl=>(P.info? fl.type).map fun i=>(fl.offset,i.size)
 | _=>none
def mapD (t:TypeId):Option TypeId:=
 match P.underlying t with
 |some (.map k e)=>if P.underlying k matches some .string then some e else none
 | _=>none
def jJ (t:TypeId):Option IntKind:=
 match P.underlying t with
 |some (.int k)=>some k
 | _=>none
def Ei (t:TypeId):Bool:=
 match P.underlying t with
 |some (.interface _)=>false
 |some _=>true
 |none=>false
def eH (t:TypeId):Bool:=
 match P.underlying t with
 |some (.struct fs)=>fs.all fun f=>(P.info? f.type).isSome
 | _=>false
def isStr (t:TypeId):Bool:=P.underlying t matches some .string
end
inductive CK where
 |b|i|s
def QT (P:Program)(t:TypeId):Option CK:=
 match P.underlying t with
 |some .bool=>some .b
 |some (.int _)=>some .i
 |some .string=>some .s
 | _=>none
def ZR (P:Program):Nat→List Field→Option (List CK)
 | _,[]=>some []
 |i,f::fs=>if f.offset=i∧f.name≠ "_" then (QT P f.type).bind fun k=>(ZR P (i+1) fs).map (k::·) else none
def LZ (P:Program):Nat→List Field→Option (List CK)
 | _,[]=>some []
 | i,f::fs=>if f.offset=i∧f.name≠ "_" then
   match QT P f.type with
   |some k=>(LZ P (i+1) fs).map (k::·)
   |none=>match P.underlying f.type with
    |some (.struct gs)=>if P.stoodInHeld f.type=true then none else (ZR P 0 gs.toList).bind fun ks=>if rY P f.type=some ks.length then (LZ P (i+ks.length) fs).map (ks++·) else none
    | _=>none
  else none
def CX (P:Program)(t:TypeId):Option (List CK):=
 match P.underlying t with
 |some (.struct fs)=>if P.stoodInHeld t=true∨P.eqGuardType P.depth t=true then none else LZ P 0 fs.toList
 | _=>none
structure Eff where
 side:Prop
 val:D
 zA:List Nat
 ws:List (Nat × aU)
def aH (d:D):Eff:=⟨True,d,[],[]⟩
def rZ (agg:Bool)(sz:Nat)(cs:List D):Option D:=
 if agg then (if sz≤cs.length then some (.agg (cs.take sz)) else none) else cs.head?
def Ia:D→Option Nat
 | .int _ n=>if 0≤n then some n.toNat else none
 | _=>none
def jP (df:Nat):Option D→Option Nat
 |none=>some df
 |some d=>Ia d
def iy (s:List UInt8)(pos:Nat):Nat × Nat:=Utf8.decode ⟨s.toArray⟩ pos
def kS (sz:Nat)(x:D)(lo hi:Option D):Option D:=
 match x with
 | .str s=>
  (jP 0 lo).bind fun l=>
  (jP s.length hi).bind fun h=>
  if l≤h∧h≤s.length then some (.str ((s.take h).drop l)) else none
 | .slice z nil es aS=>
  (jP 0 lo).bind fun l=>
  (jP es.length hi).bind fun h=>
  if l≤h∧h≤es.length∧(nil=true∨z=sz) then some (.slice z nil ((es.take h).drop l) (if l=0∧h=es.length then aS else none)) else none
 | .arr b z m=>
  (jP 0 lo).bind fun l=>
  (jP m hi).bind fun h=>
  if l≤h∧h≤m∧z=sz then some (if l=0 then .arr b z h else .view b (l * z) z (h - l)) else none
 | _=>none
def intD (op:BinOp)(k:IntKind)(a b:Int):Option D:=
 match op with
 | .add=>some (.int k (k.wrap (a+b)))
 | .sub=>some (.int k (k.wrap (a - b)))
 | .mul=>some (.int k (k.wrap (a * b)))
 | .quo=>if b=0 then none else some (.int k (k.wrap (a.tdiv b)))
 | .rem=>if b=0 then none else some (.int k (a.tmod b))
 | .and=>some (.int k (k.wrap (BitVec.ofInt k.bits a &&& BitVec.ofInt k.bits b).toNat))
 | .or=>some (.int k (k.wrap (BitVec.ofInt k.bits a ||| BitVec.ofInt k.bits b).toNat))
 | .xor=>some (.int k (k.wrap (BitVec.ofInt k.bits a ^^^ BitVec.ofInt k.bits b).toNat))
 | .andNot=>some (.int k (k.wrap (BitVec.ofInt k.bits a &&& ~~~BitVec.ofInt k.bits b).toNat))
 | .eql=>some (.bool (a == b))
 | .neq=>some (.bool (a != b))
 | .lss=>some (.bool (decide (a<b)))
 | .leq=>some (.bool (decide (a≤b)))
 | .gtr=>some (.bool (decide (a>b)))
 | .geq=>some (.bool (decide (a≥b)))
 | _=>none
def strD (op:BinOp)(a b:List UInt8):Option Eff:=
 match op with
 | .add=>some ⟨a.length+b.length≤9223372036854775807,.str (a++b),[],[]⟩
 | .eql=>some (aH (.bool (a == b)))
 | .neq=>some (aH (.bool (!(a == b))))
 | .lss=>some (aH (.bool (Op.bytesLess a b)))
 | .leq=>some (aH (.bool (Op.bytesLess a b || a == b)))
 | .gtr=>some (aH (.bool (!(Op.bytesLess a b || a == b))))
 | .geq=>some (aH (.bool (!(Op.bytesLess a b))))
 | _=>none
def bY:List CK→List D→List D→Option Bool
 | [],[],[]=>some true
 | .b::ks,.bool a::x,.bool b::y=>(bY ks x y).map fun r=>(a == b) && r
 | .i::ks,.int k a::x,.int k' b::y=>if k=k' then (bY ks x y).map fun r=>(a == b) && r else none
 | .s::ks,.str a::x,.str b::y=>(bY ks x y).map fun r=>(a == b) && r
 | _,_,_=>none
def qJ (P:Program)(t:TypeId):Nat:=
 match P.underlying t with
 |some (.slice _)=>1
 |some (.pointer _)=>2
 |some (.func _ _ _)=>3
 |some (.interface _)=>4
 |some .bool=>5
 |some (.map _ _)=>6
 | _=>0
def eqNil (k:Nat)(c:Bool):D→D→Option Bool
 | .slice _ n _ _,.slice _ m _ _=>if k=1∧(n=true∨m=true) then some (n && m) else none
 | .aP,.aP=>if k=2 then some true else none
 | .aP,.ref ..=>if k=2 then some false else none
 | .aP,.dQ _=>if k=2 then some false else none
 | .ref ..,.aP=>if k=2 then some false else none
 | .dQ _,.aP=>if k=2 then some false else none
 | .dD,.dD=>if k=3 then some true else none
 | .dD,.fn ..=>if k=3 then some false else none
 | .fn ..,.dD=>if k=3 then some false else none
 | .aI,.aI=>if k=4∧c=true then some true else none
 | .aI,.iface ..=>if k=4 then some false else none
 | .iface ..,.aI=>if k=4 then some false else none
 | .bool a,.bool b=>if k=5 then some (a == b) else none
 | .bG,.bG=>if k=6 then some true else none
 | .bG,.map _=>if k=6 then some false else none
 | .map _,.bG=>if k=6 then some false else none
 | _,_=>none
def iU:Operand→Bool
 | .const _=>true
 | _=>false
def isEq:BinOp→Option Bool
 | .eql=>some true
 | .neq=>some false
 | _=>none
def dW (P:Program)(op:BinOp)(xt:TypeId)(c:Bool)(x y:D):Option Eff:=
 match op,x,y with
 | .shl,.int k a,.int _ b=>if 0≤b then some (aH (.int k (k.wrap (a * 2 ^ (min b.toNat k.bits))))) else none
 | .shr,.int k a,.int _ b=>if 0≤b then some (aH (.int k (a.fdiv (2 ^ (min b.toNat k.bits))))) else none
 |op,.int k a,.int k' b=>if k=k' then (intD op k a b).map aH else none
 |op,.str a,.str b=>strD op a b
 |op,.agg xs,.agg ys=>(CX P xt).bind fun ks=>(isEq op).bind fun e=>(bY ks xs ys).map fun r=>aH (.bool (if e then r else !r))
 |op,x,y=>(isEq op).bind fun e=>(eqNil (qJ P xt) c x y).map fun r=>aH (.bool (if e then r else !r))
def Ej (op:UnOp)(x:D):Option D:=
 match op,x with
 | .neg,.int k n=>some (.int k (k.wrap (0 - n)))
 | .xor,.int k n=>some (.int k (k.wrap (BitVec.ofInt k.bits (if k.signed then -1 else k.max) ^^^ BitVec.ofInt k.bits n).toNat))
 | .not,.bool b=>some (.bool !b)
 | _,_=>none
def byteOf?:List D→Option UInt8
 | [.int .u8 n]=>some (UInt8.ofNat n.toNat)
 | _=>none
def bytesOf?:List (List D)→Option (List UInt8)
 | []=>some []
 |e::es=>(byteOf? e).bind fun b=>(bytesOf? es).map (b::·)
def Ib (P:Program)(src dst:TypeId)(x:D):Option D:=
 match x with
 | .int _ n=>if (jJ P src).isSome=true then (jJ P dst).map fun k=> .int k (k.wrap n) else none
 | .str s=>if isStr P dst∧isStr P src then some (.str s) else none
 | .slice 1 _ es _=>if isStr P dst∧(bV P src).bind (fun e=>jJ P e.1)=some .u8 then (bytesOf? es).map .str else none
 | _=>none
def eY (s:List UInt8):List (List D):=s.map fun b=>[.int .u8 b.toNat]
def fM (P:Program)(t:TypeId):Bool:=(bV P t).isSome
def lenD (P:Program)(t:TypeId):D→Option D
 | .str s=>if isStr P t=true then some (.int .i64 s.length) else none
 | .slice _ _ es _=>if fM P t=true then some (.int .i64 es.length) else none
 | .arr _ _ n=>if fM P t=true then some (.int .i64 n) else none
 | _=>none
def g_ (P:Program)(e:TypeId):Bool:=
 match P.info? e with
 |some i=>match i.zero with
  |some z=>z.cells.size == i.size
  |none=>false
 |none=>false
def CY (P:Program)(σ:Nat→Option aU)(id:Nat)(ts:Array TypeId)(x y:D):Option Eff:=
 match (ts[0]?).bind (bV P),x,y with
 |some (e,sz,by'),.slice z0 nil es aS,.slice sz' _ es' _=>
  if sz=0∨g_ P e=false∨ts≠#[ts.getD 0 0,ts.getD 0 0]∨(¬es=[]∧z0≠sz)∨(¬es'=[]∧sz'≠sz) then none else
  match aS with
  |some t=>
   match σ t with
   |some (.aS e' z n)=>
    if e'=e∧z=sz∧n=es.length then
     some ⟨(es.length+es'.length) * by'≤140737488355328∧es.length+es'.length≤9223372036854775807,.slice sz (nil && es'.isEmpty) (es++es') (some t),[t],[(t,.aS e sz (es.length+es'.length))]⟩
    else none
   | _=>none
  | none=>if nil then
    (if es'=[] then some (aH (.slice sz true [] none)) else
     some ⟨es'.length * by'≤140737488355328∧es'.length≤9223372036854775807,.slice sz false es' (some id),[],[(id,.aS e sz es'.length)]⟩)
   else none
 | _,_,_=>none
def byteElem (P:Program)(e:TypeId):Bool:=
 match P.info? e with
 |some i=>(match i.zero with
  |some (.int .u8 0)=>i.size == 1
  | _=>false)
 |none=>false
def CZ (P:Program)(σ:Nat→Option aU)(id:Nat)(ts:Array TypeId)(x:D)(s:List UInt8):Option Eff:=
 match (ts[0]?).bind (bV P),x with
 |some (e,sz,by'),.slice z0 nil es aS=>
  if byteElem P e=false∨sz≠1∨isStr P (ts.getD 1 0)=false∨ts≠#[ts.getD 0 0,ts.getD 1 0]∨(¬es=[]∧z0≠1) then none else
  if s=[] then some (aH (.slice z0 nil es aS)) else
  match aS with
  |some t=>
   match σ t with
   |some (.aS e' z n)=>
    if e'=e∧z=1∧n=es.length then
     some ⟨(es.length+s.length) * by'≤140737488355328∧es.length+s.length≤9223372036854775807,.slice 1 false (es++eY s) (some t),[t],[(t,.aS e 1 (es.length+s.length))]⟩
    else none
   | _=>none
  |none=>if nil then some ⟨s.length * by'≤140737488355328∧s.length≤9223372036854775807,.slice 1 false (eY s) (some id),[],[(id,.aS e 1 s.length)]⟩ else none
 | _,_=>none
def OW (P:Program)(σ:Nat→Option aU)(id:Nat)(ts:Array TypeId)(x y:D):Option Eff:=
 match y with
 | .str s=>CZ P σ id ts x s
 |y=>CY P σ id ts x y
def C9 (σ:Nat→Option aU)(sz:Nat):D→Option Eff
 | .view b off z n=>if z=sz then (match σ b with
  |some (.arr e cs)=>some ⟨True,.junk,[b],[(b,.arr e (cs.take off))]⟩
  | _=>none) else none
 | .arr b z n=>if z=sz then (match σ b with
  |some (.arr e cs)=>some ⟨True,.junk,[b],[(b,.arr e [])]⟩
  | _=>none) else none
 | _=>none
def minD:D→D→Option D
 | .int k x,.int _ y=>some (.int k (if y<x then y else x))
 | _,_=>none
def maxD:D→D→Option D
 | .int k x,.int _ y=>some (.int k (if y>x then y else x))
 | _,_=>none
def jh (ρ:Operand→D)(sz:Nat):Nat→List (Nat × Operand)→Option (List (List D))
 | _,[]=>some []
 |i,(j,x)::ps=>if i=j then (cells? (ρ x)).bind fun cs=>if cs.length=sz then (jh ρ sz (i+1) ps).map (cs::·) else none else none
def pV (P:Program)(t:TypeId)(ρ:Operand→D):List (Nat × Operand)→List D→Option (List D)
 | [],cs=>some cs
 | (i,x)::ps,cs=>(dV P t i).bind fun (off,sz)=>(cells? (ρ x)).bind fun vs=>
   if vs.length=sz∧off+sz≤cs.length then pV P t ρ ps (cs.take off++vs++cs.drop (off+sz)) else none
def je:List (List UInt8 × D × Nat)→List UInt8→Option D
 | [],_=>none
 |(k,d,_)::es,s=>if s=k then some d else je es s
def OX:List (List UInt8 × D × Nat)→List UInt8→D→List (List UInt8 × D × Nat)
 | [],_,_=>[]
 |(k,d,n)::es,s,x=>if s=k then (k,x,n)::es else (k,d,n)::OX es s x
def GR (es:List (List UInt8 × D × Nat))(clock:Nat)(s:List UInt8)(x:D):List (List UInt8 × D × Nat):=
 match je es s with
 |some _=>OX es s x
 |none=>es++[(s,x,clock)]
def Ic (es:List (List UInt8 × D × Nat))(clock:Nat)(s:List UInt8):Nat:=
 match je es s with
 |some _=>clock
 |none=>clock+1
def C_:List (List UInt8 × D × Nat)→List UInt8→List (List UInt8 × D × Nat)
 | [],_=>[]
 |(k,d,n)::es,s=>if s=k then es else (k,d,n)::C_ es s
def zeroV (P:Program)(t:TypeId):Option D:=((P.info? t).bind (·.zero)).map jv
def dR (P:Program)(ρ:Operand→D)(σ:Nat→Option aU)(id:Nat)(o:Op):Option Eff:=
 match o with
 | .move x | .assign x=>some (aH (ρ x))
 | .pick c a b=>match ρ c with
  | .bool true=>some (aH (ρ a))
  | .bool false=>some (aH (ρ b))
  | _=>none
 | .alloc e=>(gV P e).map fun cs=>⟨True,.ref id 0,[],[(id,.box e cs)]⟩
 | .box e x=>(cells? (ρ x)).map fun cs=>⟨True,.ref id 0,[],[(id,.box e cs)]⟩
 | .build t parts=>if eH P t=true then (gV P t).bind fun z=>(pV P t ρ parts.toList z).map fun cs=>aH (.agg cs) else none
 | .buildSlice t len parts=>(bV P t).bind fun (e,sz,_)=>if len * sz≤16777216∧parts.size=len∧sz≠0∧g_ P e=true then (jh ρ sz 0 parts.toList).map fun es=>aH (.slice sz false es none) else none
 | .load t a=>(jw P t).bind fun g=>(rY P t).bind fun sz=>match ρ a with
  | .ref b off=>match σ b with
   |some (.box _ cs)|some (.arr _ cs)=>(rZ g sz (cs.drop off)).map fun d=>⟨True,d,[b],[]⟩
   | _=>none
  | .dQ cs=>(rZ g sz cs).map aH
  | _=>none
 | .store t a x=>(rY P t).bind fun sz=>(cells? (ρ x)).bind fun vs=>match ρ a with
  | .ref b off=>match σ b with
   |some (.box t' cs)=>if vs.length=sz∧off+sz≤cs.length then some ⟨True,.junk,[b],[(b,.box t' (cs.take off++vs++cs.drop (off+sz)))]⟩ else none
   |some (.arr z cs)=>if vs.length=sz∧off+sz≤cs.length then some ⟨True,.junk,[b],[(b,.arr z (cs.take off++vs++cs.drop (off+sz)))]⟩ else none
   | _=>none
  | _=>none
 | .nilCheck x=>match ρ x with
  | .ref b off=>some (aH (.ref b off))
  | .dQ cs=>some (aH (.dQ cs))
  | .fn (.func f) a b=>some (aH (.fn (.func f) a b))
  | _=>none
 | .binOp op xt x y _=>dW P op xt (iU x || iU y) (ρ x) (ρ y)
 | .unOp op _ x=>(Ej op (ρ x)).map aH
 | .convert src dst x=>(Ib P src dst (ρ x)).map aH
 | .makeInterface t x=>if Ei P t=true then some (aH (.iface t (ρ x))) else none
 | .makeFunc f a b=>some (aH (.fn f (a.toList.map ρ) (b.toList.map ρ)))
 | .slice t x lo hi none=>match ρ x with
  | .str s=>if isStr P t then (kS 0 (.str s) (lo.map ρ) (hi.map ρ)).map aH else none
  | .slice a b c d=>(bV P t).bind fun (_,sz,_)=>(kS sz (.slice a b c d) (lo.map ρ) (hi.map ρ)).map aH
  | .arr a b c=>(bV P t).bind fun (_,sz,_)=>(kS sz (.arr a b c) (lo.map ρ) (hi.map ρ)).map aH
  | _=>none
 | .fieldAddr s x f=>(dV P s f).bind fun (off,sz)=>if sz=0 then none else match ρ x with
  | .ref b o=>some (aH (.ref b (o+off)))
  | .dQ cs=>some (aH (.dQ (cs.drop off)))
  | _=>none
 | .field t x f=>(dV P t f).bind fun (off,sz)=>match (P.underlying t),ρ x with
  |some (.struct fs),.agg cs=>((fs[f]?).bind fun fl=>jw P fl.type).bind fun g=>(rZ g sz (cs.drop off)).map aH
  | _,_=>none
 | .indexAddr t x i=>(Ia (ρ i)).bind fun n=>match ρ x with
  | .slice z false es _=>(bV P t).bind fun (_,sz,_)=>if z=sz then (es[n]?).map fun e=>aH (.dQ e) else none
  | .arr b z m=>(bV P t).bind fun (_,sz,_)=>if z=sz∧n<m then some (aH (.ref b (n * sz))) else none
  | .ref b o=>(Ll P t).bind fun (m,sz)=>if n<m then some (aH (.ref b (o+n * sz))) else none
  | .dQ cs=>(Ll P t).bind fun (m,sz)=>if n<m then some (aH (.dQ (cs.drop (n * sz)))) else none
  | _=>none
 | .index t x i=>match ρ x with
  | .str s=>if isStr P t then (Ia (ρ i)).bind fun n=>(s[n]?).map fun c=>aH (.int .u8 c.toNat) else none
  | .agg cs=>(ZQ P t).bind fun m=>(Ia (ρ i)).bind fun n=>if n<m then (cs[n]?).map aH else none
  | _=>none
 | .typeAssert x _ dst true=>match ρ x with
  | .iface t d=>if Ei P dst=true∧t=dst then some (aH (.aJ [d,.bool true])) else none
  | _=>none
 | .extract x i=>match ρ x with
  | .aJ vs=>(vs[i]?).map aH
  | _=>none
 | .makeMap t none=>(mapD P t).map fun _=>⟨True,.map id,[],[(id,.map [] 0)]⟩
 | .lookup t x i ok=>(mapD P t).bind fun e=>(zeroV P e).bind fun z=>match ρ x,ρ i with
  | .bG,.str _=>some (aH (if ok then .aJ [z,.bool false] else z))
  | .map b,.str s=>match σ b with
   |some (.map es _)=>some ⟨True,if ok then .aJ [(je es s).getD z,.bool (je es s).isSome] else (je es s).getD z,[b],[]⟩
   | _=>none
  | _,_=>none
 | .mapUpdate t m i x=>(mapD P t).bind fun _=>match ρ m,ρ i with
  | .map b,.str s=>match σ b with
   |some (.map es clock)=>some ⟨True,.junk,[b],[(b,.map (GR es clock s (ρ x)) (Ic es clock s))]⟩
   | _=>none
  | _,_=>none
 | .call { callee:= .builtin .delete,args,argTypes }=>if args.size=2 then (argTypes[0]?).bind fun t=>(mapD P t).bind fun _=>(args[0]?).bind fun m=>(args[1]?).bind fun i=>match ρ m,ρ i with
  | .map b,.str s=>match σ b with
   |some (.map es clock)=>some ⟨True,.aJ [],[b],[(b,.map (C_ es s) clock)]⟩
   | _=>none
  | _,_=>none else none
 | .call { callee:= .builtin .len,args,argTypes }=>if args.size=1∧argTypes.size=1 then (args[0]?).bind fun x=>(argTypes[0]?).bind fun t=>match ρ x with
  | .map b=>match σ b with
   |some (.map es _)=>if (mapD P t).isSome=true then some ⟨True,.int .i64 es.length,[b],[]⟩ else none
   | _=>none
  | _=>(lenD P t (ρ x)).map aH else none
 | .call { callee:= .builtin .clear,args,argTypes }=>if args.size=1∧argTypes.size=1 then (args[0]?).bind fun x=>(argTypes[0]?).bind fun t=>(bV P t).bind fun (e,sz,_)=>(gV P e).bind fun z=>if z.length=sz then C9 σ sz (ρ x) else none else none
 | .call { callee:= .builtin .append,args,argTypes }=>if args.size=2 then (args[0]?).bind fun x=>(args[1]?).bind fun y=>OW P σ id argTypes (ρ x) (ρ y) else none
 | .call { callee:= .builtin .min,args,.. }=>if args.size=2 then (args[0]?).bind fun x=>(args[1]?).bind fun y=>(minD (ρ x) (ρ y)).map aH else none
 | .call { callee:= .builtin .max,args,.. }=>if args.size=2 then (args[0]?).bind fun x=>(args[1]?).bind fun y=>(maxD (ρ x) (ρ y)).map aH else none
 | .range t x=>match ρ x with
  | .str s=>if isStr P t=true then some ⟨True,.ref id 0,[],[(id,.iter s 0)]⟩ else none
  | .map b=>match σ b with
   |some (.map es clock)=>if (mapD P t).isSome=true then some ⟨True,.ref id 0,[b],[(id,.dS b clock [] clock)]⟩ else none
   | _=>none
  | _=>none
 | .next x true=>match ρ x with
  | .ref b 0=>match σ b with
   |some (.iter s pos)=>some ⟨True,if pos<s.length then .aJ [.bool true,.int .i64 pos,.int .i32 (iy s pos).1] else .aJ [.bool false],[b],if pos<s.length then [(b,.iter s (pos+(iy s pos).2))] else []⟩
   | _=>none
  | _=>none
 | _=>none
def opA (P:Program)(ρ:Operand→D)(id:Nat)(t:TypeId)(len:Nat)(parts:Array (Nat × Operand)):Option Eff:=
 (bV P t).bind fun (e,sz,_)=>if len * sz≤16777216∧parts.size=len∧sz≠0∧g_ P e=true then (jh ρ sz 0 parts.toList).map fun es=>⟨True,.slice sz false es (some id),[],[(id,.aS e sz len)]⟩ else none
def OY:Op→Bool
 | .alloc _ | .box _ _=>true
 | .call { callee:= .builtin .append,.. }=>true
 | .range _ _=>true
 | .makeMap _ _=>true
 | _=>false
end Go.Id
namespace Go.Id
open Go
structure Base where
 M:Nat→Nat→Prop
 n:Nat
 I:World→Prop
 stable:∀w w':World,I w→(∀k,k<n→w'.heap[k]?=w.heap[k]?)→I w'
def aC (M₀:Base)(γ:Nat→Option G):Nat→Nat→Prop:=fun B off=>M₀.M B off∨∃b g,γ b=some g∧g.wr B off
theorem G.jQ {g:G}{B off:Nat}(h:g.wr B off):g.block=some B:=by
 cases g with
 |aS sz e v n=>exact h.1
 | _=>simp only[G.wr] at h;subst h;rfl
abbrev FZ:Nat:=1000000
inductive cO (M:Nat→Nat→Prop) (γ:Nat→Option G) (w:World):aU→G→Prop
 | box {cs:List D} {B:Nat} (vs:Array Value) (e:TypeId) (fz:Nat × Nat) (hB:w.heap[B]?=some (.cells vs e fz)) (hl:vs.size=cs.length)
   (h1:∀(i:Nat) v,vs[i]?=some v→v.oneCell'=true∧w.frozen? ⟨B,i,none⟩=false)
   (hr:∀(i:Nat) d v,cs[i]?=some d→vs[i]?=some v→Rep M γ w d v):cO M γ w (.box e cs) (.box B)
 | arr {e0:TypeId} {cs:List D} {B cap z:Nat} (vs:Array Value) (e:TypeId) (fz:Nat × Nat) (hB:w.heap[B]?=some (.cells vs e0 fz)) (hl:cs.length≤vs.size)
   (h1:∀(i:Nat) v,i<cs.length→vs[i]?=some v→v.oneCell'=true∧w.frozen? ⟨B,i,none⟩=false)
   (hr:∀(i:Nat) d v,cs[i]?=some d→vs[i]?=some v→Rep M γ w d v)
   (hf:((fz=(0,0)∧e0=e)∨(vs.size≤fz.1∧e=e0+FZ))∧vs.size=cap * z∧cap≤maxLen):cO M γ w (.arr e cs) (.arr B cap z)
 |aS {e:TypeId} {sz n:Nat} {v:Value} (xs:List Value) (ho:w.ownsRow 0 e sz v n xs):cO M γ w (.aS e sz n) (.aS sz e v n)
 |iter {s:ByteArray} {pos B:Nat} (hB:w.heap[B]?=some (.stringIter s pos)):cO M γ w (.iter s.data.toList pos) (.iter B)
 | map {es:List (List UInt8 × D × Nat)} {clock B:Nat} (en:Array MapEntry) (hB:w.heap[B]?=some (.map en clock)) (hl:en.size=es.length)
   (hk:∀(i:Nat) e k d n,en[i]?=some e→es[i]?=some (k,d,n)→e.key= .string ⟨k.toArray⟩∧e.born=n∧Rep M γ w d e.val):cO M γ w (.map es clock) (.box B)
 |dS {m since last B Bm:Nat} {seen:List Nat} (hB:w.heap[B]?=some (.mapIter (some Bm) since seen.toArray last)) (hm:γ m=some (.box Bm)):cO M γ w (.dS m since seen last) (.iter B)
 |dead {g:G} (hB:∀B,g.block=some B→B<w.heap.size):cO M γ w .dead g
theorem Dc {n:Nat}{e0 e:TypeId}{fz:Nat × Nat}(hf:(fz=(0,0)∧e0=e)∨(n≤fz.1∧e=e0+FZ))(he:e<1000000):fz=(0,0)∧e=e0:=by
 rcases hf with⟨q,r⟩ | ⟨_,q⟩
 ·exact⟨q,r.symm⟩
 ·exact absurd he (by rw[q];exact Nat.not_lt.2 (Nat.le_add_left _ _))
theorem frz {w:World}{B:Nat}{vs:Array Value}{e0 e:TypeId}{fz:Nat × Nat}(hf:(fz=(0,0)∧e0=e)∨(vs.size≤fz.1∧e=e0+FZ))(hB:w.heap[B]?=some (.cells vs e0 fz)){j:Nat}(hj:j<vs.size):w.frozen? ⟨B,j,none⟩=false:=by
 rcases hf with⟨q,_⟩ | ⟨q,_⟩
 ·rw[q] at hB;simp[World.frozen?,hB]
 ·have:¬fz.1≤j:=by omega
  simp[World.frozen?,hB,this]
theorem cO.lt {M:Nat→Nat→Prop}{γ:Nat→Option G}{w:World}{blk:aU}{g:G}(h:cO M γ w blk g){B:Nat}(hb:g.block=some B):B<w.heap.size:=by
 cases h with
 |box vs e fz hB=>simp only[G.block,Option.some.injEq] at hb;subst hb;exact (Array.getElem?_eq_some_iff.1 hB).1
 |arr vs e fz hB=>simp only[G.block,Option.some.injEq] at hb;subst hb;exact (Array.getElem?_eq_some_iff.1 hB).1
 |iter hB=>simp only[G.block,Option.some.injEq] at hb;subst hb;exact (Array.getElem?_eq_some_iff.1 hB).1
 |map en hB=>simp only[G.block,Option.some.injEq] at hb;subst hb;exact (Array.getElem?_eq_some_iff.1 hB).1
 |dS hB hm=>simp only[G.block,Option.some.injEq] at hb;subst hb;exact (Array.getElem?_eq_some_iff.1 hB).1
 |aS xs ho=>exact (ho.lt B hb).2
 |dead hB=>exact hB B hb
theorem cO.Lc {M M':Nat→Nat→Prop}{γ γ':Nat→Option G}{w w':World}{blk:aU}{g:G}(h:cO M γ w blk g)(hv:Evo M γ w M' γ' w')
  (hb:∀B,g.block=some B→w'.heap[B]?=w.heap[B]?):cO M' γ' w' blk g:=by
 cases h with
 |box vs e fz hB hl h1 hr=>
  have e1:=hb _ rfl
  exact .box vs e fz (e1.trans hB) hl (fun i v hi=>⟨(h1 i v hi).1,by rw[World.frozen?_of_block (w:=w) (w':=w') (by simpa using e1)];exact (h1 i v hi).2⟩) (fun i d v hd hi=>(hr i d v hd hi).Lc hv)
 |arr vs e fz hB hl h1 hr hf=>
  have e1:=hb _ rfl
  exact .arr vs e fz (e1.trans hB) hl (fun i v hn hi=>⟨(h1 i v hn hi).1,by rw[World.frozen?_of_block (w:=w) (w':=w') (by simpa using e1)];exact (h1 i v hn hi).2⟩) (fun i d v hd hi=>(hr i d v hd hi).Lc hv) hf
 |iter hB=>exact .iter ((hb _ rfl).trans hB)
 |map en hB hl hk=>exact .map en ((hb _ rfl).trans hB) hl (fun i e k d n q1 q2=>let ⟨r1,r2,r3⟩:=hk i e k d n q1 q2;⟨r1,r2,r3.Lc hv⟩)
 |dS hB hm=>
  obtain⟨g',h1,h2⟩:=hv.names _ _ hm
  simp only[G.le] at h2;subst h2
  exact .dS ((hb _ rfl).trans hB) h1
 |dead hB=>exact .dead (fun B h=>by have:=hB B h;have e1:=hb B h;rw[Array.getElem?_eq_getElem this] at e1;exact (Array.getElem?_eq_some_iff.1 e1).1)
 |aS xs ho=>
  refine .aS xs ?_
  obtain⟨h1,h2⟩:=ho
  refine⟨h1,?_⟩
  rcases h2 with h2 | ⟨g,cap,cur,rfl,hg,hh,r⟩
  ·exact .inl h2
  ·exact .inr ⟨g,cap,cur,rfl,hg,(hb g rfl).trans hh,r⟩
theorem cO.keep {M M':Nat→Nat→Prop}{γ γ':Nat→Option G}{w w':World}{blk:aU}{g:G}(h:cO M γ w blk g)(hv:aQ M γ w M' γ' w')
  (hb:∀B,g.block=some B→w'.heap[B]?=w.heap[B]?):cO M' γ' w' blk g:=h.Lc hv.Lc hb
structure Store (M₀:Base) (γ:Nat→Option G) (σ:Nat→Option aU) (w:World):Prop where
 names:∀b,(∃blk g,σ b=some blk∧γ b=some g∧cO (aC M₀ γ) γ w blk g)∨(σ b=none∧γ b=none)
 dist:∀b b' g g' B,γ b=some g→γ b'=some g'→g.block=some B→g'.block=some B→b=b'
 outer:∀B off,M₀.M B off→M₀.n≤B∧B<w.heap.size
 apart:∀b g B off,γ b=some g→g.block=some B→¬M₀.M B off
 inv:M₀.I w
 low:∀b g B,γ b=some g→g.block=some B→M₀.n≤B
 big:M₀.n≤w.heap.size
def upd {α:Type}(f:Nat→α)(b:Nat)(x:α):Nat→α:=fun i=>if i=b then x else f i
theorem upd_same {α:Type}(f:Nat→α)(b:Nat)(x:α):upd f b x b=x:=by simp[upd]
theorem bF {α:Type}(f:Nat→α){b i:Nat}(x:α)(h:i≠b):upd f b x i=f i:=by simp[upd,h]
section
variable {M₀:Base} {γ:Nat→Option G} {σ:Nat→Option aU} {w:World}
theorem Store.hit (h:Store M₀ γ σ w){b:Nat}{blk:aU}(hb:σ b=some blk):∃g,γ b=some g∧cO (aC M₀ γ) γ w blk g:=by
 rcases h.names b with⟨blk',g,h1,h2,h3⟩ | ⟨h1,_⟩
 ·rw[hb] at h1;cases h1;exact⟨g,h2,h3⟩
 ·rw[hb] at h1;cases h1
theorem Store.miss (h:Store M₀ γ σ w){b:Nat}(hb:σ b=none):γ b=none:=by
 rcases h.names b with⟨blk',g,h1,_⟩ | ⟨_,h1⟩
 ·rw[hb] at h1;cases h1
 ·exact h1
theorem Store.lt (h:Store M₀ γ σ w){b:Nat}{g:G}(hg:γ b=some g){B:Nat}(hB:g.block=some B):B<w.heap.size:=by
 rcases h.names b with⟨blk',g',_,h2,h3⟩ | ⟨_,h1⟩
 ·rw[hg] at h2;cases h2;exact h3.lt hB
 ·rw[hg] at h1;cases h1
theorem Store.agm (h:Store M₀ γ σ w){B off:Nat}(hm:aC M₀ γ B off):B<w.heap.size:=by
 rcases hm with hm | ⟨b,g,hg,hw⟩
 ·exact (h.outer B off hm).2
 ·exact h.lt hg (G.jQ hw)
theorem Store.change (h:Store M₀ γ σ w)(b:Nat)(blk:aU)(g:G)(w':World)
  (hv:aQ (aC M₀ γ) γ w (aC M₀ (upd γ b (some g))) (upd γ b (some g)) w')
  (hold:∀i gi B,i≠b→γ i=some gi→gi.block=some B→w'.heap[B]?=w.heap[B]?)
  (hnew:∀B,g.block=some B→(w.heap.size≤B∨∃g0,γ b=some g0∧g0.block=some B))
  (hr:cO (aC M₀ (upd γ b (some g))) (upd γ b (some g)) w' blk g):
  Store M₀ (upd γ b (some g)) (upd σ b (some blk)) w' where
 names i:=by
  by_cases hi:i=b
  ·subst hi;exact .inl ⟨blk,g,upd_same _ _ _,upd_same _ _ _,hr⟩
  ·rcases h.names i with⟨blk',g',h1,h2,h3⟩ | ⟨h1,h2⟩
   ·exact .inl ⟨blk',g',by rw[bF _ _ hi];exact h1,by rw[bF _ _ hi];exact h2,h3.keep hv (fun B hB=>hold i g' B hi h2 hB)⟩
   ·exact .inr ⟨by rw[bF _ _ hi];exact h1,by rw[bF _ _ hi];exact h2⟩
 dist i j gi gj B hi hj hBi hBj:=by
  by_cases ei:i=b <;> by_cases ej:j=b
  ·rw[ei,ej]
  ·subst ei
   rw[upd_same] at hi;cases hi
   rw[bF _ _ ej] at hj
   rcases hnew B hBi with hlt | ⟨g0,h0,h1⟩
   ·have:=h.lt hj hBj;omega
   ·exact h.dist _ _ _ _ B h0 hj h1 hBj
  ·subst ej
   rw[upd_same] at hj;cases hj
   rw[bF _ _ ei] at hi
   rcases hnew B hBj with hlt | ⟨g0,h0,h1⟩
   ·have:=h.lt hi hBi;omega
   ·exact h.dist _ _ _ _ B hi h0 hBi h1
  ·rw[bF _ _ ei] at hi
   rw[bF _ _ ej] at hj
   exact h.dist _ _ _ _ B hi hj hBi hBj
 outer B off hm:=⟨(h.outer B off hm).1,Nat.lt_of_lt_of_le (h.outer B off hm).2 hv.size⟩
 apart i gi B off hi hB hm:=by
  by_cases ei:i=b
  ·subst ei
   rw[upd_same] at hi;cases hi
   rcases hnew B hB with hlt | ⟨g0,h0,h1⟩
   ·have:=h.outer B off hm;omega
   ·exact h.apart _ _ B off h0 h1 hm
  ·rw[bF _ _ ei] at hi
   exact h.apart _ _ B off hi hB hm
 inv:=M₀.stable w w' h.inv (fun k hk=>hv.block k (Nat.lt_of_lt_of_le hk h.big) (fun i gi hi hB=>by have:=h.low i gi k hi hB;omega))
 low i gi B hi hB:=by
  by_cases ei:i=b
  ·subst ei
   rw[upd_same] at hi;cases hi
   rcases hnew B hB with hlt | ⟨g0,h0,h1⟩
   ·exact Nat.le_trans h.big hlt
   ·exact h.low _ _ B h0 h1
  ·rw[bF _ _ ei] at hi;exact h.low i gi B hi hB
 big:=Nat.le_trans h.big hv.size
theorem aC.UK {b:Nat}{g:G}{B off:Nat}(hm:aC M₀ (upd γ b (some g)) B off):aC M₀ γ B off∨g.wr B off:=by
 rcases hm with hm | ⟨i,gi,hi,hw⟩
 ·exact .inl (.inl hm)
 ·by_cases e:i=b
  ·subst e;rw[upd_same] at hi;cases hi;exact .inr hw
  ·rw[bF _ _ e] at hi;exact .inl (.inr ⟨i,gi,hi,hw⟩)
theorem aQ.fresh (h:Store M₀ γ σ w){b:Nat}(hb:σ b=none)(g:G)(w':World)(hos:w'.os=w.os)(htp:w'.tape=w.tape)(hout:w'.output=w.output)
  (hsz:w.heap.size≤w'.heap.size) (hold:∀k,k<w.heap.size→w'.heap[k]?=w.heap[k]?) (hg:∀B,g.block=some B→w.heap.size≤B):
  aQ (aC M₀ γ) γ w (aC M₀ (upd γ b (some g))) (upd γ b (some g)) w' where
 os:=hos
 tape:=htp
 output:=hout
 size:=hsz
 cell B off v _ hv:=by rw[World.cell?_of_block (w:=w) (w':=w') (by simpa using hold B (cell_lt hv))];exact hv
 wr B off hm hlt:=by
  rcases aC.UK hm with hm|hw
  ·exact hm
  ·have:=hg B (G.jQ hw);omega
 names i gi hi:=by
  have:i≠b:=fun e=>by subst e;rw[h.miss hb] at hi;cases hi
  exact⟨gi,by rw[bF _ _ this];exact hi,G.le_refl gi⟩
 block B hB _:=hold B hB
 old i gi B hi hB hlt:=by
  by_cases e:i=b
  ·subst e;rw[upd_same] at hi;cases hi;have:=hg B hB;omega
  ·rw[bF _ _ e] at hi;exact⟨i,gi,hi,hB⟩
theorem bJ (w:World)(o:Obj):∀k,k<w.heap.size→(w.alloc o).heap[k]?=w.heap[k]?:=fun k hk=>heap_alloc_old w o k hk
theorem Rep.sub {M M':Nat→Nat→Prop}{γ:Nat→Option G}{w:World}(hM:∀B off,M' B off→M B off){d:D}{v:Value}(hr:Rep M γ w d v):Rep M' γ w d v:=
 hr.bZ ⟨rfl,rfl,rfl,Nat.le_refl _,fun _ _ _ _ h=>h,fun B off h _=>hM B off h,fun _ g h=>⟨g,h,G.le_refl g⟩,fun _ _ _=>rfl,fun b g _ h h' _=>⟨b,g,h,h'⟩⟩
theorem Rep.cells {M:Nat→Nat→Prop}{d:D}{v:Value}(h:Rep M γ w d v){cs:List D}(hc:cells? d=some cs):
  v.cells.size=cs.length∧(∀(i:Nat) u,v.cells[i]?=some u→u.oneCell'=true)∧(∀(i:Nat) x u,cs[i]?=some x→v.cells[i]?=some u→Rep M γ w x u):=by
 have one:∀(v:Value) (d:D),Rep M γ w d v→v.cells=#[v]→v.oneCell'=true→cs=[d]→
   v.cells.size=cs.length∧(∀(i:Nat) u,v.cells[i]?=some u→u.oneCell'=true)∧(∀(i:Nat) x u,cs[i]?=some x→v.cells[i]?=some u→Rep M γ w x u):=by
  intro v d hr h1 h2 h3
  subst h3
  rw[h1]
  refine⟨rfl,fun i u hi=>?_,fun i x u hx hu=>?_⟩
  ·match i with
   | 0=>simp at hi;subst hi;exact h2
   |i+1=>simp at hi
  ·match i with
   | 0=>simp at hx hu;subst hx;subst hu;exact hr
   |i+1=>simp at hx
 cases h with
 |junk=>simp[cells?] at hc
 |val=>simp[cells?] at hc
 |aJ=>simp[cells?] at hc
 |agg hl h1 hr=>simp only[cells?,Option.some.injEq] at hc;subst hc;exact⟨hl,h1,hr⟩
 |bool b=>exact one _ _ (.bool b) rfl rfl (by simpa [cells?] using hc.symm)
 |int k n=>exact one _ _ (.int k n) rfl rfl (by simpa [cells?] using hc.symm)
 |str s=>exact one _ _ (.str s) rfl rfl (by simpa [cells?] using hc.symm)
 |nilslice ht=>exact one _ _ (.nilslice ht) rfl rfl (by simpa [cells?] using hc.symm)
 |slice vs a1 a2 a3 a4 a5 a6 a7=>exact one _ _ (.slice vs a1 a2 a3 a4 a5 a6 a7) rfl rfl (by simpa [cells?] using hc.symm)
 |arr a1 a2=>exact one _ _ (.arr a1 a2) rfl rfl (by simpa [cells?] using hc.symm)
 |view a1 a2 a3=>exact one _ _ (.view a1 a2 a3) rfl rfl (by simpa [cells?] using hc.symm)
 |ref a1=>exact one _ _ (.ref a1) rfl rfl (by simpa [cells?] using hc.symm)
 |dQ vs a1 a2 a3 a4=>exact one _ _ (.dQ vs a1 a2 a3 a4) rfl rfl (by simpa [cells?] using hc.symm)
 |aP=>exact one _ _ .aP rfl rfl (by simpa [cells?] using hc.symm)
 |fn a1 a2 a3 a4=>exact one _ _ (.fn a1 a2 a3 a4) rfl rfl (by simpa [cells?] using hc.symm)
 |dD=>exact one _ _ .dD rfl rfl (by simpa [cells?] using hc.symm)
 |iface a1=>exact one _ _ (.iface a1) rfl rfl (by simpa [cells?] using hc.symm)
 |aI=>exact one _ _ .aI rfl rfl (by simpa [cells?] using hc.symm)
 |bG=>exact one _ _ .bG rfl rfl (by simpa [cells?] using hc.symm)
 |map a1=>exact one _ _ (.map a1) rfl rfl (by simpa [cells?] using hc.symm)
theorem Store.ZT (h:Store M₀ γ σ w){b:Nat}(hb:σ b=none)(e:TypeId){cs:List D}{vs:Array Value}(hl:vs.size=cs.length)
  (h1:∀(i:Nat) u,vs[i]?=some u→u.oneCell'=true) (hr:∀(i:Nat) x u,cs[i]?=some x→vs[i]?=some u→Rep (aC M₀ γ) γ w x u):
  Store M₀ (upd γ b (some (.box w.heap.size))) (upd σ b (some (.box e cs))) (w.alloc (.cells vs e))∧
  aQ (aC M₀ γ) γ w (aC M₀ (upd γ b (some (.box w.heap.size)))) (upd γ b (some (.box w.heap.size))) (w.alloc (.cells vs e)):=by
 have hv:=aQ.fresh h hb (.box w.heap.size) (w.alloc (.cells vs e)) rfl rfl rfl (by simp) (bJ w _) (fun B hB=>by simp[G.block] at hB;omega)
 refine⟨h.change b (.box e cs) (.box w.heap.size) _ hv (fun i gi B hi hg hB=>bJ w _ B (h.lt hg hB)) (fun B hB=>by simp[G.block] at hB;omega) ?_,hv⟩
 exact .box vs e (0,0) (heap_alloc_new w _) hl (fun i v hi=>⟨h1 i v hi,World.frozen?_alloc_new w vs e i⟩) (fun i d v hd hi=>(hr i d v hd hi).bZ hv)
end
end Go.Id
namespace Go.Id
open Go
def Df (σ:Nat→Option aU):List (Nat × aU)→Nat→Option aU
 | []=>σ
 |(b,blk)::ws=>upd (Df σ ws) b (some blk)
def Out (M₀:Base)(γ:Nat→Option G)(σ:Nat→Option aU)(w:World)(r:Result Next)(d:D)(ws:List (Nat × aU)):Prop:=
 ∃v w' γ',(r= .ok (.value v) w'∨(r= .ok .skip w'∧v=undef))∧Store M₀ γ' (Df σ ws) w'∧aQ (aC M₀ γ) γ w (aC M₀ γ') γ' w'∧Rep (aC M₀ γ') γ' w' d v
section
variable {P:Program} {M₀:Base} {γ:Nat→Option G} {σ:Nat→Option aU} {w:World}
theorem Out.same (h:Store M₀ γ σ w){r:Result Next}{d:D}{v:Value}(hr:r= .ok (.value v) w)(hd:Rep (aC M₀ γ) γ w d v):Out M₀ γ σ w r d []:=
 ⟨v,w,γ,.inl hr,h,aQ.refl _ _ _,hd⟩
theorem yS (M:Nat→Nat→Prop)(v:Value):Rep M γ w (xK v) v:=by
 unfold xK
 split
 ·exact .bool _
 ·exact .int _ _
 ·exact .str _
 ·exact .aP
 ·exact .nilslice (iK.none _ _ _)
 ·exact .bG
 ·exact .dD
 ·exact .aI
 ·exact .junk _
theorem jy (M:Nat→Nat→Prop)(v:Value):Rep M γ w (jv v) v:=by
 unfold jv
 split
 ·rename_i cs
  split
  ·rename_i hall
   have hall':=Array.all_eq_true'.1 hall
   refine .agg (by simp) (fun i v hi=>hall' v (Array.mem_of_getElem? hi)) (fun i d v hd hv=>?_)
   rw[List.getElem?_map,Array.getElem?_toList,hv] at hd
   simp only[Option.map_some,Option.some.injEq] at hd
   subst hd
   exact yS M v
  ·exact .junk _
 ·exact .junk _
 ·exact yS M _
theorem vC {t:TypeId}{g:Bool}(h:jw P t=some g)(w:World):(isAgg t).run P w= .ok g w:=by
 unfold jw at h
 simp only[isAgg,underlying,Sem.run_bind,run_program,Result.andThen_ok]
 split at h
 ·rename_i he;simp at h;subst h;simp[he]
 ·rename_i he;simp at h;subst h;simp[he]
 ·rename_i d h1 h2 he
  simp at h;subst h
  cases d <;> simp_all
 ·cases h
theorem OZ {t:TypeId}{sz:Nat}(h:rY P t=some sz)(w:World):(sizeOf t).run P w= .ok sz w:=by
 unfold rY at h
 cases hi:P.info? t with
 |none=>rw[hi] at h;cases h
 |some i=>rw[hi] at h;simp at h;subst h;simp[sizeOf,typeInfo,hi]
theorem Em {t:TypeId}{g:Bool}{sz:Nat}(hg:jw P t=some g)(hs:rY P t=some sz){M:Nat→Nat→Prop}{a:Addr}(hspot:a.spot=none){cs:List D}{d:D}(hl:rZ g sz cs=some d)
  (vs:List Value) (hvs:cs.length≤vs.length) (hc:∀j v,vs[j]?=some v→w.cell? ⟨a.block,a.off+j,none⟩=some v∧v.oneCell'=true)
  (hr:∀(j:Nat) d v,cs[j]?=some d→vs[j]?=some v→Rep M γ w d v):
  ∃v,(loadVar t a).run P w= .ok v w∧Rep M γ w d v:=by
 have hadd:∀j,a.add j=⟨a.block,a.off+j,none⟩:=by
  intro j;unfold Addr.add;split
  ·subst_vars;cases a;simp_all
  ·rfl
 unfold rZ at hl
 cases g with
 |true=>
  simp only[if_true] at hl
  split at hl <;> simp at hl
  rename_i hle
  subst hl
  have hrun:=run_loadCells_list (P:=P) (w:=w) a (vs.take sz) (fun j v hv=>by
   rw[hadd]
   rw[List.getElem?_take] at hv
   split at hv
   ·exact (hc j v hv).1
   ·cases hv)
  have hlen:(vs.take sz).length=sz:=by simp;omega
  rw[hlen] at hrun
  refine⟨_,by simp only[loadVar,Sem.run_bind,vC hg,Result.andThen_ok,OZ hs,if_true,hrun];rfl,.agg (by simp;omega) (fun i v hv=>?_) (fun i d v hd hv=>?_)⟩
  ·simp only[List.getElem?_toArray,List.getElem?_take] at hv
   split at hv
   ·exact (hc i v hv).2
   ·cases hv
  ·simp only[List.getElem?_toArray,List.getElem?_take] at hv hd
   split at hv
   ·rename_i hi;rw[if_pos hi] at hd;exact hr i d v hd hv
   ·cases hv
 |false=>
  simp only[Bool.false_eq_true,if_false] at hl
  cases cs with
  |nil=>simp at hl
  |cons c cs=>
   simp at hl;subst hl
   cases vs with
   |nil=>simp at hvs
   |cons v vs=>
    have h0:=(hc 0 v rfl).1
    have ha:(⟨a.block,a.off+0,none⟩:Addr)=a:=by cases a;simp_all
    rw[ha] at h0
    exact⟨v,by simp[loadVar,vC hg,h0],hr 0 c v rfl rfl⟩
theorem cells_at {B:Nat}{vs:Array Value}{e:TypeId}{fz:Nat × Nat}(hB:w.heap[B]?=some (.cells vs e fz))(off:Nat):
  ∀j v,(vs.toList.drop off)[j]?=some v→w.cell? ⟨B,off+j,none⟩=some v:=by
 intro j v hv
 rw[cell_of_row w B (off+j) vs e fz hB]
 simpa [List.getElem?_drop] using hv
theorem oM (h:Store M₀ γ σ w){t:TypeId}{g:Bool}{sz:Nat}(hg:jw P t=some g)(hs:rY P t=some sz){b off:Nat}{cs:List D}(hb:(∃t',σ b=some (.box t' cs))∨∃z,σ b=some (.arr z cs))
  {d:D} (hl:rZ g sz (cs.drop off)=some d) {av:Value} (hav:Rep (aC M₀ γ) γ w (.ref b off) av):
  ∃v,(Instr.loadAt t av).run P w= .ok v w∧Rep (aC M₀ γ) γ w d v:=by
 have main:∀(B:Nat) (vs:Array Value) (e:TypeId) (fz:Nat × Nat),w.heap[B]?=some (.cells vs e fz)→cs.length≤vs.size→(∀(i:Nat) v,i<cs.length→vs[i]?=some v→v.oneCell'=true∧w.frozen? ⟨B,i,none⟩=false)→
   (∀(i:Nat) d v,cs[i]?=some d→vs[i]?=some v→Rep (aC M₀ γ) γ w d v)→∃v,(loadVar t ⟨B,off,none⟩).run P w= .ok v w∧Rep (aC M₀ γ) γ w d v:=by
  intro B vs e fz hB hlen h1 hr
  have hget:∀(j:Nat) v,((vs.toList.take cs.length).drop off)[j]?=some v→off+j<cs.length∧vs[off+j]?=some v:=by
   intro j v hv
   rw[List.getElem?_drop,List.getElem?_take] at hv
   split at hv
   ·rename_i hlt
    exact⟨hlt,by rw[Array.getElem?_toList] at hv;exact hv⟩
   ·cases hv
  refine Em hg hs rfl hl ((vs.toList.take cs.length).drop off) (by simp;omega) (fun j v hv=>⟨cells_at hB off j v (by rw[List.getElem?_drop,Array.getElem?_toList];exact (hget j v hv).2),?_⟩) (fun j d v hd hv=>?_)
  ·exact (h1 _ v (hget j v hv).1 (hget j v hv).2).1
  ·rw[List.getElem?_drop] at hd
   exact hr _ d v hd (hget j v hv).2
 cases hav with
 | @ref _ B _ hγ=>
  simp only[Instr.loadAt,Instr.sureAddr,Sem.run_bind,Sem.run_pure,Result.andThen_ok]
  rcases hb with⟨t',hb⟩ | ⟨z,hb⟩
  ·obtain⟨g',h2,h3⟩:=h.hit hb
   cases h3 with
   |box vs e fz hB hlen h1 hr=>
    rcases hγ with hγ | ⟨_,_,hγ⟩|hγ <;> rw[h2] at hγ <;> cases hγ
    exact main _ vs _ fz hB (by omega) (fun i v _ hi=>h1 i v hi) hr
  ·obtain⟨g',h2,h3⟩:=h.hit hb
   cases h3 with
   |arr vs e fz hB hlen h1 hr=>
    rcases hγ with hγ | ⟨_,_,hγ⟩|hγ <;> rw[h2] at hγ <;> cases hγ
    exact main _ vs _ fz hB hlen h1 hr
theorem yT {M:Nat→Nat→Prop}{t:TypeId}{g:Bool}{sz:Nat}(hg:jw P t=some g)(hs:rY P t=some sz){cs:List D}
  {d:D} (hl:rZ g sz cs=some d) {av:Value} (hav:Rep M γ w (.dQ cs) av):
  ∃v,(Instr.loadAt t av).run P w= .ok v w∧Rep M γ w d v:=by
 cases hav with
 | @dQ _ a vs hvs hspot hc hr=>
  simp only[Instr.loadAt,Instr.sureAddr,Sem.run_bind,Sem.run_pure,Result.andThen_ok]
  exact Em hg hs hspot hl vs (by omega) (fun j v hv=>⟨(hc j v hv).1,(hc j v hv).2.2⟩) hr
end
end Go.Id
namespace Go.Id
open Go
section
variable {P:Program} {M₀:Base} {γ:Nat→Option G} {σ:Nat→Option aU} {w:World}
theorem aW {M:Nat→Nat→Prop}{sz:Nat}{nil:Bool}{es:List (List D)}{aS:Option Nat}{v:Value}(h:Rep M γ w (.slice sz nil es aS) v):
  (v= .slice none 0 0∧es=[]∧nil=true)∨
  ∃(a:Addr) (cap:Nat) (vs:List Value),v= .slice (some a) es.length cap∧nil=false∧(es≠[]→a.spot=none)∧vs.length=es.length * sz∧es.length≤cap∧(∀e∈es,e.length=sz)∧
   (∀j u,vs[j]?=some u→w.cell? ⟨a.block,a.off+j,none⟩=some u∧¬M a.block (a.off+j)∧u.oneCell'=true)∧
   (∀i j e d u,es[i]?=some e→e[j]?=some d→vs[i * sz+j]?=some u→Rep M γ w d u)∧iK γ aS es.length (.slice (some a) es.length cap):=by
 cases h with
 |nilslice ht=>exact .inl ⟨rfl,rfl,rfl⟩
 | @slice _ _ _ a cap vs hsz hvs hspot hc hr hcap ht=>exact .inr ⟨a,cap,vs,rfl,rfl,hspot,hvs,hcap,hsz,hc,hr,ht⟩
theorem nM {a:Addr}(h:a.spot=none)(j:Nat):a.add j=⟨a.block,a.off+j,none⟩:=by
 unfold Addr.add;split
 ·subst_vars;cases a;simp_all
 ·rfl
theorem nN {e:TypeId}(h:g_ P e=true):∃i z,P.info? e=some i∧i.zero=some z∧z.cells.size=i.size:=by
 unfold g_ at h
 split at h
 ·rename_i i hi
  split at h
  ·rename_i z hz;exact⟨i,z,hi,hz,by simpa using h⟩
  ·cases h
 ·cases h
theorem Ya {t:TypeId}{n:Nat}(h:ZQ P t=some n):∃e i,P.underlying t=some (.array n e)∧P.info? e=some i∧i.size=1∧jw P e=some false:=by
 unfold ZQ at h
 split at h
 ·rename_i m e hu
  simp only[Option.bind_eq_some_iff] at h
  obtain⟨i,hi,h⟩:=h
  split at h
  ·cases h
  ·cases h
  ·rename_i u h1 h2 hq
   split at h
   ·rename_i hs
    cases h
    refine⟨e,i,hu,hi,hs,?_⟩
    unfold jw
    rw[hq]
    cases u <;> first|rfl|exact absurd rfl (h1 _)|exact absurd rfl (h2 _ _)
   ·cases h
  ·cases h
 ·cases h
theorem Dh {t:TypeId}{n sz:Nat}(h:Ll P t=some (n,sz)):∃e i,P.underlying t=some (.array n e)∧P.info? e=some i∧i.size=sz:=by
 unfold Ll at h
 split at h
 ·rename_i m e' he
  cases hi:P.info? e' with
  |none=>rw[hi] at h;cases h
  |some i=>
   rw[hi] at h;simp at h
   obtain⟨rfl,h2⟩:=h
   exact⟨e',i,he,hi,h2⟩
 ·cases h
theorem fB {t e:TypeId}{sz by':Nat}(h:bV P t=some (e,sz,by')):∃i,P.underlying t=some (.slice e)∧P.info? e=some i∧i.size=sz∧i.bytes=by':=by
 unfold bV at h
 split at h
 ·rename_i e' he
  cases hi:P.info? e' with
  |none=>rw[hi] at h;cases h
  |some i=>
   rw[hi] at h;simp at h
   obtain⟨rfl,h2,h3⟩:=h
   exact⟨i,he,hi,h2,h3⟩
 ·cases h
theorem Ad {M:Nat→Nat→Prop}{B cap sz:Nat}{cur:Array Value}{e:TypeId}{fz:Nat × Nat}(hB:w.heap[B]?=some (.cells cur e fz)){es:List (List D)}{aS:Option Nat}(hsz:∀x∈es,x.length=sz)(vs:List Value)
  (hvs:vs.length=es.length * sz) (htake:cur.toList.take (es.length * sz)=vs) (h1:∀u∈vs,u.oneCell'=true) (hM:∀off,off<es.length * sz→¬M B off)
  (hr:∀i j e d u,es[i]?=some e→e[j]?=some d→vs[i * sz+j]?=some u→Rep M γ w d u) (hcap:es.length≤cap)
  (ht:iK γ aS es.length (.slice (some ⟨B,0,none⟩) es.length cap)):Rep M γ w (.slice sz false es aS) (.slice (some ⟨B,0,none⟩) es.length cap):=by
 refine .slice vs hsz hvs (fun _=>rfl) (fun j v hv=>?_) hr hcap ht
 have hj:j<es.length * sz:=by
  have:=(List.getElem?_eq_some_iff.1 hv).1;omega
 refine⟨?_,by simpa using hM j hj,h1 v (List.mem_of_getElem? hv)⟩
 simp only[Nat.zero_add]
 rw[cell_of_row w B j cur e fz hB]
 rw[← htake,List.getElem?_take,if_pos hj] at hv
 simpa using hv
theorem QU {M:Nat→Nat→Prop}{sz:Nat}{es es':List (List D)}{vs vs':List Value}(hvs:vs.length=es.length * sz)
  (hr:∀i j e d u,es[i]?=some e→e[j]?=some d→vs[i * sz+j]?=some u→Rep M γ w d u)
  (hr':∀i j e d u,es'[i]?=some e→e[j]?=some d→vs'[i * sz+j]?=some u→Rep M γ w d u):
  ∀i j e d u,(es++es')[i]?=some e→e[j]?=some d→(vs++vs')[i * sz+j]?=some u→(e.length=sz)→Rep M γ w d u:=by
 intro i j e d u he hd hu hl
 have hj:j<sz:=by rw[← hl];exact (List.getElem?_eq_some_iff.1 hd).1
 by_cases hi:i<es.length
 ·rw[List.getElem?_append_left hi] at he
  have:i * sz+j<vs.length:=by
   rw[hvs]
   calc i * sz+j<i * sz+sz:=by omega
    _=(i+1) * sz:=by rw[Nat.add_mul];omega
    _≤es.length * sz:=Nat.mul_le_mul_right _ hi
  rw[List.getElem?_append_left this] at hu
  exact hr i j e d u he hd hu
 ·rw[List.getElem?_append_right (by omega)] at he
  have h1:es.length * sz≤i * sz:=Nat.mul_le_mul_right _ (by omega)
  rw[List.getElem?_append_right (by omega)] at hu
  have h2:i * sz+j - vs.length=(i - es.length) * sz+j:=by rw[hvs,Nat.sub_mul];omega
  rw[h2] at hu
  exact hr' _ j e d u he hd hu
theorem En {m b:Nat}(h:m * b≤140737488355328):m * b≤281474976710656:=by omega
theorem Ie {t e:TypeId}{i:TypeInfo}{z:Value}(ht:P.underlying t=some (.slice e))(hi:P.info? e=some i)(hz:i.zero=some z)(hzs:z.cells.size=i.size)(ty:TypeId)
  (v:Value) (n:Nat) (xs:List Value) (hown:w.ownsRow 0 e i.size v n xs) (a:Addr) (m c:Nat) (news:List Value) (hl:news.length=m * i.size)
  (hnews:∀j u,news[j]?=some u→w.cell? (a.add j)=some u) (h1:∀u∈news,u.oneCell'=true) (hm:0<m)
  (h63:n+m≤9223372036854775807) (hb:(n+m) * i.bytes≤140737488355328):
  ∃B cap cur w',(Builtin.append_ #[t,t] ty #[v,.slice (some a) m c]).run P w= .ok (.slice (some ⟨B,0,none⟩) (n+m) cap) w'∧
   w'.os=w.os∧w'.tape=w.tape∧w'.output=w.output∧w.heap.size≤w'.heap.size∧w'.heap[B]?=some (.cells cur e (0,0))∧cur.size=cap * i.size∧n+m≤cap∧cap≤maxLen∧
   cur.toList.take ((n+m) * i.size)=xs++news∧
   ((B=w.heap.size∧(∀k,k<w.heap.size→w'.heap[k]?=w.heap[k]?))∨
    (v.ownBlock=some B∧(∀k,k≠B→w'.heap[k]?=w.heap[k]?))):=by
 have hml:maxLen=9223372036854775807:=rfl
 have hlen:(xs++news).length=(n+m) * i.size:=by rw[List.length_append,hown.1,hl,Nat.add_mul]
 rcases hown.2 with⟨rfl,rfl⟩ | ⟨g,cap,cur,rfl,_,hg,hnc,hcm,hcs,htake⟩
 ·have hx:xs=[]:=List.eq_nil_of_length_eq_zero (by simpa using hown.1)
  subst hx
  simp only[Nat.zero_add,List.nil_append] at *
  have hr:=run_append_nil (P:=P) w t ty e i z ht hi hz a m c news hl hnews hm (by omega) (En hb)
  have hge:=grownCap_ge w m 0 e
  refine⟨_,_,_,_,hr,rfl,rfl,rfl,by simp,heap_alloc_new w.drew _,?_,hge,grownCap_le_maxLen w m 0 e (by omega),?_,.inl ⟨rfl,fun k hk=>heap_alloc_old w.drew _ k hk⟩⟩
  ·simp only[Array.size_append,List.size_toArray,size_zeroCells,hzs,hl,← Nat.add_mul];congr 1;omega
  ·rw[Array.toList_append,List.toList_toArray,← hl];exact List.take_left
 ·by_cases hroom:n+m≤cap
  ·have hfit:n * i.size+news.length≤cur.size:=by rw[hl,hcs,← Nat.add_mul];exact Nat.mul_le_mul_right _ hroom
   have hr:=run_append_room (P:=P) w t ty e i ht hi g n cap cur hg a m c news hl hnews h1 hroom hfit
   refine⟨g,cap,_,_,hr,rfl,rfl,rfl,by simp,setRow_heap w g cur _ e _ hg,?_,hroom,hcm,?_,.inr ⟨rfl,fun k hk=>setRow_other w g k _ hk⟩⟩
   ·simp only[List.size_toArray,List.length_append,List.length_take,List.length_drop,Array.length_toList];omega
   ·rw[htake,List.toList_toArray,← hlen];exact List.take_left
  ·have hfits:=growslice_fits (need:=n+m) (old:=cap) (bytes:=i.bytes) (by omega) hb
   have holds:∀j u,xs[j]?=some u→w.cell? ((⟨g,0,none⟩:Addr).add j)=some u:=hown.cells rfl
   have hr:=run_append_grow (P:=P) w t ty e i z ht hi hz ⟨g,0,none⟩ n cap xs hown.1 holds a m c news hl hnews (by omega) (by omega) hfits
   have hge:=grownCap_ge w (n+m) cap e
   refine⟨_,_,_,_,hr,rfl,rfl,rfl,by simp,heap_alloc_new w.drew _,?_,hge,grownCap_le_maxLen w (n+m) cap e (by omega),?_,.inl ⟨rfl,fun k hk=>heap_alloc_old w.drew _ k hk⟩⟩
   ·simp only[Array.size_append,List.size_toArray,size_zeroCells,hzs,hown.1,hl,← Nat.add_mul];congr 1;omega
   ·rw[Array.toList_append,Array.toList_append,List.toList_toArray,List.toList_toArray,List.append_assoc,← List.append_assoc,← hlen];exact List.take_left
theorem vF {t e:TypeId}{i:TypeInfo}(ht:P.underlying t=some (.slice e))(hi:P.info? e=some i)(ty:TypeId)(v:Value){base:Option Addr}{n cap:Nat}(hv:v= .slice base n cap)(hn:n≤cap)(b2:Option Addr)(c:Nat):
  (Builtin.append_ #[t,t] ty #[v,.slice b2 0 c]).run P w= .ok v w:=by
 subst hv
 cases base <;> cases b2 <;> simp[Builtin.append_,run_underlying ht,sizeOf,typeInfo,hi,Builtin.lenOf,Builtin.firstCells,loadCells,loadCellsFrom,hn,storeCells]
theorem Store.Yb (h:Store M₀ γ σ w){b:Nat}{g:G}(hg:γ b=some g){B off:Nat}(hB:g.block=some B)(hw:¬g.wr B off):¬aC M₀ γ B off:=by
 rintro (hm | ⟨i,gi,hi,hwi⟩)
 ·exact h.apart b g B off hg hB hm
 ·have:=h.dist b i g gi B hg hi hB (G.jQ hwi)
  subst this
  rw[hg] at hi;cases hi
  exact hw hwi
theorem Ae (h:Store M₀ γ σ w){e:TypeId}{i:TypeInfo}
  (b:Nat) (v:Value) (es es':List (List D)) (hsz:∀x∈es,x.length=i.size) (vs:List Value) (hvs:vs.length=es.length * i.size)
  (hown:w.ownsRow 0 e i.size v es.length vs) (hes:∀(k j:Nat) x d u,es[k]?=some x→x[j]?=some d→vs[k * i.size+j]?=some u→Rep (aC M₀ γ) γ w d u)
  (h1o:∀u∈vs,u.oneCell'=true)
  (hb:(γ b=none∧σ b=none∧v.ownBlock=none∧es=[])∨γ b=some (.aS i.size e v es.length))
  (hm:0<es'.length) (vs':List Value) (hvs':vs'.length=es'.length * i.size) (hsz':∀x∈es',x.length=i.size) (h1n:∀u∈vs',u.oneCell'=true)
  (hr':∀(k j:Nat) x d u,es'[k]?=some x→x[j]?=some d→vs'[k * i.size+j]?=some u→Rep (aC M₀ γ) γ w d u) {r:Result Value}
  (happ:∃B cap cur w',r= .ok (.slice (some ⟨B,0,none⟩) (es.length+es'.length) cap) w'∧
   w'.os=w.os∧w'.tape=w.tape∧w'.output=w.output∧w.heap.size≤w'.heap.size∧w'.heap[B]?=some (.cells cur e (0,0))∧cur.size=cap * i.size∧es.length+es'.length≤cap∧cap≤maxLen∧
   cur.toList.take ((es.length+es'.length) * i.size)=vs++vs'∧
   ((B=w.heap.size∧(∀k,k<w.heap.size→w'.heap[k]?=w.heap[k]?))∨
    (v.ownBlock=some B∧(∀k,k≠B→w'.heap[k]?=w.heap[k]?)))):
  ∃v' w' γ',r= .ok v' w'∧Store M₀ γ' (upd σ b (some (.aS e i.size (es.length+es'.length)))) w'∧aQ (aC M₀ γ) γ w (aC M₀ γ') γ' w'∧
   Rep (aC M₀ γ') γ' w' (.slice i.size false (es++es') (some b)) v':=by
 obtain⟨B,cap,cur,w',hrun,e1,e2,e3,e4,hB,hcs,hcap,hcm,htake,vG⟩:=happ
 have hlen:(es++es').length=es.length+es'.length:=List.length_append
 have hBlt:B<w'.heap.size:=(Array.getElem?_eq_some_iff.1 hB).1
 have hwr:∀B' off,(G.aS i.size e (.slice (some ⟨B,0,none⟩) (es.length+es'.length) cap) (es.length+es'.length)).wr B' off→B' < w.heap.size→aC M₀ γ B' off:=by
  rintro B' off ⟨hb1,hb2⟩ hlt
  simp only[Value.ownBlock,Option.some.injEq] at hb1
  subst hb1
  rcases vG with⟨rfl,_⟩ | ⟨hob,_⟩
  ·omega
  ·rcases hb with⟨_,_,hn,_⟩|hg
   ·rw[hn] at hob;cases hob
   ·refine .inr ⟨b,_,hg,hob,Nat.le_trans (Nat.mul_le_mul_right _ (Nat.le_add_right _ _)) hb2⟩
 have hcellB:∀off u,off<es.length * i.size→w.cell? ⟨B,off,none⟩=some u→v.ownBlock=some B→w'.cell? ⟨B,off,none⟩=some u:=by
  intro off u hoff hu hob
  have hx:vs[off]?=some u:=by
   have hl:off<vs.length:=by omega
   have h2:=hown.cells hob off _ (List.getElem?_eq_getElem hl)
   rw[Addr.add_lit] at h2
   simp only[Nat.zero_add] at h2
   rw[hu] at h2
   rw[List.getElem?_eq_getElem hl]
   exact h2.symm
  rw[cell_of_row w' B off cur e _ hB]
  have h3:(vs++vs')[off]?=some u:=by rw[List.getElem?_append_left (by omega)];exact hx
  rw[← htake,List.getElem?_take] at h3
  split at h3
  ·simpa using h3
  ·cases h3
 have hv:aQ (aC M₀ γ) γ w (aC M₀ (upd γ b (some (.aS i.size e (.slice (some ⟨B,0,none⟩) (es.length+es'.length) cap) (es.length+es'.length)))))
   (upd γ b (some (.aS i.size e (.slice (some ⟨B,0,none⟩) (es.length+es'.length) cap) (es.length+es'.length)))) w':=by
  refine⟨e1,e2,e3,e4,fun B' off u hM hu=>?_,fun B' off hM hlt=>?_,fun j gj hj=>?_,fun B' hlt hM=>?_,fun j gj B' hj hB' hlt=>?_⟩
  ·rcases vG with⟨_,hall⟩ | ⟨hob,hall⟩
   ·rw[World.cell?_of_block (w:=w) (w':=w') (by simpa using hall B' (cell_lt hu))];exact hu
   ·by_cases hBB:B'=B
    ·subst hBB
     have hoff:off<es.length * i.size:=by
      rcases hb with⟨_,_,hn,_⟩|hg
      ·rw[hn] at hob;cases hob
      ·rcases Nat.lt_or_ge off (es.length * i.size) with h|h
       ·exact h
       ·exact absurd (Or.inr ⟨b,_,hg,hob,h⟩) hM
     exact hcellB off u hoff hu hob
    ·rw[World.cell?_of_block (w:=w) (w':=w') (by simpa using hall B' hBB)];exact hu
  ·rcases aC.UK hM with hM|hM
   ·exact hM
   ·exact hwr B' off hM hlt
  ·by_cases hjb:j=b
   ·subst hjb
    rcases hb with⟨hn,_⟩|hg
    ·rw[hn] at hj;cases hj
    ·rw[hg] at hj;cases hj
     exact⟨_,upd_same _ _ _,_,_,rfl,Nat.le_add_right _ _,fun h=>by omega⟩
   ·exact⟨gj,by rw[bF _ _ hjb];exact hj,G.le_refl gj⟩
  ·rcases vG with⟨_,hall⟩ | ⟨hob,hall⟩
   ·exact hall B' hlt
   ·refine hall B' (fun hBB=>?_)
    subst hBB
    rcases hb with⟨_,_,hn,_⟩|hg
    ·rw[hn] at hob;cases hob
    ·exact hM b _ hg hob
  ·by_cases hjb:j=b
   ·subst hjb
    rw[upd_same] at hj;cases hj
    simp only[G.block,Value.ownBlock,Option.some.injEq] at hB'
    subst hB'
    rcases vG with⟨rfl,_⟩ | ⟨hob,_⟩
    ·omega
    ·rcases hb with⟨_,_,hn,_⟩|hg
     ·rw[hn] at hob;cases hob
     ·exact⟨_,_,hg,hob⟩
   ·rw[bF _ _ hjb] at hj;exact⟨j,gj,hj,hB'⟩
 have hst:Store M₀ (upd γ b (some (.aS i.size e (.slice (some ⟨B,0,none⟩) (es.length+es'.length) cap) (es.length+es'.length)))) (upd σ b (some (.aS e i.size (es.length+es'.length)))) w':=by
  refine h.change b _ _ w' hv (fun k gk B' hk hgk hB'=>?_) (fun B' hB'=>?_) ?_
  ·rcases vG with⟨_,hall⟩ | ⟨hob,hall⟩
   ·exact hall B' (h.lt hgk hB')
   ·refine hall B' (fun hBB=>?_)
    subst hBB
    rcases hb with⟨_,_,hn,_⟩|hg
    ·rw[hn] at hob;cases hob
    ·exact hk (h.dist k b _ _ _ hgk hg hB' hob)
  ·simp only[G.block,Value.ownBlock,Option.some.injEq] at hB'
   subst hB'
   rcases vG with⟨rfl,_⟩ | ⟨hob,_⟩
   ·exact .inl (Nat.le_refl _)
   ·rcases hb with⟨_,_,hn,_⟩|hg
    ·rw[hn] at hob;cases hob
    ·exact .inr ⟨_,hg,hob⟩
  ·exact .aS (vs++vs') ⟨by rw[List.length_append,hvs,hvs',Nat.add_mul],.inr ⟨B,cap,cur,rfl,Nat.zero_le _,hB,hcap,hcm,hcs,htake⟩⟩
 refine⟨_,w',_,hrun,hst,hv,?_⟩
 have hsz2:∀x∈es++es',x.length=i.size:=fun x hx=>(List.mem_append.1 hx).elim (hsz x) (hsz' x)
 refine (fun key=>by rw[hlen] at key;exact key:Rep _ _ _ _ (.slice (some ⟨B,0,none⟩) (es++es').length cap)→_) ?_
 refine Ad hB hsz2 (vs++vs') (by rw[List.length_append,List.length_append,hvs,hvs',Nat.add_mul]) (by rw[hlen];exact htake) (fun u hu=>(List.mem_append.1 hu).elim (h1o u) (h1n u)) (fun off hoff=>?_) (fun k j x d u hx hd hu=>?_) (by rw[hlen];exact hcap) ?_
 ·refine hst.Yb (upd_same _ _ _) (B:=B) rfl ?_
  rintro ⟨_,h2⟩
  rw[hlen] at hoff
  omega
 ·exact QU hvs (fun i j e d u a1 a2 a3=>(hes i j e d u a1 a2 a3).bZ hv) (fun i j e d u a1 a2 a3=>(hr' i j e d u a1 a2 a3).bZ hv) k j x d u hx hd hu (hsz2 x (List.mem_of_getElem? hx))
 ·intro t' ht'
  cases ht'
  exact⟨_,_,_,_,upd_same _ _ _,by omega,fun _=>by rw[hlen]⟩
theorem vH (h:Store M₀ γ σ w){t e:TypeId}{i:TypeInfo}{z:Value}(ht:P.underlying t=some (.slice e))(hi:P.info? e=some i)(hz:i.zero=some z)(hzs:z.cells.size=i.size)(ty:TypeId)
  (b:Nat) (v:Value) (es es':List (List D)) (hsz:∀x∈es,x.length=i.size) (vs:List Value) (hvs:vs.length=es.length * i.size)
  (hown:w.ownsRow 0 e i.size v es.length vs) (hes:∀(k j:Nat) x d u,es[k]?=some x→x[j]?=some d→vs[k * i.size+j]?=some u→Rep (aC M₀ γ) γ w d u)
  (h1o:∀u∈vs,u.oneCell'=true)
  (hb:(γ b=none∧σ b=none∧v.ownBlock=none∧es=[])∨γ b=some (.aS i.size e v es.length))
  (yv:Value) (nil:Bool) (aS:Option Nat) (hy:Rep (aC M₀ γ) γ w (.slice i.size nil es' aS) yv) (hne:es'≠[])
  (h63:es.length+es'.length≤9223372036854775807) (hby:(es.length+es'.length) * i.bytes≤140737488355328):
  ∃v' w' γ',(Builtin.append_ #[t,t] ty #[v,yv]).run P w= .ok v' w'∧Store M₀ γ' (upd σ b (some (.aS e i.size (es.length+es'.length)))) w'∧aQ (aC M₀ γ) γ w (aC M₀ γ') γ' w'∧
   Rep (aC M₀ γ') γ' w' (.slice i.size false (es++es') (some b)) v':=by
 rcases aW hy with⟨_,rfl,_⟩ | ⟨a,c,vs',rfl,_,hspot,hvs',hcc,hsz',hc',hr',_⟩
 ·exact absurd rfl hne
 have hm:0<es'.length:=List.length_pos_iff.2 hne
 have h1n:∀u∈vs',u.oneCell'=true:=fun u hu=>by
  obtain⟨j,hj⟩:=List.getElem?_of_mem hu
  exact (hc' j u hj).2.2
 exact Ae h b v es es' hsz vs hvs hown hes h1o hb hm vs' hvs' hsz' h1n hr'
  (Ie ht hi hz hzs ty v es.length vs hown a es'.length c vs' hvs' (fun j u hu=>by rw[nM (hspot hne)];exact (hc' j u hu).1) h1n hm h63 hby)
theorem Ig {t u e:TypeId}{i:TypeInfo}(ht:P.underlying t=some (.slice e))(hu:P.underlying u=some .string)(hi:P.info? e=some i)(hz:i.zero=some (.int .u8 0))(hs1:i.size=1)(ty:TypeId)
  (v:Value) (n:Nat) (xs:List Value) (hown:w.ownsRow 0 e i.size v n xs) (s:ByteArray) (hm:0<s.size)
  (h63:n+s.size≤9223372036854775807) (hb:(n+s.size) * i.bytes≤140737488355328):
  ∃B cap cur w',(Builtin.append_ #[t,u] ty #[v,.string s]).run P w= .ok (.slice (some ⟨B,0,none⟩) (n+s.size) cap) w'∧
   w'.os=w.os∧w'.tape=w.tape∧w'.output=w.output∧w.heap.size≤w'.heap.size∧w'.heap[B]?=some (.cells cur e (0,0))∧cur.size=cap * i.size∧n+s.size≤cap∧cap≤maxLen∧
   cur.toList.take ((n+s.size) * i.size)=xs++Lib.strCells s∧
   ((B=w.heap.size∧(∀k,k<w.heap.size→w'.heap[k]?=w.heap[k]?))∨
    (v.ownBlock=some B∧(∀k,k≠B→w'.heap[k]?=w.heap[k]?))):=by
 have hml:maxLen=9223372036854775807:=rfl
 have hz1:(Value.int IntKind.u8 0).cells.size=1:=rfl
 have hlen:(xs++Lib.strCells s).length=(n+s.size) * i.size:=by rw[List.length_append,hown.1,Lib.strCells_length,hs1,Nat.add_mul];omega
 rcases hown.2 with⟨rfl,rfl⟩ | ⟨g,cap,cur,rfl,_,hg,hnc,hcm,hcs,htake⟩
 ·have hx:xs=[]:=List.eq_nil_of_length_eq_zero (by simpa using hown.1)
  subst hx
  simp only[Nat.zero_add,List.nil_append] at *
  have hr:=run_append_nil_string (P:=P) w t u ty e i (.int .u8 0) ht hu hi hz s hm (by omega) (En hb)
  have e1:(s.data.map fun b=>Value.int .u8 b.toNat)=(Lib.strCells s).toArray:=by
   apply Array.ext'
   simp[Lib.strCells]
  rw[e1] at hr
  have hge:=grownCap_ge w s.size 0 e
  refine⟨_,_,_,_,hr,rfl,rfl,rfl,by simp,heap_alloc_new w.drew _,?_,hge,grownCap_le_maxLen w s.size 0 e (by omega),?_,.inl ⟨rfl,fun k hk=>heap_alloc_old w.drew _ k hk⟩⟩
  ·simp only[Array.size_append,List.size_toArray,size_zeroCells,hz1,hs1,Lib.strCells_length];omega
  ·rw[Array.toList_append,List.toList_toArray,← hlen];exact List.take_left
 ·by_cases hroom:n+s.size≤cap
  ·have hr:=Lib.run_append_room_string (P:=P) w t u ty e i ht hu hi hs1 g n cap cur hg s hroom (by rw[hcs,hs1];omega)
   have ht':cur.toList.take n=xs:=by simpa [hs1] using htake
   refine⟨g,cap,_,_,hr,rfl,rfl,rfl,by simp,setRow_heap w g cur _ e _ hg,?_,hroom,hcm,?_,.inr ⟨rfl,fun k hk=>setRow_other w g k _ hk⟩⟩
   ·simp only[List.size_toArray,List.length_append,List.length_take,List.length_drop,Array.length_toList,Lib.strCells_length];rw[hs1] at hcs ⊢;omega
   ·rw[ht',List.toList_toArray,← hlen];exact List.take_left
  ·have hfits:=growslice_fits (need:=n+s.size) (old:=cap) (bytes:=i.bytes) (by omega) hb
   have holds:∀j u,xs[j]?=some u→w.cell? ((⟨g,0,none⟩:Addr).add j)=some u:=hown.cells rfl
   have hr:=Lib.run_append_grow_string (P:=P) w t u ty e i (.int .u8 0) ht hu hi hz ⟨g,0,none⟩ n cap xs hown.1 holds s (by omega) (by omega) hfits
   have hge:=grownCap_ge w (n+s.size) cap e
   refine⟨_,_,_,_,hr,rfl,rfl,rfl,by simp,heap_alloc_new w.drew _,?_,hge,grownCap_le_maxLen w (n+s.size) cap e (by omega),?_,.inl ⟨rfl,fun k hk=>heap_alloc_old w.drew _ k hk⟩⟩
   ·have:=hown.1
    simp only[Array.size_append,List.size_toArray,size_zeroCells,hz1,hs1,Lib.strCells_length];rw[hs1] at this;omega
   ·rw[Array.toList_append,Array.toList_append,List.toList_toArray,List.toList_toArray,List.append_assoc,← List.append_assoc,← hlen];exact List.take_left
theorem ads {s:List UInt8}{k j:Nat}{x:List D}{d:D}(h1:(eY s)[k]?=some x)(h2:x[j]?=some d):∃b,s[k]?=some b∧j=0∧d= .int .u8 b.toNat:=by
 simp only[eY,List.getElem?_map,Option.map_eq_some_iff] at h1
 obtain⟨b,hb,rfl⟩:=h1
 cases j with
 |zero=>simp at h2;exact⟨b,hb,rfl,h2.symm⟩
 |succ j=>simp at h2
theorem vI (h:Store M₀ γ σ w){t u e:TypeId}{i:TypeInfo}(ht:P.underlying t=some (.slice e))(hu:P.underlying u=some .string)(hi:P.info? e=some i)(hz:i.zero=some (.int .u8 0))(hs1:i.size=1)(ty:TypeId)
  (b:Nat) (v:Value) (es:List (List D)) (hsz:∀x∈es,x.length=i.size) (vs:List Value) (hvs:vs.length=es.length * i.size)
  (hown:w.ownsRow 0 e i.size v es.length vs) (hes:∀(k j:Nat) x d u,es[k]?=some x→x[j]?=some d→vs[k * i.size+j]?=some u→Rep (aC M₀ γ) γ w d u)
  (h1o:∀u∈vs,u.oneCell'=true)
  (hb:(γ b=none∧σ b=none∧v.ownBlock=none∧es=[])∨γ b=some (.aS i.size e v es.length))
  (s:ByteArray) (hne:s.data.toList≠[])
  (h63:es.length+s.data.toList.length≤9223372036854775807) (hby:(es.length+s.data.toList.length) * i.bytes≤140737488355328):
  ∃v' w' γ',(Builtin.append_ #[t,u] ty #[v,.string s]).run P w= .ok v' w'∧Store M₀ γ' (upd σ b (some (.aS e i.size (es.length+s.data.toList.length)))) w'∧aQ (aC M₀ γ) γ w (aC M₀ γ') γ' w'∧
   Rep (aC M₀ γ') γ' w' (.slice i.size false (es++eY s.data.toList) (some b)) v':=by
 have hl:(eY s.data.toList).length=s.size:=by rw[eY,List.length_map];rfl
 have hl':s.data.toList.length=s.size:=rfl
 rw[hl'] at h63 hby ⊢
 have hm:0<s.size:=by have:=List.length_pos_iff.2 hne;omega
 have:=Ae (e:=e) h b v es (eY s.data.toList) hsz vs hvs hown hes h1o hb (by omega) (Lib.strCells s) (by rw[Lib.strCells_length,hl,hs1,Nat.mul_one]) (fun x hx=>by
   simp only[eY,List.mem_map] at hx
   obtain⟨c,_,rfl⟩:=hx
   simp[hs1]) (Lib.strCells_oneCell s) (fun k j x d u h1 h2 h3=>by
   obtain⟨c,hc,rfl,rfl⟩:=ads h1 h2
   rw[hs1,Nat.mul_one,Nat.add_zero,Lib.strCells,List.getElem?_map,hc] at h3
   simp only[Option.map_some,Option.some.injEq] at h3
   subst h3
   exact .int _ _) (r:=(Builtin.append_ #[t,u] ty #[v,.string s]).run P w) (by rw[hl];exact Ig ht hu hi hz hs1 ty v es.length vs hown s hm h63 hby)
 rw[hl] at this
 exact this
end
end Go.Id
namespace Go.Id
open Go
section
variable {P:Program} {M₀:Base} {γ:Nat→Option G} {σ:Nat→Option aU} {w:World}
theorem adt (h:Store M₀ γ σ w){id:Nat}(hid:σ id=none)(e:TypeId){d:D}{v:Value}(hd:Rep (aC M₀ γ) γ w d v){cs:List D}(hc:cells? d=some cs):
  Out M₀ γ σ w (((Instr.box e v) >>= fun x=>pure (Next.value x)).run P w) (.ref id 0) [(id,.box e cs)]:=by
 obtain⟨h1,h2,h3⟩:=hd.cells hc
 obtain⟨hs,hv⟩:=h.ZT hid e h1 h2 h3
 exact⟨_,_,_,.inl (by simp[Instr.box,newVar,newRow]),hs,hv,.ref (.inl (upd_same _ _ _))⟩
theorem uf {e:TypeId}{cs:List D}(h:gV P e=some cs):∃i v,P.info? e=some i∧i.zero=some v∧cells? (jv v)=some cs:=by
 unfold gV at h
 cases hi:P.info? e with
 |none=>rw[hi] at h;simp at h
 |some i=>
  rw[hi] at h
  simp only[Option.map_some] at h
  split at h
  ·rename_i v hv
   simp only[Option.some.injEq] at hv
   exact⟨i,v,rfl,hv,h⟩
  ·cases h
theorem Yc (h:Store M₀ γ σ w){id:Nat}(hid:σ id=none)(e:TypeId){cs:List D}(hz:gV P e=some cs):
  Out M₀ γ σ w (((Instr.alloc e true (.tuple #[])) >>= fun x=>pure (Next.value x)).run P w) (.ref id 0) [(id,.box e cs)]:=by
 obtain⟨i,v,hi,hv,hc⟩:=uf hz
 obtain⟨h1,h2,h3⟩:=(jy (γ:=γ) (w:=w) (aC M₀ γ) v).cells hc
 obtain⟨hs,hv'⟩:=h.ZT hid e h1 h2 h3
 exact⟨_,_,_,.inl (by simp[Instr.alloc,zeroValue,typeInfo,hi,hv,newVar,newRow]),hs,hv',.ref (.inl (upd_same _ _ _))⟩
theorem kT (g o:Nat)(t:TypeId)(fz:Nat × Nat):∀(vs:List Value) (i:Nat) (cur:Array Value) (w:World),w.heap[g]?=some (.cells cur t fz)→o+i+vs.length≤cur.size→
  (∀j,j<cur.size→w.frozen? ⟨g,j,none⟩=false)→(∀v∈vs,v.oneCell'=true)→
  (storeCells ⟨g,o,none⟩ vs i).run P w= .ok () (w.setRow g (cur.toList.take (o+i)++vs++cur.toList.drop (o+i+vs.length)).toArray)
 | [],i,cur,w,hg,_,_,_=>by
  simp only[storeCells,List.append_nil,List.length_nil,Nat.add_zero,List.take_append_drop,Array.toArray_toList]
  rw[setRow_self w g cur t fz hg]
  rfl
 |v::rest,i,cur,w,hg,hl,hf,h1=>by
  have hi:o+i<cur.size:=by simp at hl;omega
  have hadd:(⟨g,o,none⟩:Addr).add i=⟨g,o+i,none⟩:=Addr.add_lit g o i
  have hcell:w.cell? ⟨g,o+i,none⟩=some cur[o+i]:=by simp[World.cell?,hg,hi]
  have hfro:w.frozen? ⟨g,o+i,none⟩=false:=hf _ hi
  have hst:(store ((⟨g,o,none⟩:Addr).add i) v).run P w= .ok () (w.setRow g (cur.setIfInBounds (o+i) v)):=by
   rw[hadd,run_store P w _ v _ (h1 v (by simp)),hcell]
   simp[hfro,setCell_eq_setRow w g (o+i) cur t fz v hg]
  have hg':=setRow_heap w g cur (cur.setIfInBounds (o+i) v) t _ hg
  have ih:=kT g o t fz rest (i+1) (cur.setIfInBounds (o+i) v) (w.setRow g (cur.setIfInBounds (o+i) v)) hg' (by simp at hl ⊢;omega)
   (fun j hj=>by
    have:=hf j (by simpa using hj)
    simp only[World.frozen?,hg] at this
    simp only[World.frozen?,hg']
    exact this) (fun x hx=>h1 x (by simp[hx]))
  simp only[storeCells,Sem.run_bind,hst,Result.andThen_ok,ih,setRow_setRow]
  congr 3
  have e:=list_seg_step cur.toList (o+i) v rest (by simp at hl ⊢;omega)
  simpa [Array.toList_setIfInBounds,Nat.add_assoc] using e
theorem pW {α:Type}(l vs:List α)(off i:Nat)(h:off+vs.length≤l.length):
  (l.take off++vs++l.drop (off+vs.length))[i]?=if off≤i∧i<off+vs.length then vs[i - off]? else l[i]?:=by
 by_cases h1:i<off
 ·rw[List.append_assoc,List.getElem?_append_left (by simp;omega),List.getElem?_take,if_pos h1,if_neg (by omega)]
 ·by_cases h2:i<off+vs.length
  ·rw[if_pos (by omega),List.append_assoc,List.getElem?_append_right (by simp;omega),List.getElem?_append_left (by simp;omega)]
   congr 1;simp;omega
  ·rw[if_neg (by omega),List.getElem?_append_right (by simp;omega),List.getElem?_drop]
   congr 1;simp;omega
theorem L9 (h:Store M₀ γ σ w){t:TypeId}{sz:Nat}(hs:rY P t=some sz){b off:Nat}{cs:List D}(mk:List D→aU)(hmk:(∃t',mk= .box t')∨∃z,mk= .arr z)(hb:σ b=some (mk cs))
  {x:D} {xv av:Value} (hx:Rep (aC M₀ γ) γ w x xv) {vs:List D} (hc:cells? x=some vs) (hl:vs.length=sz) (hoff:off+sz≤cs.length)
  (hav:Rep (aC M₀ γ) γ w (.ref b off) av):
  Out M₀ γ σ w (((Instr.storeAt t av xv) >>= fun _=>pure Next.skip).run P w) .junk [(b,mk (cs.take off++vs++cs.drop (off+sz)))]:=by
 obtain⟨c1,c2,c3⟩:=hx.cells hc
 have hlv:xv.cells.toList.length=sz:=by simp;omega
 have main:∀(B:Nat) (g:G) (ws:Array Value) (e:TypeId) (fz:Nat × Nat),γ b=some g→g.block=some B→(∀off,g.wr B off)→av= .pointer (some ⟨B,off,none⟩)→w.heap[B]?=some (.cells ws e fz)→cs.length≤ws.size→
   (∀j,j<ws.size→w.frozen? ⟨B,j,none⟩=false)→(∀(i:Nat) v,i<cs.length→ws[i]?=some v→v.oneCell'=true)→(∀(i:Nat) d v,cs[i]?=some d→ws[i]?=some v→Rep (aC M₀ γ) γ w d v)→
   (∀(w':World) (ws':Array Value),w'.heap[B]?=some (.cells ws' e fz)→ws'.size=ws.size→(∀j,j<ws.size→w'.frozen? ⟨B,j,none⟩=false)→(∀(i:Nat) v,i<cs.length→ws'[i]?=some v→v.oneCell'=true)→
    (∀(i:Nat) d v,(cs.take off++vs++cs.drop (off+sz))[i]?=some d→ws'[i]?=some v→Rep (aC M₀ γ) γ w' d v)→cO (aC M₀ γ) γ w' (mk (cs.take off++vs++cs.drop (off+sz))) g)→
   Out M₀ γ σ w (((Instr.storeAt t av xv) >>= fun _=>pure Next.skip).run P w) .junk [(b,mk (cs.take off++vs++cs.drop (off+sz)))]:=by
  intro B g ws e fz hg hgB hgw akR hB hlen hfro h1 hr hfin
  subst akR
  have hst:=kT (P:=P) B off e fz xv.cells.toList 0 ws w hB (by omega) hfro (fun u hu=>by
   obtain⟨j,hj⟩:=List.getElem?_of_mem hu
   exact c2 j u (by simpa using hj))
  simp only[Nat.add_zero] at hst
  generalize hw':w.setRow B (ws.toList.take off++xv.cells.toList++ws.toList.drop (off+xv.cells.toList.length)).toArray=w' at hst
  have hB':w'.heap[B]?=some (.cells (ws.toList.take off++xv.cells.toList++ws.toList.drop (off+xv.cells.toList.length)).toArray e fz):=by rw[← hw'];exact setRow_heap w B ws _ e fz hB
  have hother:∀k,k≠B→w'.heap[k]?=w.heap[k]?:=fun k hk=>by rw[← hw'];exact setRow_other w B k _ hk
  have hsize:w'.heap.size=w.heap.size:=by rw[← hw'];simp
  have hM:∀o,aC M₀ γ B o:=fun o=> .inr ⟨b,g,hg,hgw o⟩
  have hv:aQ (aC M₀ γ) γ w (aC M₀ γ) γ w':=by
   refine⟨by rw[← hw'];rfl,by rw[← hw'];rfl,by rw[← hw'];rfl,by omega,fun B' o u hn hu=>?_,fun _ _ h _=>h,fun _ g h=>⟨g,h,G.le_refl g⟩,fun B' _ hn=>hother B' (fun e=>hn b g hg (by rw[e];exact hgB)),fun i gi _ h h' _=>⟨i,gi,h,h'⟩⟩
   have:B'≠B:=fun e=>by subst e;exact hn (hM o)
   rw[World.cell?_of_block (w:=w) (w':=w') (by simpa using hother B' this)];exact hu
  have lW:upd γ b (some g)=γ:=by funext i;by_cases hi:i=b <;> simp[upd,hi,hg]
  refine⟨undef,w',γ,.inr ⟨?_,rfl⟩,?_,hv,.junk _⟩
  ·have hne:¬(xv.cells.size≠sz):=by omega
   simp[Instr.storeAt,Instr.sureAddr,storeVar,OZ hs,hne,hst]
  ·have:=h.change b (mk (cs.take off++vs++cs.drop (off+sz))) g w' (by rw[lW];exact hv) (fun i gi B2 hi hgi yL=>hother B2 (fun e=>hi (h.dist i b gi g B2 hgi hg yL (by rw[e];exact hgB)))) (fun B' hB'=> .inr ⟨g,hg,hB'⟩) (by
    rw[lW]
    refine hfin w' _ hB' (by simp;omega) (fun i hlt=>?_) (fun i v hin hi=>?_) (fun i d v hd hi=>?_)
    ·have:=hfro i hlt
     simp only[World.frozen?,hB] at this
     simp only[World.frozen?,hB']
     exact this
    ·simp only[List.getElem?_toArray] at hi
     rw[pW _ _ _ _ (by simp;omega)] at hi
     split at hi
     ·exact c2 _ v (by simpa using hi)
     ·exact h1 i v hin (by simpa using hi)
    ·simp only[List.getElem?_toArray] at hi
     rw[pW _ _ _ _ (by simp;omega)] at hi
     rw[← hl,pW _ _ _ _ (by omega)] at hd
     have e1:xv.cells.toList.length=vs.length:=by omega
     rw[e1] at hi
     split at hi
     ·rename_i hc'
      rw[if_pos hc'] at hd
      exact (c3 _ d v hd (by simpa using hi)).bZ hv
     ·rename_i hc'
      rw[if_neg hc'] at hd
      exact (hr i d v hd (by simpa using hi)).bZ hv)
   rw[lW] at this
   exact this
 obtain⟨g,h2,h3⟩:=h.hit hb
 cases hav with
 | @ref _ B _ hγ=>
  rcases hmk with⟨t',rfl⟩ | ⟨z,rfl⟩
  ·cases h3 with
   | @box _ B' ws e fz hB hlen h1 hr=>
    rcases hγ with hγ | ⟨_,_,hγ⟩|hγ <;> rw[h2] at hγ <;> cases hγ
    exact main _ (.box B) ws _ fz h2 rfl (fun _=>rfl) rfl hB (by omega) (fun j hj=>(h1 j _ (Array.getElem?_eq_getElem hj)).2) (fun i v _ hi=>(h1 i v hi).1) hr (fun w' ws' a1 a2 a3 a3' a4=> .box ws' _ fz a1 (by simp;omega) (fun i v hi=>by
     have hlt:=(Array.getElem?_eq_some_iff.1 hi).1
     exact⟨a3' i v (by omega) hi,a3 i (by omega)⟩) a4)
  ·cases h3 with
   | @arr _ _ B' cap z' ws _ fz hB hlen h1 hr hf=>
    rcases hγ with hγ | ⟨_,_,hγ⟩|hγ <;> rw[h2] at hγ <;> cases hγ
    refine main _ (.arr B cap _) ws _ fz h2 rfl (fun _=>rfl) rfl hB (by omega) (fun j hj=>frz hf.1 hB hj) (fun i v hi=>fun h=>(h1 i v hi h).1) hr (fun w' ws' a1 a2 a3 a3' a4=> .arr ws' _ fz a1 (by simp;omega) (fun i v hn hi=>⟨a3' i v (by simp at hn;omega) hi,a3 i (by have:=(Array.getElem?_eq_some_iff.1 hi).1;omega)⟩) a4 ?_)
    obtain⟨b1,b3,b4⟩:=hf
    exact⟨by rw[a2];exact b1,by omega,b4⟩
theorem WE (h:Store M₀ γ σ w){b off:Nat}{e:TypeId}{cs:List D}(hb:σ b=some (.arr e cs)){B cap z:Nat}(hg:γ b=some (.arr B cap z))(zs:List Value)(h1:∀u∈zs,u.oneCell'=true)(hl:off+zs.length≤cap * z)(nv:Value):
  Out M₀ γ σ w ((storeCells ⟨B,off,none⟩ zs >>= fun _=>pure (Next.value nv)).run P w) .junk [(b,.arr e (cs.take off))]:=by
 obtain⟨g,h2,h3⟩:=h.hit hb
 rw[hg] at h2;cases h2
 cases h3 with
 | @arr e0 _ _ _ _ ws _ fz hB hlen ho hr hf=>
  obtain⟨hff,hws,hcm⟩:=hf
  have hfro:∀j,j<ws.size→w.frozen? ⟨B,j,none⟩=false:=fun j hj=>frz hff hB hj
  have hst:=kT (P:=P) B off e0 fz zs 0 ws w hB (by omega) hfro h1
  simp only[Nat.add_zero] at hst
  generalize hw':w.setRow B (ws.toList.take off++zs++ws.toList.drop (off+zs.length)).toArray=w' at hst
  have hB':w'.heap[B]?=some (.cells (ws.toList.take off++zs++ws.toList.drop (off+zs.length)).toArray e0 fz):=by rw[← hw'];exact setRow_heap w B ws _ e0 fz hB
  have hother:∀k,k≠B→w'.heap[k]?=w.heap[k]?:=fun k hk=>by rw[← hw'];exact setRow_other w B k _ hk
  have hsize:w'.heap.size=w.heap.size:=by rw[← hw'];simp
  have hM:∀o,aC M₀ γ B o:=fun o=> .inr ⟨b,_,hg,rfl⟩
  have hv:aQ (aC M₀ γ) γ w (aC M₀ γ) γ w':=by
   refine⟨by rw[← hw'];rfl,by rw[← hw'];rfl,by rw[← hw'];rfl,by omega,fun B' o u hn hu=>?_,fun _ _ h _=>h,fun _ g h=>⟨g,h,G.le_refl g⟩,fun B' _ hn=>hother B' (fun e=>hn b _ hg (by rw[e];rfl)),fun i gi _ h h' _=>⟨i,gi,h,h'⟩⟩
   have:B'≠B:=fun e=>by subst e;exact hn (hM o)
   rw[World.cell?_of_block (w:=w) (w':=w') (by simpa using hother B' this)];exact hu
  have lW:upd γ b (some (G.arr B cap z))=γ:=by funext i;by_cases hi:i=b <;> simp[upd,hi,hg]
  refine⟨nv,w',γ,.inl ?_,?_,hv,.junk _⟩
  ·simp only[Sem.run_bind,hst,Result.andThen_ok];rfl
  ·have hsz:(ws.toList.take off++zs++ws.toList.drop (off+zs.length)).toArray.size=ws.size:=by simp;omega
   have:=h.change b (.arr e (cs.take off)) (.arr B cap z) w' (by rw[lW];exact hv) (fun i gi B2 hi hgi yL=>hother B2 (fun e=>hi (h.dist i b gi _ B2 hgi hg yL (by rw[e];rfl)))) (fun B' hB'=> .inr ⟨_,hg,hB'⟩) (by
    rw[lW]
    have same:∀(i:Nat) v,i<(cs.take off).length→(ws.toList.take off++zs++ws.toList.drop (off+zs.length)).toArray[i]?=some v→ws[i]?=some v∧i<cs.length:=by
     intro i v hi hv
     have hi':i<off∧i<cs.length:=by rw[List.length_take] at hi;omega
     simp only[List.getElem?_toArray] at hv
     rw[List.append_assoc,List.getElem?_append_left (by simp;omega),List.getElem?_take,if_pos hi'.1,Array.getElem?_toList] at hv
     exact⟨hv,hi'.2⟩
    refine .arr _ e fz hB' (by rw[hsz,List.length_take];omega) (fun i v hi hv'=>?_) (fun i d v hd hv'=>?_) ⟨by rw[hsz];exact hff,by rw[hsz];exact hws,hcm⟩
    ·obtain⟨r1,r2⟩:=same i v hi hv'
     exact⟨(ho i v r2 r1).1,by
      have h9:=(ho i v r2 r1).2
      simp only[World.frozen?,hB] at h9
      simp only[World.frozen?,hB']
      exact h9⟩
    ·have hi:=(List.getElem?_eq_some_iff.1 hd).1
     obtain⟨r1,r2⟩:=same i v hi hv'
     rw[List.getElem?_take] at hd
     split at hd
     ·exact (hr i d v hd r1).bZ hv
     ·cases hd)
   rw[lW] at this
   exact this
end
end Go.Id
namespace Go.Id
open Go
section
variable {P:Program} {M:Nat→Nat→Prop} {γ:Nat→Option G} {w:World}
theorem qK {s:List UInt8}{b:ByteArray}(h:b.data.toList=s):Rep M γ w (.str s) (.string b):=by subst h;exact .str b
theorem Yd {op:BinOp}{a b:ByteArray}{f:Eff}(h:strD op a.data.toList b.data.toList=some f)(hs:f.side):
  ∃v,(Op.stringOp op a b).run P w= .ok v w∧Rep M γ w f.val v∧f.ws=[]:=by
 unfold strD at h
 split at h <;> simp only[Option.some.injEq,reduceCtorEq] at h <;> subst h <;> simp only[aH] at *
 ·refine⟨.string (a++b),?_,?_⟩
  ·have ha:a.data.toList.length=a.size:=by simp
   have hb:b.data.toList.length=b.size:=by simp
   simp only[Op.stringOp]
   rw[if_neg]
   ·rfl
   ·simp only[IntKind.max,IntKind.signed,IntKind.bits,if_true]
    omega
  ·exact⟨qK (by simp),trivial⟩
 all_goals
  refine⟨_,by simp only[Op.stringOp,ByteArray.toList_eq];rfl,?_,trivial⟩
  exact .bool _
theorem Ye {op:BinOp}{k:IntKind}{a b:Int}{d:D}(h:intD op k a b=some d)(t:TypeId):
  ∃v,(binOp op t (.int k a) (.int k b)).run P w= .ok v w∧Rep M γ w d v:=by
 cases op <;> simp only[intD,Option.some.injEq,reduceCtorEq] at h
 case quo|rem=>
  split at h <;> simp only[Option.some.injEq,reduceCtorEq] at h
  rename_i hb
  subst h
  exact⟨_,by simp only[binOp,Op.intDiv,if_neg hb,ne_eq,not_true,if_false];rfl,.int _ _⟩
 all_goals
  subst h
  first
   |exact⟨_,by simp only[binOp,Op.intArith,Op.intBits,Op.intCmp,ne_eq,not_true,if_false];rfl,.int _ _⟩
   |exact⟨_,by simp only[binOp,Op.intCmp,ne_eq,not_true,if_false];rfl,.bool _⟩
theorem str_inj {s:List UInt8}{v:Value}(h:Rep M γ w (.str s) v):∃b:ByteArray,v= .string b∧b.data.toList=s:=by
 cases h with|str b=>exact⟨b,rfl,rfl⟩
theorem int_inj {k:IntKind}{n:Int}{v:Value}(h:Rep M γ w (.int k n) v):v= .int k n:=by cases h;rfl
theorem nO {b:Bool}{v:Value}(h:Rep M γ w (.bool b) v):v= .bool b:=by cases h;rfl
theorem qL {t:TypeId}{c:CK}(h:QT P t=some c){xs:Array Value}{off:Nat}{v:Value}(hv:xs[off]?=some v):(part t xs off).run P w= .ok v w:=by
 have ha:(isAgg t).run P w= .ok false w:=by
  unfold QT at h
  simp only[isAgg,underlying,Sem.run_bind,run_program,Result.andThen_ok]
  split at h <;> first|(rename_i he;simp[he];done)|(exfalso;simp at h;done)
 simp[part,ha,hv]
theorem qM:∀(ks ks':List CK) (cs ds:List D) (r:Bool),bY (ks++ks') cs ds=some r→∃c1 c2 d1 d2 r1 r2,cs=c1++c2∧ds=d1++d2∧bY ks c1 d1=some r1∧bY ks' c2 d2=some r2∧r=(r1 && r2)∧c1.length=ks.length∧d1.length=ks.length
 | [],ks',cs,ds,r,h=>⟨[],cs,[],ds,true,r,rfl,rfl,rfl,h,by simp,rfl,rfl⟩
 |k::ks,ks',cs,ds,r,h=>by
  have go:∀(x y:D) (cs' ds':List D) (q:Bool) (r':Bool),(∀(u:List CK) (a b:List D),bY (k::u) (x::a) (y::b)=(bY u a b).map fun r=>q && r)→bY (ks++ks') cs' ds'=some r'→
    ∃c1 c2 d1 d2 r1 r2,x::cs'=c1++c2∧y::ds'=d1++d2∧bY (k::ks) c1 d1=some r1∧bY ks' c2 d2=some r2∧(q && r')=(r1 && r2)∧c1.length=(k::ks).length∧d1.length=(k::ks).length:=by
   intro x y cs' ds' q r' hq h'
   obtain⟨c1,c2,d1,d2,r1,r2,rfl,rfl,h1,h2,rfl,h3,h4⟩:=qM ks ks' cs' ds' r' h'
   exact⟨x::c1,c2,y::d1,d2,q && r1,r2,rfl,rfl,by rw[hq,h1];rfl,h2,by simp[Bool.and_assoc],by simp[h3],by simp[h4]⟩
  rw[List.cons_append] at h
  cases cs with
  |nil=>cases k <;> simp[bY] at h
  |cons x cs'=>
   cases ds with
   |nil=>cases k <;> cases x <;> simp[bY] at h
   |cons y ds'=>
    cases k <;> cases x <;> cases y <;> simp only[bY,reduceCtorEq] at h
    ·simp only[Option.map_eq_some_iff] at h
     obtain⟨r',h',rfl⟩:=h
     exact go _ _ cs' ds' _ r' (fun u a b=>by simp[bY]) h'
    ·split at h
     rotate_left
     ·cases h
     rename_i hk
     subst hk
     simp only[Option.map_eq_some_iff] at h
     obtain⟨r',h',rfl⟩:=h
     exact go _ _ cs' ds' _ r' (fun u a b=>by simp[bY]) h'
    ·simp only[Option.map_eq_some_iff] at h
     obtain⟨r',h',rfl⟩:=h
     exact go _ _ cs' ds' _ r' (fun u a b=>by simp[bY]) h'
theorem eq_one (n:Nat){t:TypeId}{c:CK}(hc:QT P t=some c){d e:D}{q:Bool}(he:bY [c] [d] [e]=some q){a b:Value}(ha:Rep M γ w d a)(hb:Rep M γ w e b):(Op.equalIn (n+1) t a b).run P w= .ok q w:=by
 unfold QT at hc
 cases c <;> cases d <;> cases e <;> simp only[bY,reduceCtorEq] at he
 ·simp only[Option.map_some,Bool.and_true,Option.some.injEq] at he
  subst he
  rw[nO ha,nO hb]
  have ht:P.underlying t=some .bool:=by split at hc <;> first|assumption|(simp at hc)
  exact run_equalIn_bool' w n t _ _ ht
 ·split at he
  rotate_left
  ·cases he
  rename_i hkk
  subst hkk
  simp only[Option.map_some,Bool.and_true,Option.some.injEq] at he
  subst he
  rw[int_inj ha,int_inj hb]
  have ht:∃k',P.underlying t=some (.int k'):=by split at hc <;> first|exact⟨_,by assumption⟩|(simp at hc)
  obtain⟨k',ht⟩:=ht
  exact run_equalIn_int w n t _ k' _ _ ht
 ·simp only[Option.map_some,Bool.and_true,Option.some.injEq] at he
  subst he
  obtain⟨sa,rfl,hsa⟩:=str_inj ha
  obtain⟨sb,rfl,hsb⟩:=str_inj hb
  have ht:P.underlying t=some .string:=by split at hc <;> first|assumption|(simp at hc)
  have hq:=run_equalIn_string (P:=P) w n t sa sb ht
  rw[ByteArray.toList_eq,ByteArray.toList_eq,hsa,hsb] at hq
  exact hq
def At (M:Nat→Nat→Prop)(γ:Nat→Option G)(w:World)(k:Nat)(cs:List D)(xs:Array Value):Prop:=∀(i:Nat) d,cs[i]?=some d→∃v,xs[k+i]?=some v∧Rep M γ w d v
theorem At.left {k:Nat}{a b:List D}{xs:Array Value}(h:At M γ w k (a++b) xs):At M γ w k a xs:=fun i d hd=>h i d (by rw[List.getElem?_append_left (List.getElem?_eq_some_iff.1 hd).1];exact hd)
theorem At.right {k:Nat}{a b:List D}{xs:Array Value}(h:At M γ w k (a++b) xs):At M γ w (k+a.length) b xs:=fun i d hd=>by
 obtain⟨v,h1,h2⟩:=h (a.length+i) d (by rw[List.getElem?_append_right (by omega)];simpa using hd)
 exact⟨v,by rw[Nat.add_assoc];exact h1,h2⟩
theorem Lm (n:Nat):∀(fs:List Field) (ks:List CK) (k:Nat) (cs ds:List D) (xs ys:Array Value) (r:Bool),ZR P k fs=some ks→bY ks cs ds=some r→
  At M γ w k cs xs→At M γ w k ds ys→(Op.eqFields (n+1) xs ys fs).run P w= .ok r w:=by
 intro fs
 induction fs with
 |nil=>
  intro ks k cs ds xs ys r hk he hx hy
  simp only[ZR,Option.some.injEq] at hk
  subst hk
  cases cs <;> cases ds <;> simp only[bY,Option.some.injEq,reduceCtorEq] at he
  subst he
  rfl
 |cons f fs ih=>
  intro ks k cs ds xs ys r hk he hx hy
  simp only[ZR] at hk
  split at hk
  rotate_left
  ·cases hk
  rename_i hf
  obtain⟨hoff,hname⟩:=hf
  cases hc:QT P f.type with
  |none=>rw[hc] at hk;cases hk
  |some c=>
   rw[hc] at hk
   simp only[Option.bind_some,Option.map_eq_some_iff] at hk
   obtain⟨ks',agp,rfl⟩:=hk
   obtain⟨c1,c2,d1,d2,r1,r2,rfl,rfl,h1,h2,rfl,h3,h4⟩:=qM [c] ks' cs ds r he
   match c1,d1,h3,h4 with
   | [c0],[d0],_,_=>
    obtain⟨va,ha1,ha2⟩:=hx 0 _ rfl
    obtain⟨vb,hb1,hb2⟩:=hy 0 _ rfl
    have hq:=eq_one (P:=P) n hc h1 ha2 hb2
    have:=ih ks' (k+1) c2 d2 xs ys r2 agp h2 hx.right hy.right
    simp only[Nat.add_zero] at ha1 hb1
    simp only[Op.eqFields,Sem.run_ite]
    rw[if_pos hname]
    simp only[Sem.run_bind,hoff,qL hc ha1,qL hc hb1,Result.andThen_ok,hq]
    cases r1
    ·simp
    ·simp[this]
theorem QV {t:TypeId}{gs:Array Field}(h:P.underlying t=some (.struct gs)){sz:Nat}(hs:rY P t=some sz)(xs:Array Value)(off:Nat):(part t xs off).run P w= .ok (.agg (xs.extract off (off+sz))) w:=by
 have ha:(isAgg t).run P w= .ok true w:=by simp[isAgg,underlying,h]
 simp[part,ha,OZ hs]
theorem Ih (n:Nat):∀(fs:List Field) (ks:List CK) (k:Nat) (cs ds:List D) (xs ys:Array Value) (r:Bool),LZ P k fs=some ks→bY ks cs ds=some r→
  At M γ w k cs xs→At M γ w k ds ys→(Op.eqFields (n+2) xs ys fs).run P w= .ok r w:=by
 intro fs
 induction fs with
 |nil=>
  intro ks k cs ds xs ys r hk he hx hy
  simp only[LZ,Option.some.injEq] at hk
  subst hk
  cases cs <;> cases ds <;> simp only[bY,Option.some.injEq,reduceCtorEq] at he
  subst he
  rfl
 |cons f fs ih=>
  intro ks k cs ds xs ys r hk he hx hy
  simp only[LZ] at hk
  split at hk
  rotate_left
  ·cases hk
  rename_i hf
  obtain⟨hoff,hname⟩:=hf
  cases hc:QT P f.type with
  |some c=>
   rw[hc] at hk
   simp only[Option.map_eq_some_iff] at hk
   obtain⟨ks',agp,rfl⟩:=hk
   obtain⟨c1,c2,d1,d2,r1,r2,rfl,rfl,h1,h2,rfl,h3,h4⟩:=qM [c] ks' cs ds r he
   match c1,d1,h3,h4 with
   | [c0],[d0],_,_=>
    obtain⟨va,ha1,ha2⟩:=hx 0 _ rfl
    obtain⟨vb,hb1,hb2⟩:=hy 0 _ rfl
    have hq:=eq_one (P:=P) (n+1) hc h1 ha2 hb2
    have:=ih ks' (k+1) c2 d2 xs ys r2 agp h2 hx.right hy.right
    simp only[Nat.add_zero] at ha1 hb1
    simp only[Op.eqFields,Sem.run_ite]
    rw[if_pos hname]
    simp only[Sem.run_bind,hoff,qL hc ha1,qL hc hb1,Result.andThen_ok,hq]
    cases r1
    ·simp
    ·simp[this]
  |none=>
   rw[hc] at hk
   simp only at hk
   split at hk
   rotate_left
   ·cases hk
   rename_i gs hg
   split at hk
   ·cases hk
   rename_i hst
   have hst:P.stoodInHeld f.type=false:=by simpa using hst
   simp only[Option.bind_eq_some_iff] at hk
   obtain⟨k1,hk1,hk⟩:=hk
   split at hk
   rotate_left
   ·cases hk
   rename_i hsz
   simp only[Option.map_eq_some_iff] at hk
   obtain⟨k2,hk2,rfl⟩:=hk
   obtain⟨c1,c2,d1,d2,r1,r2,rfl,rfl,h1,h2,rfl,h3,h4⟩:=qM k1 k2 cs ds r he
   have sub:∀{c:List D} {zs:Array Value},c.length=k1.length→At M γ w k c zs→At M γ w 0 c (zs.extract k (k+k1.length)):=by
    intro c zs hl hz i d hd
    obtain⟨v,q1,q2⟩:=hz i d hd
    have hi:=(List.getElem?_eq_some_iff.1 hd).1
    refine⟨v,?_,q2⟩
    have hk':=(Array.getElem?_eq_some_iff.1 q1).1
    rw[Array.getElem?_extract,if_pos (by omega),Nat.zero_add]
    exact q1
   have hfo:P.fieldsOf f.type=gs:=by simp[Program.fieldsOf,hg]
   have hin:(Op.equalIn (n+2) f.type (.agg (xs.extract k (k+k1.length))) (.agg (ys.extract k (k+k1.length)))).run P w= .ok r1 w:=by
    rw[run_equalIn_struct (P:=P) w (n+1) f.type _ _ (by rw[hfo];exact hg) hst,hfo]
    exact Lm n gs.toList k1 0 c1 d1 _ _ r1 hk1 h1 (sub h3 hx.left) (sub h4 hy.left)
   have hx2:=hx.right
   have hy2:=hy.right
   rw[h3] at hx2
   rw[h4] at hy2
   have:=ih k2 (k+k1.length) c2 d2 xs ys r2 hk2 h2 hx2 hy2
   simp only[Op.eqFields,Sem.run_ite]
   rw[if_pos hname]
   simp only[Sem.run_bind,hoff,QV hg hsz,Result.andThen_ok,hin]
   cases r1
   ·simp
   ·simp[this]
theorem O1 {cs:List D}{v:Value}(h:Rep M γ w (.agg cs) v):∃vs:Array Value,v= .agg vs∧vs.size=cs.length∧(∀(i:Nat) d,cs[i]?=some d→∃u,vs[i]?=some u∧Rep M γ w d u)∧
  (∀(i:Nat) u,vs[i]?=some u→u.oneCell'=true)∧(∀(i:Nat) d u,cs[i]?=some d→vs[i]?=some u→Rep M γ w d u):=by
 cases h with
 | @agg _ vs hl h1 hr=>
  refine⟨vs,rfl,hl,fun i d hd=>?_,h1,hr⟩
  have:i<vs.size:=by have:=(List.getElem?_eq_some_iff.1 hd).1;omega
  exact⟨vs[i],Array.getElem?_eq_getElem this,hr i d _ hd (Array.getElem?_eq_getElem this)⟩
theorem UL {t:TypeId}{ks:List CK}(hk:CX P t=some ks){cs ds:List D}{r:Bool}(he:bY ks cs ds=some r){u v:Value}(hu:Rep M γ w (.agg cs) u)(hv:Rep M γ w (.agg ds) v)(x y:Operand){op:BinOp}{e:Bool}(hop:isEq op=some e):
  (do eqGuard op t x y u v;binOp op t u v:Sem Value).run P w= .ok (.bool (if e then r else !r)) w:=by
 obtain⟨us,rfl,_,hu',_⟩:=O1 hu
 obtain⟨vs,rfl,_,hv',_⟩:=O1 hv
 unfold CX at hk
 split at hk
 rotate_left
 ·cases hk
 rename_i fs hfs
 split at hk
 ·cases hk
 rename_i hno
 have h1:P.stoodInHeld t=false:=by cases h:P.stoodInHeld t <;> simp_all
 have h2:P.eqGuardType P.depth t=false:=by cases h:P.eqGuardType P.depth t <;> simp_all
 have hfo:P.fieldsOf t=fs:=by simp[Program.fieldsOf,hfs]
 have hmain:=Ih (M:=M) (γ:=γ) (w:=w) 9997 fs.toList ks 0 cs ds us vs r hk he (fun i d hd=>by simpa using hu' i d hd) (fun i d hd=>by simpa using hv' i d hd)
 have hst:(Op.equalIn 10000 t (.agg us) (.agg vs)).run P w= .ok r w:=by
  rw[run_equalIn_struct (P:=P) w 9999 t us vs (by rw[hfo];exact hfs) h1,hfo];exact hmain
 cases op <;> simp only[isEq,Option.some.injEq,reduceCtorEq] at hop <;> subst hop
 ·simp only[Sem.run_bind,run_eqGuard_agg w _ t x y us vs h2,Result.andThen_ok,run_eql_struct,hst];rfl
 ·simp only[Sem.run_bind,run_eqGuard_agg w _ t x y us vs h2,Result.andThen_ok,run_neq_struct,hst];rfl
end
end Go.Id
namespace Go.Id
open Go
section
variable {P:Program} {M:Nat→Nat→Prop} {γ:Nat→Option G} {w:World}
theorem aY (op:BinOp)(t:TypeId)(x y:Operand)(a b:Value)(h:¬(a= .nilIface∧b= .nilIface))(h':∀c d,¬(a= .agg c∧b= .agg d)):(eqGuard op t x y a b).run P w= .ok () w:=by
 unfold eqGuard
 cases op <;> first
  |(simp;done)
  |(cases a <;> cases b <;> first|(simp;done)|(exfalso;exact h ⟨rfl,rfl⟩)|(exfalso;exact h' _ _ ⟨rfl,rfl⟩))
theorem Ii (op:BinOp)(t:TypeId)(x y:Operand)(h:(iU x || iU y)=true):(eqGuard op t x y .nilIface .nilIface).run P w= .ok () w:=by
 unfold eqGuard
 cases op <;> first
  |(simp;done)
  |(cases x <;> cases y <;> simp[iU] at h ⊢)
theorem ZU {t:TypeId}{k:Nat}(h:qJ P t=k):(k=1→∃e,P.underlying t=some (.slice e))∧(k=2→∃e,P.underlying t=some (.pointer e))∧(k=3→∃a b c,P.underlying t=some (.func a b c))∧
  (k=4→∃m,P.underlying t=some (.interface m))∧(k=5→P.underlying t=some .bool)∧(k=6→∃a b,P.underlying t=some (.map a b)):=by
 unfold qJ at h
 split at h <;> subst h <;> simp_all
theorem O4 {op:BinOp}{e:Bool}(hop:isEq op=some e){t:TypeId}{u v:Value}{r:Bool}(h:(Op.equalIn 10000 t u v).run P w= .ok r w)(hu:u.oneCell'=true)
  (hni:∀k n,u≠ .int k n) (hns:∀s,u≠ .string s) (hnf:∀k n,u≠ .float k n) (hnc:∀k n m,u≠ .complex k n m):
  (binOp op t u v).run P w= .ok (.bool (if e then r else !r)) w:=by
 have h':(Op.equal t u v).run P w= .ok r w:=h
 cases op <;> simp only[isEq,Option.some.injEq,reduceCtorEq] at hop <;> subst hop <;>
  (cases u <;> simp only[binOp,Sem.run_bind,h',Result.andThen_ok,Sem.run_pure] <;>
   first
    |rfl
    |(simp at *;done)
    |(exact absurd rfl (hni _ _))|(exact absurd rfl (hns _))|(exact absurd rfl (hnf _ _))|(exact absurd rfl (hnc _ _ _)))
theorem UM {t:TypeId}{c:Bool}{x y:D}{r:Bool}(h:eqNil (qJ P t) c x y=some r){u v:Value}(hu:Rep M γ w x u)(hv:Rep M γ w y v)(xo yo:Operand)(hc:c=true→(iU xo || iU yo)=true){op:BinOp}{e:Bool}(hop:isEq op=some e):
  (do eqGuard op t xo yo u v;binOp op t u v:Sem Value).run P w= .ok (.bool (if e then r else !r)) w:=by
 obtain⟨t1,t2,t3,t4,t5,t6⟩:=ZU (P:=P) (t:=t) rfl
 generalize qJ P t=k at *
 have fin:∀(he:∀d,(Op.equalIn (d+1) t u v).run P w= .ok r w) (h1:u.oneCell'=true)
   (hni:∀k n,u≠ .int k n) (hns:∀s,u≠ .string s) (hnf:∀k n,u≠ .float k n) (hnc:∀k n m,u≠ .complex k n m) (hg:(eqGuard op t xo yo u v).run P w= .ok () w),
   (do eqGuard op t xo yo u v;binOp op t u v:Sem Value).run P w= .ok (.bool (if e then r else !r)) w:=by
  intro he h1 a b c d hg
  rw[Sem.run_bind,hg]
  exact O4 hop (he 9999) h1 a b c d
 unfold eqNil at h
 split at h <;> (try split at h) <;> simp only[Option.some.injEq,reduceCtorEq] at h <;> subst h
 ·rename_i n _ _ _ m _ _ hk
  obtain⟨el,ht⟩:=t1 hk.1
  rcases aW hu with⟨rfl,_,rfl⟩ | ⟨a,cap,vs,rfl,rfl,_⟩ <;> rcases aW hv with⟨rfl,_,rfl⟩ | ⟨a',cap',vs',rfl,rfl,_⟩
  ·exact fin (fun d=>by simp[Op.equalIn,run_underlying ht]) rfl (by simp) (by simp) (by simp) (by simp) (aY _ _ _ _ _ _ (by simp) (by simp))
  ·exact fin (fun d=>by simp[Op.equalIn,run_underlying ht]) rfl (by simp) (by simp) (by simp) (by simp) (aY _ _ _ _ _ _ (by simp) (by simp))
  ·exact fin (fun d=>by simp[Op.equalIn,run_underlying ht]) rfl (by simp) (by simp) (by simp) (by simp) (aY _ _ _ _ _ _ (by simp) (by simp))
  ·simp at hk
 ·rename_i hk
  obtain⟨el,ht⟩:=t2 hk
  cases hu;cases hv
  exact fin (fun d=>by simp[Op.equalIn,run_underlying ht]) rfl (by simp) (by simp) (by simp) (by simp) (aY _ _ _ _ _ _ (by simp) (by simp))
 ·rename_i hk
  obtain⟨el,ht⟩:=t2 hk
  cases hu;cases hv
  exact fin (fun d=>by simp[Op.equalIn,run_underlying ht]) rfl (by simp) (by simp) (by simp) (by simp) (aY _ _ _ _ _ _ (by simp) (by simp))
 ·rename_i hk
  obtain⟨el,ht⟩:=t2 hk
  cases hu;cases hv
  exact fin (fun d=>by simp[Op.equalIn,run_underlying ht]) rfl (by simp) (by simp) (by simp) (by simp) (aY _ _ _ _ _ _ (by simp) (by simp))
 ·rename_i hk
  obtain⟨el,ht⟩:=t2 hk
  cases hu;cases hv
  exact fin (fun d=>by simp[Op.equalIn,run_underlying ht]) rfl (by simp) (by simp) (by simp) (by simp) (aY _ _ _ _ _ _ (by simp) (by simp))
 ·rename_i hk
  obtain⟨el,ht⟩:=t2 hk
  cases hu;cases hv
  exact fin (fun d=>by simp[Op.equalIn,run_underlying ht]) rfl (by simp) (by simp) (by simp) (by simp) (aY _ _ _ _ _ _ (by simp) (by simp))
 ·rename_i hk
  obtain⟨a,b,c,ht⟩:=t3 hk
  cases hu;cases hv
  exact fin (fun d=>by simp[Op.equalIn,run_underlying ht]) rfl (by simp) (by simp) (by simp) (by simp) (aY _ _ _ _ _ _ (by simp) (by simp))
 ·rename_i hk
  obtain⟨a,b,c,ht⟩:=t3 hk
  cases hu;cases hv
  exact fin (fun d=>by simp[Op.equalIn,run_underlying ht]) rfl (by simp) (by simp) (by simp) (by simp) (aY _ _ _ _ _ _ (by simp) (by simp))
 ·rename_i hk
  obtain⟨a,b,c,ht⟩:=t3 hk
  cases hu;cases hv
  exact fin (fun d=>by simp[Op.equalIn,run_underlying ht]) rfl (by simp) (by simp) (by simp) (by simp) (aY _ _ _ _ _ _ (by simp) (by simp))
 ·rename_i hk
  obtain⟨m,ht⟩:=t4 hk.1
  cases hu;cases hv
  exact fin (fun d=>by simp[Op.equalIn,run_underlying ht]) rfl (by simp) (by simp) (by simp) (by simp) (Ii _ _ _ _ (hc hk.2))
 ·rename_i hk
  obtain⟨m,ht⟩:=t4 hk
  cases hu;cases hv
  exact fin (fun d=>by simp[Op.equalIn,run_underlying ht]) rfl (by simp) (by simp) (by simp) (by simp) (aY _ _ _ _ _ _ (by simp) (by simp))
 ·rename_i hk
  obtain⟨m,ht⟩:=t4 hk
  cases hu;cases hv
  exact fin (fun d=>by simp[Op.equalIn,run_underlying ht]) rfl (by simp) (by simp) (by simp) (by simp) (aY _ _ _ _ _ _ (by simp) (by simp))
 ·rename_i hk
  have ht:=t5 hk
  cases hu;cases hv
  exact fin (fun d=>run_equalIn_bool' w d t _ _ ht) rfl (by simp) (by simp) (by simp) (by simp) (aY _ _ _ _ _ _ (by simp) (by simp))
 ·rename_i hk
  obtain⟨a,b,ht⟩:=t6 hk
  cases hu;cases hv
  exact fin (fun d=>by simp[Op.equalIn,run_underlying ht]) rfl (by simp) (by simp) (by simp) (by simp) (aY _ _ _ _ _ _ (by simp) (by simp))
 ·rename_i hk
  obtain⟨a,b,ht⟩:=t6 hk
  cases hu;cases hv
  exact fin (fun d=>by simp[Op.equalIn,run_underlying ht]) rfl (by simp) (by simp) (by simp) (by simp) (aY _ _ _ _ _ _ (by simp) (by simp))
 ·rename_i hk
  obtain⟨a,b,ht⟩:=t6 hk
  cases hu;cases hv
  exact fin (fun d=>by simp[Op.equalIn,run_underlying ht]) rfl (by simp) (by simp) (by simp) (by simp) (aY _ _ _ _ _ _ (by simp) (by simp))
theorem Yf {op:BinOp}{t:TypeId}{c:Bool}{x y:D}{f:Eff}(h:dW P op t c x y=some f)(hs:f.side){u v:Value}(hu:Rep M γ w x u)(hv:Rep M γ w y v)(xo yo:Operand)(hc:c=true→(iU xo || iU yo)=true):
  ∃r,(do eqGuard op t xo yo u v;binOp op t u v:Sem Value).run P w= .ok r w∧Rep M γ w f.val r∧f.ws=[]:=by
 unfold dW at h
 split at h
 ·split at h <;> simp only[Option.some.injEq,reduceCtorEq] at h
  rename_i hb
  subst h
  rw[int_inj hu,int_inj hv]
  refine⟨_,?_,.int _ _,rfl⟩
  rw[Sem.run_bind,aY _ _ _ _ _ _ (by simp) (by simp)]
  simp only[Result.andThen_ok,binOp,Op.shift]
  rw[if_neg (by omega)]
  rfl
 ·split at h <;> simp only[Option.some.injEq,reduceCtorEq] at h
  rename_i hb
  subst h
  rw[int_inj hu,int_inj hv]
  refine⟨_,?_,.int _ _,rfl⟩
  rw[Sem.run_bind,aY _ _ _ _ _ _ (by simp) (by simp)]
  simp only[Result.andThen_ok,binOp,Op.shift]
  rw[if_neg (by omega)]
  rfl
 ·split at h <;> simp only[Option.map_eq_some_iff,reduceCtorEq] at h
  rename_i hk
  obtain⟨d,hd,rfl⟩:=h
  subst hk
  rw[int_inj hu,int_inj hv]
  obtain⟨r,h1,h2⟩:=Ye (P:=P) (M:=M) (γ:=γ) (w:=w) hd t
  refine⟨r,?_,h2,rfl⟩
  rw[Sem.run_bind,aY _ _ _ _ _ _ (by simp) (by simp)]
  exact h1
 ·obtain⟨a,rfl,rfl⟩:=str_inj hu
  obtain⟨b,rfl,rfl⟩:=str_inj hv
  obtain⟨r,h1,h2,h3⟩:=Yd (P:=P) (M:=M) (γ:=γ) (w:=w) h hs
  refine⟨r,?_,h2,h3⟩
  rw[Sem.run_bind,aY _ _ _ _ _ _ (by simp) (by simp)]
  simp only[Result.andThen_ok,binOp]
  cases op <;> first|exact h1|(simp[binOp];exact h1)
 ·simp only[Option.bind_eq_some_iff,Option.map_eq_some_iff] at h
  obtain⟨ks,h1,e,h2,r,h3,rfl⟩:=h
  exact⟨_,UL h1 h3 hu hv xo yo h2,.bool _,rfl⟩
 ·simp only[Option.bind_eq_some_iff,Option.map_eq_some_iff] at h
  obtain⟨e,h2,r,h3,rfl⟩:=h
  exact⟨_,UM h3 hu hv xo yo hc h2,.bool _,rfl⟩
end
end Go.Id
namespace Go.Id
open Go
section
variable {P:Program} {M:Nat→Nat→Prop} {γ:Nat→Option G} {w:World}
theorem mP {t:TypeId}{k:IntKind}(h:jJ P t=some k):P.underlying t=some (.int k):=by
 unfold jJ at h;split at h <;> simp_all
theorem iC {t:TypeId}(h:isStr P t=true):P.underlying t=some .string:=by
 unfold isStr at h;split at h <;> simp_all
theorem O5:∀(es:List (List D)) (l:List UInt8),bytesOf? es=some l→es.length=l.length∧∀(i:Nat) (c:UInt8),l[i]?=some c→∃n:Int,es[i]?=some [D.int .u8 n]∧c=UInt8.ofNat n.toNat:=by
 intro es
 induction es with
 |nil=>intro l h;simp[bytesOf?] at h;subst h;simp
 |cons e es ih=>
  intro l h
  simp only[bytesOf?,Option.bind_eq_some_iff,Option.map_eq_some_iff] at h
  obtain⟨b,hb,l',hl,rfl⟩:=h
  obtain⟨h1,h2⟩:=ih l' hl
  refine⟨by simp[h1],fun i c hc=>?_⟩
  cases i with
  |zero=>
   simp at hc;subst hc
   unfold byteOf? at hb
   split at hb <;> simp only[Option.some.injEq,reduceCtorEq] at hb
   rename_i n
   exact⟨n,rfl,hb.symm⟩
  |succ i=>simpa using h2 i c (by simpa using hc)
theorem O6 (s:ByteArray)(b:UInt8):(s.push b).data.toList=s.data.toList++[b]:=by simp[ByteArray.push]
theorem Ij:∀(vs:List Value) (l:List UInt8) (s:ByteArray),vs.length=l.length→(∀(i:Nat) c,l[i]?=some c→∃n,vs[i]?=some (.int .u8 n)∧c=UInt8.ofNat n.toNat)→
  ∃s',(forIn (m:=Sem) vs s (fun c r=>match c with| .int .u8 n=>(pure (ForInStep.yield (r.push (UInt8.ofNat n.toNat))):Sem (ForInStep ByteArray)) | _=>stuck "bytesToString: byte expected")).run P w= .ok s' w∧s'.data.toList=s.data.toList++l:=by
 intro vs
 induction vs with
 |nil=>intro l s h _;cases l <;> simp at h;exact⟨s,rfl,by simp⟩
 |cons v vs ih=>
  intro l s h hl
  cases l with
  |nil=>simp at h
  |cons c l=>
   obtain⟨n,hn,hc⟩:=hl 0 c rfl
   simp at hn;subst hn;subst hc
   obtain⟨s',h1,h2⟩:=ih l (s.push (UInt8.ofNat n.toNat)) (by simpa using h) (fun i c hc=>by simpa using hl (i+1) c (by simpa using hc))
   exact⟨s',by simp only[List.forIn_cons,Sem.run_bind,Sem.run_pure,Result.andThen_ok];exact h1,by rw[h2,O6];simp⟩
theorem Di {src dst:TypeId}{x d:D}(h:Ib P src dst x=some d){v:Value}(hv:Rep M γ w x v):
  ∃r,(convert src dst v).run P w= .ok r w∧Rep M γ w d r:=by
 unfold Ib at h
 split at h
 ·split at h <;> simp only[Option.map_eq_some_iff,reduceCtorEq] at h
  rename_i hsrc
  obtain⟨ks,hks⟩:=Option.isSome_iff_exists.1 hsrc
  have hsd:=mP hks
  obtain⟨k,hk,rfl⟩:=h
  rw[int_inj hv]
  refine⟨_,?_,.int _ _⟩
  simp only[convert,Sem.run_bind,run_underlying hsd,run_underlying (mP hk),Result.andThen_ok,Conv.intToInt]
  rfl
 ·split at h <;> simp only[Option.some.injEq,reduceCtorEq] at h
  rename_i hh
  subst h
  obtain⟨b,rfl,hb⟩:=str_inj hv
  refine⟨_,?_,qK hb⟩
  simp only[convert,Sem.run_bind,run_underlying (iC hh.2),run_underlying (iC hh.1),Result.andThen_ok]
  rfl
 ·split at h <;> simp only[Option.map_eq_some_iff,reduceCtorEq] at h
  rename_i nil es aS hh
  obtain⟨l,hl,rfl⟩:=h
  obtain⟨h1,h2⟩:=hh
  simp only[Option.bind_eq_some_iff] at h2
  obtain⟨⟨e,sz,by'⟩,he,hk⟩:=h2
  obtain⟨i,hs,hi,_,_⟩:=fB he
  obtain⟨hlen,hall⟩:=O5 es l hl
  rcases aW hv with⟨rfl,rfl,_⟩ | ⟨a,cap,vs,rfl,_,hspot,hvs,_,hsz,hc,hr,_⟩
  ·simp[bytesOf?] at hl;subst hl
   refine⟨.string .empty,?_,qK rfl⟩
   simp only[convert,Sem.run_bind,run_underlying hs,run_underlying (iC h1),run_underlying (mP hk),Result.andThen_ok,Conv.bytesToString]
   rfl
  ·have hvl:∀(j:Nat) c,l[j]?=some c→∃n,vs[j]?=some (.int .u8 n)∧c=UInt8.ofNat n.toNat:=by
    intro j c hj
    obtain⟨n,h3,h4⟩:=hall j c hj
    have hlt:j<vs.length:=by have:=(List.getElem?_eq_some_iff.1 hj).1;omega
    have h5:=hr j 0 _ (.int .u8 n) vs[j] h3 rfl (by simpa using List.getElem?_eq_getElem hlt)
    exact⟨n,by rw[List.getElem?_eq_getElem hlt,int_inj h5],h4⟩
   obtain⟨s',h3,h4⟩:=Ij (P:=P) (w:=w) vs l .empty (by omega) hvl
   have hload:=run_loadCells_list (P:=P) (w:=w) a vs (fun j u hu=>by rw[nM (hspot (by rintro rfl;rw[List.length_nil,Nat.zero_mul] at hvs;rw[List.eq_nil_of_length_eq_zero hvs] at hu;cases hu))];exact (hc j u hu).1)
   have hle:vs.length=es.length:=by omega
   rw[hle] at hload
   refine⟨.string s',?_,qK (by rw[h4];rfl)⟩
   simp only[convert,Sem.run_bind,run_underlying hs,run_underlying (iC h1),run_underlying (mP hk),Result.andThen_ok,Conv.bytesToString,hload]
   rw[← Array.forIn_toList,List.toList_toArray]
   have:∀(f g:Value→ByteArray→Sem (ForInStep ByteArray)),f=g→(forIn (m:=Sem) vs ByteArray.empty f).run P w=(forIn (m:=Sem) vs ByteArray.empty g).run P w:=fun f g e=>by rw[e]
   rw[this _ (fun c r=>match c with| .int .u8 n=>(pure (ForInStep.yield (r.push (UInt8.ofNat n.toNat))):Sem (ForInStep ByteArray)) | _=>stuck "bytesToString: byte expected"),h3]
   ·rfl
   ·funext c r
    cases c with
    |int k n=>cases k <;> rfl
    | _=>rfl
 ·cases h
theorem xM {d:D}{n:Nat}(h:Ia d=some n){v:Value}(hv:Rep M γ w d v):∃k,v= .int k n:=by
 unfold Ia at h
 split at h
 ·rename_i k m
  split at h <;> simp only[Option.some.injEq,reduceCtorEq] at h
  rename_i hm
  subst h
  exact⟨k,by rw[int_inj hv,Int.toNat_of_nonneg hm]⟩
 ·cases h
theorem iE (isSlice:Bool)(len cap:Nat)(lo hi:Option Value)(l h:Nat)(hl:(lo=none∧l=0)∨∃k,lo=some (.int k l))(hh:(hi=none∧h=len)∨∃k,hi=some (.int k h))(hlh:l≤h)(hhc:h≤cap):
  (Instr.sliceBounds isSlice len cap lo hi none).run P w= .ok (l,h,cap) w:=by
 have bound:∀(k:IntKind) (n y:Nat) (code:BoundsCode),n≤y→(Instr.sliceBound (.int k n) y code).run P w= .ok n w:=by
  intro k n y code hn
  have:(0:Int)≤(n:Int)∧(n:Int)≤(y:Int):=by omega
  simp[Instr.sliceBound,asIntOf,this]
 rcases hl with⟨rfl,rfl⟩ | ⟨k,rfl⟩ <;> rcases hh with⟨rfl,rfl⟩ | ⟨k',rfl⟩ <;> simp[Instr.sliceBounds,bound,hlh,hhc]
theorem nP {o:Option D}{ov:Option Value}{df n:Nat}(ho:(o=none∧ov=none)∨∃a b,o=some a∧ov=some b∧Rep M γ w a b)(hn:jP df o=some n):
  (ov=none∧n=df)∨∃k,ov=some (.int k n):=by
 rcases ho with⟨rfl,rfl⟩ | ⟨a,b,rfl,rfl,hab⟩
 ·simp[jP] at hn;exact .inl ⟨rfl,hn.symm⟩
 ·obtain⟨k,hk⟩:=xM (by simpa [jP] using hn) hab
  exact .inr ⟨k,by rw[hk]⟩
theorem UN {t:TypeId}{sz:Nat}{s:List UInt8}{d:D}{lo hi:Option D}(h:kS sz (.str s) lo hi=some d){v:Value}(hv:Rep M γ w (.str s) v){UO hiv:Option Value}
  (hlo:(lo=none∧UO=none)∨∃a b,lo=some a∧UO=some b∧Rep M γ w a b) (hhi:(hi=none∧hiv=none)∨∃a b,hi=some a∧hiv=some b∧Rep M γ w a b)
  (hs:P.underlying t=some .string):∃r,(Instr.sliceAt t v UO hiv none).run P w= .ok r w∧Rep M γ w d r:=by
 simp only[kS,Option.bind_eq_some_iff] at h
 obtain⟨l,hl,h',hh,h⟩:=h
 split at h <;> simp only[Option.some.injEq,reduceCtorEq] at h
 rename_i hc
 subst h
 obtain⟨b,rfl,rfl⟩:=str_inj hv
 have hsz:b.data.toList.length=b.size:=by simp
 have hb:=iE (P:=P) (w:=w) false b.size b.size UO hiv l h' (nP hlo hl) (by rw[← hsz];exact nP hhi hh) hc.1 (by omega)
 refine⟨.string (b.extract l h'),?_,qK ?_⟩
 ·simp only[Instr.sliceAt,Instr.slice,Sem.run_bind,run_underlying hs,Result.andThen_ok,Option.isSome_none,Bool.false_eq_true,if_false,hb]
  rfl
 ·simp[ByteArray.data_extract,List.drop_take]
theorem UQ {t e:TypeId}{i:TypeInfo}{sz b z m:Nat}{d:D}{lo hi:Option D}(h:kS sz (.arr b z m) lo hi=some d){v:Value}(hv:Rep M γ w (.arr b z m) v){UO hiv:Option Value}
  (hlo:(lo=none∧UO=none)∨∃a b,lo=some a∧UO=some b∧Rep M γ w a b) (hhi:(hi=none∧hiv=none)∨∃a b,hi=some a∧hiv=some b∧Rep M γ w a b)
  (ht:P.underlying t=some (.slice e)) (hi':P.info? e=some i) (hisz:i.size=sz):∃r,(Instr.sliceAt t v UO hiv none).run P w= .ok r w∧Rep M γ w d r:=by
 simp only[kS,Option.bind_eq_some_iff] at h
 obtain⟨l,hl,h',hh,h⟩:=h
 split at h <;> simp only[Option.some.injEq,reduceCtorEq] at h
 rename_i hc
 subst h
 obtain⟨hc1,hc2,hc3⟩:=hc
 subst hc3
 have hsize:(sizeOf e).run P w= .ok z w:=by simp[sizeOf,typeInfo,hi',hisz]
 cases hv with
 | @arr _ B _ _ cap hb hn=>
  have hbn:=iE (P:=P) (w:=w) true m cap UO hiv l h' (nP hlo hl) (nP hhi hh) hc1 (by omega)
  refine⟨.slice (some (if cap=l then ⟨B,0,none⟩ else (⟨B,0,none⟩:Addr).add (l * z))) (h' - l) (cap - l),?_,?_⟩
  ·simp only[Instr.sliceAt,Instr.slice,Sem.run_bind,run_underlying ht,Result.andThen_ok,hbn,hsize,Sem.run_pure]
   split <;> simp_all
  ·split
   ·rename_i h0
    subst h0
    have:(if cap=0 then (⟨B,0,none⟩:Addr) else (⟨B,0,none⟩:Addr).add (0 * z))=⟨B,0,none⟩:=by split <;> simp[Addr.add]
    rw[this]
    exact .arr hb (by omega)
   ·refine .view hb ?_ ?_
    ·by_cases hlc:cap=l
     ·left;omega
     ·right;rw[if_neg hlc,Addr.add_lit];simp
    ·have:l * z+(h' - l) * z=h' * z:=by rw[← Nat.add_mul];congr 1;omega
     rw[this]
     exact Nat.mul_le_mul_right _ (by omega)
theorem xO {α:Type}{sz:Nat}(es:List (List α))(i j l:Nat):(l+i) * sz+j=l * sz+(i * sz+j):=by rw[Nat.add_mul];omega
theorem O7 {t e:TypeId}{i:TypeInfo}{sz z:Nat}{nil:Bool}{es:List (List D)}{aS:Option Nat}{d:D}{lo hi:Option D}(h:kS sz (.slice z nil es aS) lo hi=some d){v:Value}(hv:Rep M γ w (.slice z nil es aS) v){UO hiv:Option Value}
  (hlo:(lo=none∧UO=none)∨∃a b,lo=some a∧UO=some b∧Rep M γ w a b) (hhi:(hi=none∧hiv=none)∨∃a b,hi=some a∧hiv=some b∧Rep M γ w a b)
  (ht:P.underlying t=some (.slice e)) (hi':P.info? e=some i) (hisz:i.size=sz):∃r,(Instr.sliceAt t v UO hiv none).run P w= .ok r w∧Rep M γ w d r:=by
 simp only[kS,Option.bind_eq_some_iff] at h
 obtain⟨l,hl,h',hh,h⟩:=h
 split at h <;> simp only[Option.some.injEq,reduceCtorEq] at h
 rename_i hc
 subst h
 obtain⟨hc1,hc2,hc3⟩:=hc
 have hsize:(sizeOf e).run P w= .ok sz w:=by simp[sizeOf,typeInfo,hi',hisz]
 rcases aW hv with⟨rfl,rfl,rfl⟩ | ⟨a,cap,vs,rfl,rfl,hspot,hvs,hcap,hsz,hcell,hr,htip⟩
 ·have hb:=iE (P:=P) (w:=w) true 0 0 UO hiv l h' (nP hlo hl) (by simpa using nP hhi hh) hc1 (by simpa using hc2)
  simp only[List.length_nil,Nat.le_zero] at hc2
  subst hc2
  obtain rfl:l=0:=by omega
  refine⟨.slice none 0 0,?_,?_⟩
  ·simp only[Instr.sliceAt,Instr.slice,Sem.run_bind,run_underlying ht,Result.andThen_ok,hb,hsize]
   rfl
  ·simp only[List.take_nil,List.drop_nil,List.length_nil,and_self,if_true]
   exact hv
 ·have hz:z=sz:=by simpa using hc3
  subst hz
  have hb:=iE (P:=P) (w:=w) true es.length cap UO hiv l h' (nP hlo hl) (nP hhi hh) hc1 (by omega)
  have hlen:((es.take h').drop l).length=h' - l:=by simp;omega
  refine⟨.slice (some (if cap=l then a else a.add (l * z))) (h' - l) (cap - l),?_,?_⟩
  ·simp only[Instr.sliceAt,Instr.slice,Sem.run_bind,run_underlying ht,Result.andThen_ok,hb,hsize,Sem.run_pure]
   split <;> simp_all
  ·rw[← hlen]
   by_cases hwhole:l=0∧h'=es.length
   ·obtain⟨rfl,rfl⟩:=hwhole
    simp only[and_self,if_true,List.take_length,List.drop_zero,Nat.zero_mul,Nat.sub_zero]
    have:(if cap=0 then a else a.add 0)=a:=by split <;> simp[Addr.add]
    rw[this]
    exact hv
   ·rw[if_neg hwhole]
    have hsub:∀x∈(es.take h').drop l,x.length=z:=fun x hx=>hsz x (List.mem_of_mem_take (List.mem_of_mem_drop hx))
    have hget:∀i,((es.take h').drop l)[i]?=if l+i<h' then es[l+i]? else none:=by
     intro i;rw[List.getElem?_drop,List.getElem?_take]
    have aio:∀j,j<((vs.take (h' * z)).drop (l * z)).length→(if cap=l then a else a.add (l * z)).block=a.block∧(if cap=l then a else a.add (l * z)).off+j=a.off+(l * z+j):=by
     intro j hj
     have hne:cap≠l:=by
      rintro rfl
      have:h'=cap:=by omega
      subst this
      simp at hj
     have hes:es≠[]:=by
      rintro rfl
      simp at hc2
      subst hc2
      simp at hj
     rw[if_neg hne,nM (hspot hes)]
     exact⟨rfl,by simp;omega⟩
    refine .slice ((vs.take (h' * z)).drop (l * z)) hsub ?_ ?_ (fun j u hu=>?_) (fun i j x d u hx hd hu=>?_) (by rw[hlen];omega) (iK.none _ _ _)
    ·have h1:h' * z≤vs.length:=by rw[hvs];exact Nat.mul_le_mul_right _ hc2
     rw[hlen,List.length_drop,List.length_take,Nat.min_eq_left h1,Nat.sub_mul]
    ·intro h0
     have hes:es≠[]:=by
      rintro rfl
      simp at h0
     split
     ·exact hspot hes
     ·rw[nM (hspot hes)]
    ·have hj:=(List.getElem?_eq_some_iff.1 hu).1
     obtain⟨h1,h2⟩:=aio j hj
     rw[h1,h2]
     rw[List.getElem?_drop,List.getElem?_take] at hu
     split at hu
     ·exact hcell _ u hu
     ·cases hu
    ·rw[hget] at hx
     split at hx
     ·rw[List.getElem?_drop,List.getElem?_take] at hu
      split at hu
      ·exact hr (l+i) j x d u hx hd (by rw[Nat.add_mul,Nat.add_assoc];exact hu)
      ·cases hu
     ·cases hx
theorem Dj {s:TypeId}{f off sz:Nat}(h:dV P s f=some (off,sz)):∃fs fl i,P.underlying s=some (.struct fs)∧fs[f]?=some fl∧fl.offset=off∧P.info? fl.type=some i∧i.size=sz:=by
 unfold dV at h
 split at h
 ·rename_i fs hfs
  simp only[Option.bind_eq_some_iff,Option.map_eq_some_iff,Prod.mk.injEq] at h
  obtain⟨fl,h1,i,h2,h3,h4⟩:=h
  exact⟨fs,fl,i,hfs,h1,h3,h2,h4⟩
 ·cases h
theorem Eo {s:TypeId}{f off sz:Nat}(h:dV P s f=some (off,sz))(hsz:sz≠0)(a:Addr):(Instr.fieldAt s (.pointer (some a)) f).run P w= .ok (.pointer (some (a.add off))) w:=by
 obtain⟨fs,fl,i,h1,h2,h3,h4,h5⟩:=Dj h
 have:(sizeOf fl.type).run P w= .ok sz w:=by simp[sizeOf,typeInfo,h4,h5]
 simp[Instr.fieldAt,run_underlying h1,h2,Instr.sureAddr,fieldPlace,this,hsz,h3]
end
end Go.Id
namespace Go.Id
open Go
section
variable {P:Program} {M:Nat→Nat→Prop} {γ:Nat→Option G} {w:World} {ρ:Operand→D} {ρv:Operand→Value}
theorem GU (vs:List Value)(off:Nat):∀(k:Nat) (cs:Array Value),k+vs.length+off≤cs.size→
  ((vs.zipIdx k).foldl (fun cs (c,j)=>cs.setIfInBounds (off+j) c) cs).toList=cs.toList.take (off+k)++vs++cs.toList.drop (off+k+vs.length):=by
 induction vs with
 |nil=>intro k cs h;simp
 |cons v vs ih=>
  intro k cs h
  simp only[List.zipIdx_cons,List.foldl_cons]
  rw[ih (k+1) _ (by simp at h ⊢;omega)]
  have e:=list_seg_step cs.toList (off+k) v vs (by simp at h ⊢;omega)
  simpa [Array.toList_setIfInBounds,Nat.add_assoc] using e
theorem qN (xs:Array Value)(off:Nat)(cs:Array Value)(h:xs.size+off≤cs.size):
  xs.zipIdx.foldl (fun cs (c,j)=>cs.setIfInBounds (off+j) c) cs=(cs.toList.take off++xs.toList++cs.toList.drop (off+xs.size)).toArray:=by
 apply Array.ext'
 rw[← Array.foldl_toList,Array.toList_zipIdx]
 have:=GU xs.toList off 0 cs (by simp;omega)
 simpa using this
theorem UR {t:TypeId}(hρ:∀x,Rep M γ w (ρ x) (ρv x)){places:Array (Nat × Nat)}(hpl:∀i off sz,dV P t i=some (off,sz)→places[i]?=some (off,sz)):
  ∀(ps:List (Nat × Operand)) (cs:List D) (out:List D) (vs:Array Value),pV P t ρ ps cs=some out→vs.size=cs.length→(∀(i:Nat) v,vs[i]?=some v→v.oneCell'=true)→
   (∀(i:Nat) d v,cs[i]?=some d→vs[i]?=some v→Rep M γ w d v)→
   ∃vs',Instr.fill (places[·]?) vs (ps.map fun (i,x)=>(i,ρv x))=some vs'∧vs'.size=out.length∧(∀(i:Nat) v,vs'[i]?=some v→v.oneCell'=true)∧(∀(i:Nat) d v,out[i]?=some d→vs'[i]?=some v→Rep M γ w d v):=by
 intro ps
 induction ps with
 |nil=>intro cs out vs h hl h1 hr;simp only[pV,Option.some.injEq] at h;subst h;exact⟨vs,rfl,hl,h1,hr⟩
 |cons p ps ih=>
  intro cs out vs h hl h1 hr
  obtain⟨i,x⟩:=p
  simp only[pV,Option.bind_eq_some_iff] at h
  obtain⟨⟨off,sz⟩,hf,us,hc,h⟩:=h
  dsimp only at h
  split at h
  rotate_left
  ·cases h
  rename_i hh
  obtain⟨hus,hle⟩:=hh
  obtain⟨c1,c2,c3⟩:=(hρ x).cells hc
  have hsz:(ρv x).cells.size=sz:=by omega
  have hfold:=qN (ρv x).cells off vs (by omega)
  have key:∀k (v:Value),(vs.toList.take off++(ρv x).cells.toList++vs.toList.drop (off+(ρv x).cells.size)).toArray[k]?=some v→
    (if off≤k∧k<off+sz then (ρv x).cells[k - off]? else vs[k]?)=some v:=by
   intro k v hv
   rw[List.getElem?_toArray] at hv
   have e:(ρv x).cells.size=(ρv x).cells.toList.length:=by simp
   rw[e,pW _ _ _ _ (by simp;omega)] at hv
   simp only[Array.length_toList,hsz,Array.getElem?_toList] at hv
   exact hv
  obtain⟨vs',g1,g2,g3,g4⟩:=ih _ out (vs.toList.take off++(ρv x).cells.toList++vs.toList.drop (off+(ρv x).cells.size)).toArray h (by simp;omega) (fun k v hv=>by
    have:=key k v hv
    split at this
    ·exact c2 _ v this
    ·exact h1 _ v this) (fun k d v hd hv=>by
    have h2:=key k v hv
    rw[← hus,pW _ _ _ _ (by omega)] at hd
    rw[hus] at hd
    split at h2
    ·rename_i hk;rw[if_pos hk] at hd;exact c3 _ d v hd h2
    ·rename_i hk;rw[if_neg hk] at hd;exact hr _ d v hd h2)
  refine⟨vs',?_,g2,g3,g4⟩
  simp only[List.map_cons,Instr.fill,hpl i off sz hf]
  rw[if_neg (by simp;omega)]
  rw[← hfold] at g1
  exact g1
theorem GV (fs:Array Field)(f:Field→Nat × Nat)(h:∀x∈fs,(sizeOf x.type).run P w= .ok (f x).2 w∧(f x).1=x.offset):
  (fs.mapM fun x=>do pure (x.offset,← sizeOf x.type):Sem (Array (Nat × Nat))).run P w= .ok (fs.map f) w:=by
 obtain⟨l⟩:=fs
 have:∀(l:List Field),(∀x∈l,(sizeOf x.type).run P w= .ok (f x).2 w∧(f x).1=x.offset)→(l.mapM fun x=>do pure (x.offset,← sizeOf x.type):Sem (List (Nat × Nat))).run P w= .ok (l.map f) w:=by
  intro l
  induction l with
  |nil=>intro _;rfl
  |cons x l ih=>
   intro hl
   obtain⟨h1,h2⟩:=hl x (by simp)
   simp only[List.mapM_cons,Sem.run_bind,h1,Result.andThen_ok,Sem.run_pure,ih (fun y hy=>hl y (by simp[hy])),List.map_cons,← h2]
 simp only[List.mapM_toArray,Sem.run_map,this l (fun x hx=>h x (by simpa using hx)),Result.andThen_ok,List.map_toArray]
theorem UU (hρ:∀x,Rep M γ w (ρ x) (ρv x)){t:TypeId}(hok:eH P t=true){parts:Array (Nat × Operand)}{z cs:List D}(hz:gV P t=some z)(h:pV P t ρ parts.toList z=some cs):
  ∃v,(Instr.build t (parts.map fun (i,x)=>(i,ρv x))).run P w= .ok v w∧Rep M γ w (.agg cs) v:=by
 obtain⟨i,zv,hi,hzv,hc⟩:=uf hz
 obtain⟨c1,c2,c3⟩:=(jy (γ:=γ) (w:=w) M zv).cells hc
 unfold eH at hok
 split at hok
 rotate_left
 ·cases hok
 rename_i fs hfs
 have hok':=Array.all_eq_true'.1 hok
 let f:Field→Nat × Nat:=fun x=>(x.offset,((P.info? x.type).map (·.size)).getD 0)
 have hmap:=GV (P:=P) (w:=w) fs f (fun x hx=>by
  obtain⟨j,hj⟩:=Option.isSome_iff_exists.1 (hok' x hx)
  exact⟨by simp[sizeOf,typeInfo,hj,f],rfl⟩)
 obtain⟨vs',g1,g2,g3,g4⟩:=UR (P:=P) (t:=t) hρ (places:=fs.map f) (fun k off sz hk=>by
  obtain⟨fs',fl,j,h1,h2,h3,h4,h5⟩:=Dj hk
  rw[hfs] at h1;cases h1
  simp[h2,f,h4,h3,h5]) parts.toList z cs zv.cells h c1 c2 c3
 refine⟨.agg vs',?_,.agg g2 g3 g4⟩
 simp only[Instr.build,Sem.run_bind,zeroValue,typeInfo,run_program,Result.andThen_ok,hi,Sem.run_pure,hzv,run_underlying hfs,hmap]
 simp only[Array.toList_map]
 rw[g1]
 rfl
theorem Ep (hρ:∀x,Rep M γ w (ρ x) (ρv x)){sz:Nat}:∀(ps:List (Nat × Operand)) (k:Nat) (es:List (List D)),jh ρ sz k ps=some es→
  es.length=ps.length∧(∀e∈es,e.length=sz)∧∃vs:List Value,vs.length=es.length * sz∧(∀v∈vs,v.oneCell'=true)∧
   (∀i j e d u,es[i]?=some e→e[j]?=some d→vs[i * sz+j]?=some u→Rep M γ w d u)∧
   ∀(n:Nat) (cs:Array Value),cs.size=(k+n) * sz→ps.length≤n→
    Instr.fill (fun i=>some (i * sz,sz)) cs (ps.map fun (i,x)=>(i,ρv x))=some (cs.toList.take (k * sz)++vs++cs.toList.drop (k * sz+vs.length)).toArray:=by
 intro ps
 induction ps with
 |nil=>
  intro k es h
  simp only[jh,Option.some.injEq] at h
  subst h
  exact⟨rfl,by simp,[],by simp,by simp,by simp,fun n cs _ _=>by simp[Instr.fill]⟩
 |cons p ps ih=>
  intro k es h
  obtain⟨i,x⟩:=p
  simp only[jh] at h
  split at h
  rotate_left
  ·cases h
  rename_i hk
  subst hk
  simp only[Option.bind_eq_some_iff] at h
  obtain⟨us,hc,h⟩:=h
  split at h
  rotate_left
  ·cases h
  rename_i hus
  simp only[Option.map_eq_some_iff] at h
  obtain⟨es',he,rfl⟩:=h
  obtain⟨a1,a2,vs',a3,a4,a5,a6⟩:=ih (k+1) es' he
  obtain⟨c1,c2,c3⟩:=(hρ x).cells hc
  have hsz:(ρv x).cells.size=sz:=by omega
  refine⟨by simp[a1],fun e he=>?_,(ρv x).cells.toList++vs',?_,fun v hv=>?_,fun i j e d u he hd hu=>?_,fun n cs hcs hn=>?_⟩
  ·rcases List.mem_cons.1 he with rfl|he
   ·exact hus
   ·exact a2 e he
  ·simp only[List.length_append,Array.length_toList,List.length_cons,a3,hsz,Nat.add_mul];omega
  ·rcases List.mem_append.1 hv with hv|hv
   ·obtain⟨j,hj⟩:=List.getElem?_of_mem hv
    exact c2 j v (by simpa using hj)
   ·exact a4 v hv
  ·cases i with
   |zero=>
    simp only[List.getElem?_cons_zero,Option.some.injEq] at he
    subst he
    have hj:j<sz:=by rw[← hus];exact (List.getElem?_eq_some_iff.1 hd).1
    rw[Nat.zero_mul,Nat.zero_add,List.getElem?_append_left (by simp;omega)] at hu
    exact c3 j d u hd (by simpa using hu)
   |succ i=>
    rw[List.getElem?_cons_succ] at he
    have:(i+1) * sz+j=(ρv x).cells.toList.length+(i * sz+j):=by simp[hsz,Nat.add_mul];omega
    rw[this,List.getElem?_append_right (by omega),Nat.add_sub_cancel_left] at hu
    exact a5 i j e d u he hd hu
  ·have hkn:(k+n) * sz=k * sz+n * sz:=Nat.add_mul _ _ _
   have amC:sz≤n * sz:=by
    have:1≤n:=by simp at hn;omega
    calc sz=1 * sz:=by omega
     _≤n * sz:=Nat.mul_le_mul_right _ this
   have hfold:=qN (ρv x).cells (k * sz) cs (by omega)
   simp only[List.map_cons,Instr.fill]
   rw[if_neg (by simp;omega),hfold]
   rw[a6 (n - 1) _ (by
    simp only[List.size_toArray,List.length_append,List.length_take,List.length_drop,Array.length_toList]
    have:(k+1+(n - 1)) * sz=(k+n) * sz:=by congr 1;simp at hn;omega
    rw[this];omega) (by simp at hn;omega)]
   congr 2
   have hk1:(k+1) * sz=k * sz+sz:=by rw[Nat.add_mul];omega
   rw[List.toList_toArray,hk1]
   have l1:(List.take (k * sz) cs.toList).length=k * sz:=by simp;omega
   have t1:List.take (k * sz+sz) (List.take (k * sz) cs.toList++(ρv x).cells.toList++List.drop (k * sz+(ρv x).cells.size) cs.toList)=List.take (k * sz) cs.toList++(ρv x).cells.toList:=by
    rw[List.take_append_of_le_length (by simp;omega),List.take_of_length_le (by simp;omega)]
   rw[t1]
   have t2:List.drop (k * sz+sz+vs'.length) (List.take (k * sz) cs.toList++(ρv x).cells.toList++List.drop (k * sz+(ρv x).cells.size) cs.toList)=List.drop (k * sz+((ρv x).cells.toList++vs').length) cs.toList:=by
    rw[List.drop_append,List.drop_of_length_le (by simp;omega),List.nil_append,List.drop_drop]
    congr 1
    simp;omega
   rw[t2]
   simp
end
end Go.Id
namespace Go.Id
open Go
section
variable {P:Program} {M₀:Base} {γ:Nat→Option G} {σ:Nat→Option aU} {w:World} {ρ:Operand→D} {ρv:Operand→Value}
theorem Store.QW (h:Store M₀ γ σ w)(o:Obj):Store M₀ γ σ (w.alloc o)∧aQ (aC M₀ γ) γ w (aC M₀ γ) γ (w.alloc o):=by
 have hv:aQ (aC M₀ γ) γ w (aC M₀ γ) γ (w.alloc o):=
  ⟨rfl,rfl,rfl,by simp,fun B off v _ hu=>by rw[World.cell?_of_block (w:=w) (w':=w.alloc o) (by simpa using bJ w o B (cell_lt hu))];exact hu,fun _ _ h _=>h,fun _ g h=>⟨g,h,G.le_refl g⟩,fun B hB _=>bJ w o B hB,fun i gi _ h h' _=>⟨i,gi,h,h'⟩⟩
 refine⟨⟨fun b=>?_,h.dist,fun B off hm=>by have:=h.outer B off hm;simp;omega,h.apart,M₀.stable w _ h.inv (fun k hk=>bJ w o k (Nat.lt_of_lt_of_le hk h.big)),h.low,Nat.le_trans h.big hv.size⟩,hv⟩
 rcases h.names b with⟨blk,g,h1,h2,h3⟩|h1
 ·exact .inl ⟨blk,g,h1,h2,h3.keep hv (fun B hB=>bJ w o B (h.lt h2 hB))⟩
 ·exact .inr h1
theorem Ik (h:Store M₀ γ σ w)(hρ:∀x,Rep (aC M₀ γ) γ w (ρ x) (ρv x)){t e:TypeId}{sz by' len:Nat}(he:bV P t=some (e,sz,by')){parts:Array (Nat × Operand)}
  (h1:len * sz≤16777216) (h2:parts.size=len) (h3:sz≠0) (hok:g_ P e=true) {es:List (List D)} (hp:jh ρ sz 0 parts.toList=some es):
  Out M₀ γ σ w (((Instr.buildSlice t len (parts.map fun (i,x)=>(i,ρv x))) >>= fun x=>pure (Next.value x)).run P w) (.slice sz false es none) []:=by
 obtain⟨i,ht,hi,hs,_⟩:=fB he
 obtain⟨i',z,hi',hz,hzs⟩:=nN hok
 rw[hi] at hi';cases hi'
 obtain⟨a1,a2,vs,a3,a4,a5,a6⟩:=Ep hρ parts.toList 0 es hp
 have hl:es.length=len:=by rw[a1];simpa using h2
 have QX:∀(cs:Array Value),cs.size=len * sz→Instr.fill (fun i=>some (i * sz,sz)) cs (parts.map fun (i,x)=>(i,ρv x)).toList=some vs.toArray:=by
  intro cs hcs
  have:=a6 len cs (by simpa using hcs) (by simpa using Nat.le_of_eq h2)
  rw[Array.toList_map,this]
  simp only[Nat.zero_mul,List.take_zero,List.nil_append,Nat.zero_add]
  rw[List.drop_of_length_le (by simp;rw[a3,hl,hcs];exact Nat.le_refl _),List.append_nil]
 obtain⟨hst,hv⟩:=h.QW (.cells vs.toArray e)
 have hsize:(sizeOf e).run P w= .ok sz w:=by simp[sizeOf,typeInfo,hi,hs]
 refine⟨.slice (some ⟨w.heap.size,0,none⟩) len len,w.alloc (.cells vs.toArray e),γ,.inl ?_,hst,hv,?_⟩
 ·have hng:¬(len * sz>16777216):=by omega
  by_cases h0:len=0
  ·have hf:=QX (Array.map (fun x=>(#[]:Array Value)[x % 0]!) (Array.range (0 * sz))) (by subst h0;simp)
   subst h0
   simp only[Instr.buildSlice,Sem.run_bind,run_underlying ht,Result.andThen_ok,hsize,Sem.run_ite]
   simp only[Nat.zero_mul,Nat.not_lt_zero,gt_iff_lt,if_false,if_true,Sem.run_pure,Result.andThen_ok] at hf ⊢
   simp only[Array.size_empty,hf]
   simp[newRow]
  ·have hpos:¬(len * sz=0):=by
    intro h;rcases Nat.mul_eq_zero.1 h with h|h <;> omega
   have hf:=QX (Array.map (fun x=>z.cells[x % z.cells.size]!) (Array.range (len * sz))) (by simp)
   simp only[Instr.buildSlice,Sem.run_bind,run_underlying ht,Result.andThen_ok,hsize,Sem.run_ite,zeroValue,typeInfo,run_program,hi,hz,Sem.run_pure]
   rw[if_neg (by omega),if_neg hpos]
   simp only[hf]
   simp[newRow]
 ·have:=Ad (M:=aC M₀ γ) (γ:=γ) (w:=w.alloc (.cells vs.toArray e)) (B:=w.heap.size) (cap:=len) (sz:=sz) (cur:=vs.toArray) (e:=e) (fz:=(0,0)) (heap_alloc_new w _) (es:=es) (aS:=none) a2 vs a3
   (by simp[← a3]) a4 (fun off _ hm=>by have:=h.agm hm;omega) (fun i j x d u q1 q2 q3=>(a5 i j x d u q1 q2 q3).bZ hv) (by omega) (iK.none _ _ _)
  rw[hl] at this
  exact this
theorem xP {sz:Nat}:∀(es:List (List D)),(∀e∈es,e.length=sz)→∀(i:Nat) d,es.flatten[i]?=some d→∃e,es[i / sz]?=some e∧e[i % sz]?=some d
 | [],_,i,d,h=>by simp at h
 |e::es,he,i,d,h=>by
  have hl:e.length=sz:=he e (by simp)
  simp only[List.flatten_cons] at h
  by_cases hi:i<sz
  ·rw[List.getElem?_append_left (by omega)] at h
   exact⟨e,by rw[Nat.div_eq_of_lt hi];rfl,by rw[Nat.mod_eq_of_lt hi];exact h⟩
  ·have h0:0<sz:=by
    rcases Nat.eq_zero_or_pos sz with h0|h0
    ·subst h0
     have:∀(l:List (List D)),(∀x∈l,x.length=0)→l.flatten=[]:=by
      intro l hl;exact List.flatten_eq_nil_iff.2 fun x hx=>List.eq_nil_of_length_eq_zero (hl x hx)
     rw[List.getElem?_append_right (by omega),this es (fun x hx=>he x (by simp[hx]))] at h
     simp at h
    ·exact h0
   rw[List.getElem?_append_right (by omega),hl] at h
   obtain⟨e',h1,h2⟩:=xP es (fun x hx=>he x (by simp[hx])) (i - sz) d h
   refine⟨e',?_,?_⟩
   ·have:i / sz=(i - sz) / sz+1:=by
     have:i=(i - sz)+sz:=by omega
     conv=>lhs;rw[this]
     exact Nat.add_div_right _ h0
    rw[this];simpa using h1
   ·have:i % sz=(i - sz) % sz:=by
     have:i=(i - sz)+sz:=by omega
     conv=>lhs;rw[this]
     exact Nat.add_mod_right _ _
    rw[this];exact h2
theorem kJ {sz:Nat}:∀(es:List (List D)),(∀e∈es,e.length=sz)→es.flatten.length=es.length * sz
 | [],_=>by simp
 |e::es,he=>by
  rw[List.flatten_cons,List.length_append,he e (by simp),kJ es (fun x hx=>he x (by simp[hx])),List.length_cons,Nat.succ_mul];omega
theorem O8 (h:Store M₀ γ σ w)(hρ:∀x,Rep (aC M₀ γ) γ w (ρ x) (ρv x)){id:Nat}(hid:σ id=none){t e:TypeId}{sz by' len:Nat}(he:bV P t=some (e,sz,by')){parts:Array (Nat × Operand)}
  (h1:len * sz≤16777216) (h2:parts.size=len) (h3:sz≠0) (hok:g_ P e=true) {es:List (List D)} (hp:jh ρ sz 0 parts.toList=some es):
  Out M₀ γ σ w (((Instr.buildSlice t len (parts.map fun (i,x)=>(i,ρv x))) >>= fun x=>pure (Next.value x)).run P w) (.slice sz false es (some id)) [(id,.aS e sz len)]:=by
 obtain⟨i,ht,hi,hs,_⟩:=fB he
 obtain⟨i',z,hi',hz,hzs⟩:=nN hok
 rw[hi] at hi';cases hi'
 obtain⟨a1,a2,vs,a3,a4,a5,a6⟩:=Ep hρ parts.toList 0 es hp
 have hl:es.length=len:=by rw[a1];simpa using h2
 have QX:∀(cs:Array Value),cs.size=len * sz→Instr.fill (fun i=>some (i * sz,sz)) cs (parts.map fun (i,x)=>(i,ρv x)).toList=some vs.toArray:=by
  intro cs hcs
  have:=a6 len cs (by simpa using hcs) (by simpa using Nat.le_of_eq h2)
  rw[Array.toList_map,this]
  simp only[Nat.zero_mul,List.take_zero,List.nil_append,Nat.zero_add]
  rw[List.drop_of_length_le (by simp;rw[a3,hl,hcs];exact Nat.le_refl _),List.append_nil]
 have hsize:(sizeOf e).run P w= .ok sz w:=by simp[sizeOf,typeInfo,hi,hs]
 let v:Value:= .slice (some ⟨w.heap.size,0,none⟩) len len
 let g:G:= .aS sz e v len
 have hv:=aQ.fresh h hid g (w.alloc (.cells vs.toArray e)) rfl rfl rfl (by simp) (bJ w _) (fun B hB=>by simp[g,v,G.block,Value.ownBlock] at hB;omega)
 have hml:len≤maxLen:=by unfold maxLen;have:len≤len * sz:=Nat.le_mul_of_pos_right _ (by omega);omega
 have hrel:cO (aC M₀ (upd γ id (some g))) (upd γ id (some g)) (w.alloc (.cells vs.toArray e)) (.aS e sz len) g:=
  .aS vs ⟨by rw[a3,hl],.inr ⟨w.heap.size,len,vs.toArray,rfl,Nat.zero_le _,heap_alloc_new w _,Nat.le_refl _,hml,by simp[a3,hl],by simp[← hl,← a3]⟩⟩
 refine⟨v,w.alloc (.cells vs.toArray e),upd γ id (some g),.inl ?_,h.change id (.aS e sz len) g _ hv (fun i gi B hi hg hB=>bJ w _ B (h.lt hg hB)) (fun B hB=>by simp[g,v,G.block,Value.ownBlock] at hB;omega) hrel,hv,?_⟩
 ·have hng:¬(len * sz>16777216):=by omega
  by_cases h0:len=0
  ·have hf:=QX (Array.map (fun x=>(#[]:Array Value)[x % 0]!) (Array.range (0 * sz))) (by subst h0;simp)
   subst h0
   simp only[Instr.buildSlice,Sem.run_bind,run_underlying ht,Result.andThen_ok,hsize,Sem.run_ite]
   simp only[Nat.zero_mul,Nat.not_lt_zero,gt_iff_lt,if_false,if_true,Sem.run_pure,Result.andThen_ok] at hf ⊢
   simp only[Array.size_empty,hf]
   simp[newRow,v]
  ·have hpos:¬(len * sz=0):=by
    intro h;rcases Nat.mul_eq_zero.1 h with h|h <;> omega
   have hf:=QX (Array.map (fun x=>z.cells[x % z.cells.size]!) (Array.range (len * sz))) (by simp)
   simp only[Instr.buildSlice,Sem.run_bind,run_underlying ht,Result.andThen_ok,hsize,Sem.run_ite,zeroValue,typeInfo,run_program,hi,hz,Sem.run_pure]
   rw[if_neg (by omega),if_neg hpos]
   simp only[hf]
   simp[newRow,v]
 ·have:=Ad (M:=aC M₀ (upd γ id (some g))) (γ:=upd γ id (some g)) (w:=w.alloc (.cells vs.toArray e)) (B:=w.heap.size) (cap:=len) (sz:=sz) (cur:=vs.toArray) (e:=e) (fz:=(0,0)) (heap_alloc_new w _) (es:=es) (aS:=some id) a2 vs a3
   (by simp[← a3]) a4 (fun off hoff hm=>by
    rcases hm with hm | ⟨b,g',hg',hw⟩
    ·have:=h.outer _ _ hm;omega
    ·by_cases hb:b=id
     ·subst hb
      rw[upd_same] at hg';cases hg'
      have hw2:len * sz≤off:=hw.2
      rw[hl] at hoff;omega
     ·rw[bF _ _ hb] at hg'
      have:=h.lt hg' (G.jQ hw)
      omega) (fun i j x d u q1 q2 q3=>(a5 i j x d u q1 q2 q3).bZ hv) (by omega) (fun t' ht'=>by cases ht';exact⟨sz,e,v,len,upd_same _ _ _,by omega,fun _=>by rw[hl]⟩)
  rw[hl] at this
  exact this
theorem UW (h:Store M₀ γ σ w){id:Nat}(hid:σ id=none){ts:Array TypeId}{x y:D}{f:Eff}(ha:CY P σ id ts x y=some f)(hside:f.side){xv yv:Value}(hx:Rep (aC M₀ γ) γ w x xv)(hy:Rep (aC M₀ γ) γ w y yv)(ty:TypeId):
  Out M₀ γ σ w (((Builtin.append_ ts ty #[xv,yv]) >>= fun x=>pure (Next.value x)).run P w) f.val f.ws:=by
 unfold CY at ha
 split at ha
 rotate_left
 ·cases ha
 rename_i e sz by' z0 nil es aS sz' nil' es' aip he
 simp only[Option.bind_eq_some_iff] at he
 obtain⟨t,ht0,he⟩:=he
 obtain⟨i,ht,hi,hs,hb⟩:=fB he
 split at ha
 ·cases ha
 rename_i hc
 simp only[not_or,not_and,Bool.not_eq_false,ne_eq,Decidable.not_not] at hc
 obtain⟨c1,c2,c3,c4,c5⟩:=hc
 obtain⟨i',z,hi',hz,hzs⟩:=nN c2
 rw[hi] at hi';cases hi'
 have hts:ts=#[t,t]:=by
  have:ts.getD 0 0=t:=by simp[Array.getD_eq_getD_getElem?,ht0]
  rw[c3,this]
 subst hs;subst hb
 have agq:∃vs:List Value,vs.length=es.length * i.size∧(∀x∈es,x.length=i.size)∧(∀u∈vs,u.oneCell'=true)∧(∀(k j:Nat) x d u,es[k]?=some x→x[j]?=some d→vs[k * i.size+j]?=some u→Rep (aC M₀ γ) γ w d u)∧
   ((xv= .slice none 0 0∧es=[]∧nil=true)∨∃(a:Addr) (cap:Nat),nil=false∧xv= .slice (some a) es.length cap∧es.length≤cap∧(es≠[]→a.spot=none)∧(∀j u,vs[j]?=some u→w.cell? ⟨a.block,a.off+j,none⟩=some u)):=by
  rcases aW hx with⟨rfl,rfl,hn⟩ | ⟨a,cap,vs,rfl,hn,hspot,hvs,hcap,hsz,hcell,hr,_⟩
  ·exact⟨[],by simp,by simp,by simp,by simp,.inl ⟨rfl,rfl,hn⟩⟩
  ·by_cases h0:es=[]
   ·subst h0
    have:vs=[]:=List.eq_nil_of_length_eq_zero (by simpa using hvs)
    subst this
    exact⟨[],by simp,by simp,by simp,by simp,.inr ⟨a,cap,hn,rfl,hcap,hspot,by simp⟩⟩
   ·have hz0:=c4 h0
    subst hz0
    exact⟨vs,hvs,hsz,fun u hu=>by obtain⟨j,hj⟩:=List.getElem?_of_mem hu;exact (hcell j u hj).2.2,hr,.inr ⟨a,cap,hn,rfl,hcap,hspot,fun j u hu=>(hcell j u hu).1⟩⟩
 have ZV:es'=[]→∃b2 c,yv= .slice b2 0 c:=by
  intro h0
  subst h0
  rcases aW hy with⟨rfl,_,_⟩ | ⟨a,cap,vs,rfl,_⟩
  ·exact⟨none,0,rfl⟩
  ·exact⟨some a,cap,rfl⟩
 obtain⟨vs,hvs,hsz,h1o,hr,hform⟩:=agq
 subst hts
 split at ha
 ·-- a aS
  rename_i t'
  split at ha
  rotate_left
  ·cases ha
  rename_i e' zz n hσ
  split at ha
  rotate_left
  ·cases ha
  rename_i hcc
  obtain⟨he2,rfl,rfl⟩:=hcc
  have he3:=he2.symm
  subst he3
  simp only[Option.some.injEq] at ha
  subst ha
  obtain⟨g,hg,hbr⟩:=h.hit hσ
  cases hbr with
  | @aS _ _ _ v xs ho=>
   have htip:iK γ (some t') es.length xv:=by
    rcases aW hx with⟨rfl,rfl,_⟩ | ⟨a,cap,vs,rfl,_,_,_,_,_,_,_,ht⟩
    ·cases hx with
     |nilslice ht=>exact ht
    ·exact ht
   obtain⟨_,_,v',n',q1,q2,q3⟩:=htip t' rfl
   rw[hg] at q1;cases q1
   have hvx:=q3 rfl
   subst hvx
   have hown:w.ownsRow 0 e i.size xv es.length vs:=by
    refine⟨hvs,?_⟩
    rcases ho.2 with h2 | ⟨gB,cap,cur,h2,h3,h4,h5,h6,h7,h8⟩
    ·exact .inl h2
    ·refine .inr ⟨gB,cap,cur,h2,h3,h4,h5,h6,h7,?_⟩
     rcases hform with⟨rfl,_,_⟩ | ⟨a,cap',_,hxv,hcap,hspot,hcell⟩
     ·cases h2
     ·rw[hxv] at h2
      cases h2
      apply List.ext_getElem?
      intro j
      by_cases hj:j<es.length * i.size
      ·have hlt:j<vs.length:=by omega
       have:=hcell j _ (List.getElem?_eq_getElem hlt)
       simp only[Nat.zero_add] at this
       rw[cell_of_row w gB j cur e _ h4] at this
       rw[List.getElem?_take,if_pos hj,List.getElem?_eq_getElem hlt,Array.getElem?_toList]
       exact this
      ·rw[List.getElem?_take,if_neg hj,List.getElem?_eq_none (by omega)]
   by_cases h0:es'=[]
   ·obtain⟨b2,c,rfl⟩:=ZV h0
    subst h0
    have hσ':upd σ t' (some (.aS e i.size (es.length+([]:List (List D)).length)))=σ:=by
     funext j;by_cases hj:j=t' <;> simp[upd,hj,hσ]
    rcases hform with⟨rfl,rfl,rfl⟩ | ⟨a,cap,rfl,rfl,hcap,_,_⟩
    ·refine⟨.slice none 0 0,w,γ,.inl ?_,by simp only[Df,hσ'];exact h,aQ.refl _ _ _,?_⟩
     ·rw[Sem.run_bind,vF ht hi ty _ rfl (Nat.le_refl _)];rfl
     ·exact .nilslice (fun t'' ht''=>by cases ht'';exact⟨_,_,_,_,hg,Nat.zero_le _,fun _=>rfl⟩)
    ·refine⟨.slice (some a) es.length cap,w,γ,.inl ?_,by simp only[Df,hσ'];exact h,aQ.refl _ _ _,?_⟩
     ·rw[Sem.run_bind,vF ht hi ty _ rfl hcap];rfl
     ·simp only[Bool.false_and,List.append_nil]
      by_cases he0:es=[]
      ·subst he0
       obtain⟨a',cap',hx'⟩:∃a cap,Value.slice (some a) ([]:List (List D)).length cap= .slice (some a) 0 cap:=⟨a,cap,rfl⟩
       cases hx with
       |slice vs0 g1 g2 g3 g4 g5 g6 g7=>exact .slice [] (by simp) (by simp) g3 (by simp) (by simp) g6 g7
      ·have hz0:=c4 he0
       subst hz0
       exact hx
   ·have h5:=c5 h0
    subst h5
    have hsd:(es.length+es'.length) * i.bytes≤140737488355328∧es.length+es'.length≤9223372036854775807:=hside
    obtain⟨v',w',γ',r1,r2,r3,r4⟩:=vH h ht hi hz hzs ty t' xv es es' hsz vs hvs hown hr h1o (.inr hg) yv nil' aip hy h0 hsd.2 hsd.1
    refine⟨v',w',γ',.inl (by rw[Sem.run_bind,r1];rfl),r2,r3,?_⟩
    have:(nil && es'.isEmpty)=false:=by
     have:es'.isEmpty=false:=by
      cases hq:es' with
      |nil=>exact absurd hq h0
      |cons _ _=>rfl
     rw[this,Bool.and_false]
    simp only[this]
    exact r4
 ·-- no aS
  split at ha
  rotate_left
  ·cases ha
  rename_i hnil
  subst hnil
  rcases hform with⟨rfl,rfl,_⟩ | ⟨_,_,hn,_⟩
  rotate_left
  ·cases hn
  split at ha
  ·rename_i h0
   simp only[Option.some.injEq] at ha
   subst ha
   obtain⟨b2,c,rfl⟩:=ZV h0
   refine⟨.slice none 0 0,w,γ,.inl ?_,h,aQ.refl _ _ _,.nilslice (iK.none _ _ _)⟩
   rw[Sem.run_bind,vF ht hi ty _ rfl (Nat.le_refl _)];rfl
  ·rename_i h0
   simp only[Option.some.injEq] at ha
   subst ha
   have h5:=c5 h0
   subst h5
   have hsd:es'.length * i.bytes≤140737488355328∧es'.length≤9223372036854775807:=hside
   have agr:vs=[]:=List.eq_nil_of_length_eq_zero (by simpa using hvs)
   subst agr
   obtain⟨v',w',γ',r1,r2,r3,r4⟩:=vH h ht hi hz hzs ty id (.slice none 0 0) [] es' (by simp) [] (by simp) (World.ownsRow_nil w 0 e i.size) (by simp) (by simp) (.inl ⟨h.miss hid,hid,rfl,rfl⟩) yv nil' aip hy h0 (by simpa using hsd.2) (by simpa using hsd.1)
   simp only[List.length_nil,Nat.zero_add,List.nil_append] at r2 r4
   exact⟨v',w',γ',.inl (by rw[Sem.run_bind,r1];rfl),r2,r3,r4⟩
end
end Go.Id
namespace Go.Id
open Go
section
variable {P:Program} {M₀:Base} {γ:Nat→Option G} {σ:Nat→Option aU} {w:World}
theorem out_range (h:Store M₀ γ σ w){b:Nat}(hb:σ b=none){t:TypeId}(ht:P.underlying t=some .string)(s:ByteArray):
  Out M₀ γ σ w ((do let v ← Instr.range t (.string s);pure (Next.value v):Sem Next).run P w) (.ref b 0) [(b,.iter s.data.toList 0)]:=by
 have hv:=aQ.fresh h hb (.iter w.heap.size) (w.alloc (.stringIter s 0)) rfl rfl rfl (by simp) (bJ w _) (fun B hB=>by simp[G.block] at hB;omega)
 have hs:=h.change b (.iter s.data.toList 0) (.iter w.heap.size) _ hv (fun i gi B hi hg hB=>bJ w _ B (h.lt hg hB)) (fun B hB=>by simp[G.block] at hB;omega) (.iter (heap_alloc_new w _))
 refine⟨.pointer (some ⟨w.heap.size,0,none⟩),_,_,.inl ?_,hs,hv,.ref (.inr (.inr (upd_same _ _ _)))⟩
 simp[Instr.range,run_underlying ht]
theorem ZW (h:Store M₀ γ σ w){b:Nat}{s:List UInt8}{pos:Nat}(hb:σ b=some (.iter s pos)){v:Value}(hv:Rep (aC M₀ γ) γ w (.ref b 0) v)(ty:TypeId):
  Out M₀ γ σ w ((do let v ← Instr.next v true ty;pure (Next.value v):Sem Next).run P w)
   (if pos<s.length then .aJ [.bool true,.int .i64 pos,.int .i32 (iy s pos).1] else .aJ [.bool false]) (if pos<s.length then [(b,.iter s (pos+(iy s pos).2))] else []):=by
 obtain⟨g,h2,h3⟩:=h.hit hb
 cases h3 with
 | @iter s pos B hB=>
  have hl:s.data.toList.length=s.size:=rfl
  have hd:iy s.data.toList pos=Utf8.decode s pos:=rfl
  rw[hl,hd]
  cases hv with
  | @ref _ B' _ hγ=>
   rcases hγ with hγ | ⟨_,_,hγ⟩|hγ <;> rw[h2] at hγ <;> cases hγ
   have hget:(getObj B).run P w= .ok (.stringIter s pos) w:=by simp[getObj,Sem.run,hB]
   by_cases hp:pos<s.size
   ·simp only[if_pos hp]
    generalize hdec:Utf8.decode s pos=cw
    obtain⟨c,wd⟩:=cw
    have hlt:B<w.heap.size:=(Array.getElem?_eq_some_iff.1 hB).1
    let w':World:={ w with heap:=w.heap.setIfInBounds B (.stringIter s (pos+wd))}
    have hset:(setObj B (.stringIter s (pos+wd))).run P w= .ok () w':=by
     have hB2:=hB
     rw[Array.getElem?_eq_getElem hlt] at hB2
     simp only[Option.some.injEq] at hB2
     simp[setObj,Sem.run,hlt,w',hB2]
    have hB':w'.heap[B]?=some (.stringIter s (pos+wd)):=by simp[w',hlt]
    have hother:∀k,k≠B→w'.heap[k]?=w.heap[k]?:=fun k hk=>by simp[w',Ne.symm hk]
    have hsize:w'.heap.size=w.heap.size:=by simp[w']
    have hM:∀o,aC M₀ γ B o:=fun o=> .inr ⟨b,_,h2,rfl⟩
    have hv:aQ (aC M₀ γ) γ w (aC M₀ γ) γ w':=by
     refine⟨rfl,rfl,rfl,by omega,fun B' o u hn hu=>?_,fun _ _ h _=>h,fun _ g h=>⟨g,h,G.le_refl g⟩,fun B' _ hn=>hother B' (fun e=>hn b _ h2 (by rw[e];rfl)),fun i gi _ h h' _=>⟨i,gi,h,h'⟩⟩
     have:B'≠B:=fun e=>by subst e;exact hn (hM o)
     rw[World.cell?_of_block (w:=w) (w':=w') (by simpa using hother B' this)];exact hu
    have lW:upd γ b (some (.iter B))=γ:=by funext i;by_cases hi:i=b <;> simp[upd,hi,h2]
    refine⟨.tuple #[.bool true,goInt pos,.int .i32 c],w',γ,.inl ?_,?_,hv,?_⟩
    ·simp only[Instr.next,Sem.run_bind,hget,Result.andThen_ok,hp,if_true,hdec,hset,Sem.run_pure]
    ·have:=h.change b (.iter s.data.toList (pos+wd)) (.iter B) w' (by rw[lW];exact hv) (fun i gi B2 hi hgi yL=>hother B2 (fun e=>hi (h.dist i b gi _ B2 hgi h2 yL (by rw[e];rfl)))) (fun B' hB'=> .inr ⟨_,h2,hB'⟩) (.iter hB')
     rw[lW] at this
     exact this
    ·refine .aJ rfl (fun i d v h1 h2=>?_)
     match i with
     | 0=>simp at h1 h2;subst h1;subst h2;exact .bool _
     | 1=>simp at h1 h2;subst h1;subst h2;exact .int _ _
     | 2=>simp at h1 h2;subst h1;subst h2;exact .int _ _
     |i+3=>simp at h1
   ·simp only[if_neg hp]
    refine Out.same h (v:= .tuple #[.bool false]) ?_ (.aJ rfl (fun i d v h1 h2=>?_))
    ·simp only[Instr.next,Sem.run_bind,hget,Result.andThen_ok,hp,if_false,Sem.run_pure]
    ·match i with
     | 0=>simp at h1 h2;subst h1;subst h2;exact .bool _
     |i+1=>simp at h1
theorem Lp {e:TypeId}(h:byteElem P e=true):∃i,P.info? e=some i∧i.zero=some (.int .u8 0)∧i.size=1:=by
 unfold byteElem at h
 split at h
 ·rename_i i hi
  split at h
  ·rename_i hz;exact⟨i,hi,hz,by simpa using h⟩
  ·cases h
 ·cases h
theorem ZX (h:Store M₀ γ σ w){id:Nat}(hid:σ id=none){ts:Array TypeId}{x:D}{s:ByteArray}{f:Eff}(ha:CZ P σ id ts x s.data.toList=some f)(hside:f.side)(ty:TypeId){xv:Value}(hx:Rep (aC M₀ γ) γ w x xv):
  Out M₀ γ σ w ((do let v ← Builtin.append_ ts ty #[xv,.string s];pure (Next.value v):Sem Next).run P w) f.val f.ws:=by
 unfold CZ at ha
 split at ha
 rotate_left
 ·cases ha
 rename_i e sz by' z0 nil es aS hts
 split at ha
 ·cases ha
 rename_i hc
 simp only[not_or,Bool.not_eq_false,Decidable.not_not] at hc
 obtain⟨c1,rfl,c2,c3,c4⟩:=hc
 have c4':es≠[]→z0=1:=fun h=>by
  rcases Decidable.em (z0=1) with q|q
  ·exact q
  ·exact absurd ⟨h,q⟩ c4
 obtain⟨i,hi,hz,hs1⟩:=Lp c1
 have hu:=iC c2
 simp only[Option.bind_eq_some_iff] at hts
 obtain⟨t,ht0,he⟩:=hts
 obtain⟨i',ht,hi',hs,hb⟩:=fB he
 rw[hi] at hi';cases hi'
 have hts:ts=#[t,ts.getD 1 0]:=by
  have:ts.getD 0 0=t:=by simp[Array.getD_eq_getD_getElem?,ht0]
  rw[this] at c3
  exact c3
 generalize ts.getD 1 0=u at *
 subst hb
 subst hts
 have agq:∃vs:List Value,vs.length=es.length * i.size∧(∀x∈es,x.length=i.size)∧(∀u∈vs,u.oneCell'=true)∧(∀(k j:Nat) x d u,es[k]?=some x→x[j]?=some d→vs[k * i.size+j]?=some u→Rep (aC M₀ γ) γ w d u)∧
   ((xv= .slice none 0 0∧es=[]∧nil=true)∨∃(a:Addr) (cap:Nat),nil=false∧xv= .slice (some a) es.length cap∧es.length≤cap∧(es≠[]→a.spot=none)∧(∀j u,vs[j]?=some u→w.cell? ⟨a.block,a.off+j,none⟩=some u)):=by
  rcases aW hx with⟨rfl,rfl,hn⟩ | ⟨a,cap,vs,rfl,hn,hspot,hvs,hcap,hsz,hcell,hr,_⟩
  ·exact⟨[],by simp,by simp,by simp,by simp,.inl ⟨rfl,rfl,hn⟩⟩
  ·by_cases h0:es=[]
   ·subst h0
    have:vs=[]:=List.eq_nil_of_length_eq_zero (by simpa using hvs)
    subst this
    exact⟨[],by simp,by simp,by simp,by simp,.inr ⟨a,cap,hn,rfl,hcap,hspot,by simp⟩⟩
   ·have hz0:=c4' h0
    rw[hz0,← hs1] at hvs hsz hr
    exact⟨vs,hvs,hsz,fun u hu=>by obtain⟨j,hj⟩:=List.getElem?_of_mem hu;exact (hcell j u hj).2.2,hr,.inr ⟨a,cap,hn,rfl,hcap,hspot,fun j u hu=>(hcell j u hu).1⟩⟩
 obtain⟨vs,hvs,hsz,h1o,hr,hform⟩:=agq
 split at ha
 ·-- nothing comes in
  rename_i h0
  simp only[Option.some.injEq] at ha
  subst ha
  have h00:s.size=0:=by
   have:s.data.toList.length=s.size:=rfl
   rw[h0] at this;simpa using this.symm
  refine Out.same h (v:=xv) ?_ hx
  have hf:=Lib.run_firstCells_string (P:=P) w 1 s
  have hn:Lib.strCells s=[]:=List.eq_nil_of_length_eq_zero (by rw[Lib.strCells_length];exact h00)
  rw[h00,hn] at hf
  have key:(Builtin.append_ #[t,u] ty #[xv,.string s]).run P w= .ok xv w:=by
   rcases hform with⟨rfl,_,_⟩ | ⟨a,cap,_,rfl,hcap,_⟩
   ·simp[Builtin.append_,run_underlying ht,run_underlying hu,sizeOf,typeInfo,hi,hs1,Builtin.lenOf,h00,hf]
   ·simp[Builtin.append_,run_underlying ht,run_underlying hu,sizeOf,typeInfo,hi,hs1,Builtin.lenOf,h00,hf,hcap,storeCells]
  rw[Sem.run_bind,key];rfl
 rename_i h0
 split at ha
 ·-- a aS
  rename_i t'
  split at ha
  rotate_left
  ·cases ha
  rename_i e' zz n hσ
  split at ha
  rotate_left
  ·cases ha
  rename_i hcc
  obtain⟨he2,hz1,rfl⟩:=hcc
  have he3:=he2.symm
  subst he3
  simp only[Option.some.injEq] at ha
  subst ha
  obtain⟨g,hg,hbr⟩:=h.hit hσ
  cases hbr with
  | @aS _ _ _ v xs ho=>
   have htip:iK γ (some t') es.length xv:=by
    rcases aW hx with⟨rfl,rfl,_⟩ | ⟨a,cap,vs,rfl,_,_,_,_,_,_,_,ht⟩
    ·cases hx with
     |nilslice ht=>exact ht
    ·exact ht
   obtain⟨_,_,v',n',q1,q2,q3⟩:=htip t' rfl
   rw[hg] at q1;cases q1
   have hvx:=q3 rfl
   subst hvx
   rw[hz1,← hs1] at ho hg
   have hown:w.ownsRow 0 e i.size xv es.length vs:=by
    refine⟨hvs,?_⟩
    rcases ho.2 with h2 | ⟨gB,cap,cur,h2,h3,h4,h5,h6,h7,h8⟩
    ·exact .inl h2
    ·refine .inr ⟨gB,cap,cur,h2,h3,h4,h5,h6,h7,?_⟩
     rcases hform with⟨rfl,_,_⟩ | ⟨a,cap',_,hxv,hcap,hspot,hcell⟩
     ·cases h2
     ·rw[hxv] at h2
      cases h2
      apply List.ext_getElem?
      intro j
      by_cases hj:j<es.length * i.size
      ·have hlt:j<vs.length:=by omega
       have:=hcell j _ (List.getElem?_eq_getElem hlt)
       simp only[Nat.zero_add] at this
       rw[cell_of_row w gB j cur e _ h4] at this
       rw[List.getElem?_take,if_pos hj,List.getElem?_eq_getElem hlt,Array.getElem?_toList]
       exact this
      ·rw[List.getElem?_take,if_neg hj,List.getElem?_eq_none (by omega)]
   have hsd:(es.length+s.data.toList.length) * i.bytes≤140737488355328∧es.length+s.data.toList.length≤9223372036854775807:=hside
   obtain⟨v',w',γ',r1,r2,r3,r4⟩:=vI h ht hu hi hz hs1 ty t' xv es hsz vs hvs hown hr h1o (.inr hg) s h0 hsd.2 hsd.1
   rw[hs1] at r2 r4
   exact⟨v',w',γ',.inl (by rw[Sem.run_bind,r1];rfl),r2,r3,r4⟩
 ·split at ha
  rotate_left
  ·cases ha
  rename_i hnil
  subst hnil
  rcases hform with⟨rfl,rfl,_⟩ | ⟨_,_,hn,_⟩
  rotate_left
  ·cases hn
  simp only[Option.some.injEq] at ha
  subst ha
  have hsd:s.data.toList.length * i.bytes≤140737488355328∧s.data.toList.length≤9223372036854775807:=hside
  have agr:vs=[]:=List.eq_nil_of_length_eq_zero (by simpa using hvs)
  subst agr
  obtain⟨v',w',γ',r1,r2,r3,r4⟩:=vI h ht hu hi hz hs1 ty id (.slice none 0 0) [] (by simp) [] (by simp) (World.ownsRow_nil w 0 e i.size) (by simp) (by simp) (.inl ⟨h.miss hid,hid,rfl,rfl⟩) s h0 (by simpa using hsd.2) (by simpa using hsd.1)
  simp only[List.length_nil,Nat.zero_add,List.nil_append] at r2 r4
  rw[hs1] at r2 r4
  exact⟨v',w',γ',.inl (by rw[Sem.run_bind,r1];rfl),r2,r3,r4⟩
theorem ZY (h:Store M₀ γ σ w){id:Nat}(hid:σ id=none){ts:Array TypeId}{x y:D}{f:Eff}(ha:OW P σ id ts x y=some f)(hside:f.side){xv yv:Value}(hx:Rep (aC M₀ γ) γ w x xv)(hy:Rep (aC M₀ γ) γ w y yv)(ty:TypeId):
  Out M₀ γ σ w (((Builtin.append_ ts ty #[xv,yv]) >>= fun x=>pure (Next.value x)).run P w) f.val f.ws:=by
 unfold OW at ha
 split at ha
 ·cases hy with
  |str s=>exact ZX h hid ha hside ty hx
 ·exact UW h hid ha hside hx hy ty
theorem Z4 (ty:TypeId)(ts:Array TypeId){x y d:D}(hd:minD x y=some d){M:Nat→Nat→Prop}{xv yv:Value}(hx:Rep M γ w x xv)(hy:Rep M γ w y yv):∃v,(Builtin.min_ ts ty #[xv,yv]).run P w= .ok v w∧Rep M γ w d v:=by
 unfold minD at hd
 split at hd
 ·cases hx;cases hy;simp only[Option.some.injEq] at hd;subst hd
  exact⟨_,rfl,.int _ _⟩
 ·cases hd
theorem Z5 (ty:TypeId)(ts:Array TypeId){x y d:D}(hd:maxD x y=some d){M:Nat→Nat→Prop}{xv yv:Value}(hx:Rep M γ w x xv)(hy:Rep M γ w y yv):∃v,(Builtin.max_ ts ty #[xv,yv]).run P w= .ok v w∧Rep M γ w d v:=by
 unfold maxD at hd
 split at hd
 ·cases hx;cases hy;simp only[Option.some.injEq] at hd;subst hd
  exact⟨_,rfl,.int _ _⟩
 ·cases hd
end
end Go.Id
namespace Go.Id
open Go
theorem pq {P:Program}{t e:TypeId}(h:mapD P t=some e):∃k,P.underlying t=some (.map k e)∧P.underlying k=some .string:=by
 unfold mapD at h
 split at h
 ·rename_i k e' hu
  split at h
  ·rename_i hk
   simp only[if_true,Option.some.injEq] at h;subst h
   exact⟨k,hu,hk⟩
  ·simp at h
 ·cases h
theorem mk_data (s:ByteArray):(⟨s.data.toList.toArray⟩:ByteArray)=s:=by cases s;simp
def QL (R:D→Value→Prop):List MapEntry→List (List UInt8 × D × Nat)→Prop
 | [],[]=>True
 |e::en,(k,d,n)::es=>e.key= .string ⟨k.toArray⟩∧e.born=n∧R d e.val∧QL R en es
 | _,_=>False
theorem QL.mono {R R':D→Value→Prop}(hR:∀d v,R d v→R' d v):∀{en es},QL R en es→QL R' en es
 | [],[],_=>trivial
 |e::en,(k,d,n)::es,⟨h1,h2,h3,h4⟩=>⟨h1,h2,hR _ _ h3,QL.mono hR h4⟩
 | [],_::_,h=>h.elim
 | _::_,[],h=>h.elim
theorem Z7 {R:D→Value→Prop}:∀{en:List MapEntry} {es:List (List UInt8 × D × Nat)},en.length=es.length→
  (∀(i:Nat) e k d n,en[i]?=some e→es[i]?=some (k,d,n)→e.key= .string ⟨k.toArray⟩∧e.born=n∧R d e.val)→QL R en es
 | [],[],_,_=>trivial
 |e::en,(k,d,n)::es,hl,h=>by
  obtain⟨h1,h2,h3⟩:=h 0 e k d n rfl rfl
  exact⟨h1,h2,h3,Z7 (by simpa using hl) (fun i e k d n q1 q2=>h (i+1) e k d n (by simpa using q1) (by simpa using q2))⟩
 | [],_::_,hl,_=>by simp at hl
 | _::_,[],hl,_=>by simp at hl
theorem QL.out {R:D→Value→Prop}:∀{en:List MapEntry} {es:List (List UInt8 × D × Nat)},QL R en es→en.length=es.length∧
  (∀(i:Nat) e k d n,en[i]?=some e→es[i]?=some (k,d,n)→e.key= .string ⟨k.toArray⟩∧e.born=n∧R d e.val)
 | [],[],_=>⟨rfl,by simp⟩
 |e::en,(k,d,n)::es,⟨h1,h2,h3,h4⟩=>by
  obtain⟨r1,r2⟩:=QL.out h4
  refine⟨by simp[r1],fun i e' k' d' n' q1 q2=>?_⟩
  match i with
  | 0=>simp at q1 q2;obtain⟨rfl,rfl,rfl⟩:=q2;subst q1;exact⟨h1,h2,h3⟩
  |i+1=>exact r2 i e' k' d' n' (by simpa using q1) (by simpa using q2)
 | [],_::_,h=>h.elim
 | _::_,[],h=>h.elim
theorem QL.push {R:D→Value→Prop}:∀{en:List MapEntry} {es:List (List UInt8 × D × Nat)},QL R en es→∀(s:ByteArray) (x:D) (v:Value) (n:Nat),R x v→QL R (en++[{ key:= .string s,val:=v,born:=n }]) (es++[(s.data.toList,x,n)])
 | [],[],_,s,x,v,n,h=>⟨by rw[mk_data],rfl,h,trivial⟩
 |e::en,(k,d,m)::es,⟨h1,h2,h3,h4⟩,s,x,v,n,h=>⟨h1,h2,h3,QL.push h4 s x v n h⟩
 | [],_::_,h,_,_,_,_,_=>h.elim
 | _::_,[],h,_,_,_,_,_=>h.elim
theorem Ho {R:D→Value→Prop}(s:ByteArray):∀(en:List MapEntry) (es:List (List UInt8 × D × Nat)) (i:Nat),QL R en es→
  (je es s.data.toList=none∧Instr.findNow .string (.string s) en i=some none∧C_ es s.data.toList=es)∨
  ∃j e d,je es s.data.toList=some d∧Instr.findNow .string (.string s) en i=some (some (i+j,e.val))∧en[j]?=some e∧e.key= .string s∧R d e.val∧
   (∀x v,R x v→QL R (en.modify j fun e=>{ e with key:= .string s,val:=v }) (OX es s.data.toList x))∧QL R (en.eraseIdx j) (C_ es s.data.toList)
 | [],[],_,_=> .inl ⟨rfl,rfl,rfl⟩
 | [],_::_,_,h=>h.elim
 | _::_,[],_,h=>h.elim
 |e::en,(k,d,n)::es,i,⟨h1,h2,h3,h4⟩=>by
  by_cases hk:s.data.toList=k
  ·subst hk
   rw[mk_data] at h1
   refine .inr ⟨0,e,d,by simp[je],by simp[Instr.findNow,Instr.sameNow,h1,(MapKept.bytes_beq s s).2 rfl],rfl,h1,h3,fun x v hx=>?_,?_⟩
   ·simp only[List.modify_zero_cons,OX,if_true]
    exact⟨by rw[mk_data],h2,hx,h4⟩
   ·simp only[List.eraseIdx_zero,List.tail_cons,C_,if_true];exact h4
  ·have hne:¬(s == (⟨k.toArray⟩:ByteArray))=true:=fun q=>hk (by rw[(MapKept.bytes_beq _ _).1 q])
   have hne':(s == (⟨k.toArray⟩:ByteArray))=false:=by simpa using hne
   rcases Ho s en es (i+1) h4 with⟨r1,r2,r3⟩ | ⟨j,e',d',r1,r2,r3,r4,r5,r6,r7⟩
   ·exact .inl ⟨by simp[je,hk,r1],by simp[Instr.findNow,Instr.sameNow,h1,hne',r2],by simp[C_,hk,r3]⟩
   ·refine .inr ⟨j+1,e',d',by simp[je,hk,r1],by simp[Instr.findNow,Instr.sameNow,h1,hne',r2];omega,by simpa using r3,r4,r5,fun x v hx=>?_,?_⟩
    ·simp only[List.modify_succ_cons,OX,if_neg hk]
     exact⟨h1,h2,h3,r6 x v hx⟩
    ·simp only[List.eraseIdx_cons_succ,C_,if_neg hk]
     exact⟨h1,h2,h3,r7⟩
section
variable {P:Program} {M₀:Base} {γ:Nat→Option G} {σ:Nat→Option aU} {w:World}
theorem QY (h:Store M₀ γ σ w){b:Nat}(hb:σ b=none)(t:TypeId):
  Out M₀ γ σ w ((do let v ← Instr.makeMap t none;pure (Next.value v):Sem Next).run P w) (.map b) [(b,.map [] 0)]:=by
 have hv:=aQ.fresh h hb (.box w.heap.size) (w.alloc (.map #[] 0)) rfl rfl rfl (by simp) (bJ w _) (fun B hB=>by simp[G.block] at hB;omega)
 have hs:=h.change b (.map [] 0) (.box w.heap.size) _ hv (fun i gi B hi hg hB=>bJ w _ B (h.lt hg hB)) (fun B hB=>by simp[G.block] at hB;omega) (.map #[] (heap_alloc_new w _) rfl (by simp))
 refine⟨.map (some w.heap.size),_,_,.inl ?_,hs,hv,.map (upd_same _ _ _)⟩
 simp[Instr.makeMap]
theorem Hq (h:Store M₀ γ σ w){b B:Nat}(hg:γ b=some (.box B)){o:Obj}(hB:w.heap[B]?=some o)(en':Array MapEntry)(es':List (List UInt8 × D × Nat))(clock':Nat)
  (hrel:QL (Rep (aC M₀ γ) γ w) en'.toList es'):
  Store M₀ γ (upd σ b (some (.map es' clock'))) { w with heap:=w.heap.setIfInBounds B (.map en' clock')}∧aQ (aC M₀ γ) γ w (aC M₀ γ) γ { w with heap:=w.heap.setIfInBounds B (.map en' clock')}:=by
 have hlt:B<w.heap.size:=(Array.getElem?_eq_some_iff.1 hB).1
 generalize hw':({ w with heap:=w.heap.setIfInBounds B (.map en' clock')}:World)=w'
 have hB':w'.heap[B]?=some (.map en' clock'):=by simp[← hw',hlt]
 have hother:∀k,k≠B→w'.heap[k]?=w.heap[k]?:=fun k hk=>by simp[← hw',Ne.symm hk]
 have hsize:w'.heap.size=w.heap.size:=by simp[← hw']
 have hM:∀o,aC M₀ γ B o:=fun o=> .inr ⟨b,_,hg,rfl⟩
 have hv:aQ (aC M₀ γ) γ w (aC M₀ γ) γ w':=by
  refine⟨by rw[← hw'],by rw[← hw'],by rw[← hw'],by omega,fun B' o u hn hu=>?_,fun _ _ h _=>h,fun _ g h=>⟨g,h,G.le_refl g⟩,fun B' _ hn=>hother B' (fun e=>hn b _ hg (by rw[e];rfl)),fun i gi _ h h' _=>⟨i,gi,h,h'⟩⟩
  have:B'≠B:=fun e=>by subst e;exact hn (hM o)
  rw[World.cell?_of_block (w:=w) (w':=w') (by simpa using hother B' this)];exact hu
 have lW:upd γ b (some (.box B))=γ:=by funext i;by_cases hi:i=b <;> simp[upd,hi,hg]
 refine⟨?_,hv⟩
 obtain⟨r1,r2⟩:=(hrel.mono (fun d v hr=>hr.bZ hv)).out
 have:=h.change b (.map es' clock') (.box B) w' (by rw[lW];exact hv) (fun i gi B2 hi hgi yL=>hother B2 (fun e=>hi (h.dist i b gi _ B2 hgi hg yL (by rw[e];rfl)))) (fun B' hB'=> .inr ⟨_,hg,hB'⟩)
  (.map en' hB' (by simpa using r1) (fun i e k d n q1 q2=>by rw[lW];exact r2 i e k d n (by simpa using q1) q2))
 rw[lW] at this
 exact this
theorem Af (h:Store M₀ γ σ w){b:Nat}{es:List (List UInt8 × D × Nat)}{clock:Nat}(hb:σ b=some (.map es clock)){v:Value}(hv:Rep (aC M₀ γ) γ w (.map b) v):
  ∃B en,γ b=some (.box B)∧v= .map (some B)∧w.heap[B]?=some (.map en clock)∧QL (Rep (aC M₀ γ) γ w) en.toList es:=by
 obtain⟨g,h2,h3⟩:=h.hit hb
 cases h3 with
 |map en hB hl hk=>
  cases hv with
  |map hγ=>
   rw[h2] at hγ;cases hγ
   exact⟨_,en,h2,rfl,hB,Z7 (by simpa using hl) (fun i e k d n q1 q2=>hk i e k d n (by simpa using q1) q2)⟩
theorem UY (h:Store M₀ γ σ w){b:Nat}{es:List (List UInt8 × D × Nat)}{clock:Nat}(hb:σ b=some (.map es clock)){v:Value}(hv:Rep (aC M₀ γ) γ w (.map b) v){t e:TypeId}(ht:mapD P t=some e)
  {z:D} (hz:zeroV P e=some z) (s:ByteArray) (ok:Bool):
  Out M₀ γ σ w ((do let v ← Instr.lookup t v (.string s) ok;pure (Next.value v):Sem Next).run P w)
   (if ok then .aJ [(je es s.data.toList).getD z,.bool (je es s.data.toList).isSome] else (je es s.data.toList).getD z) []:=by
 obtain⟨k,h1,h2⟩:=pq ht
 obtain⟨B,en,g1,rfl,g2,g3⟩:=Af h hb hv
 unfold zeroV at hz
 simp only[Option.map_eq_some_iff,Option.bind_eq_some_iff] at hz
 obtain⟨zv,⟨i,hi,hiz⟩,rfl⟩:=hz
 have Z8:(zeroValue e).run P w= .ok zv w:=by simp[zeroValue,typeInfo,hi,hiz]
 have fin:∀(d:D) (u:Value) (o:Bool),(je es s.data.toList).getD (jv zv)=d→(je es s.data.toList).isSome=o→Rep (aC M₀ γ) γ w d u→
   (Instr.lookup t (.map (some B)) (.string s) ok).run P w= .ok (if ok then .tuple #[u,.bool o] else u) w→Out M₀ γ σ w ((do let v ← Instr.lookup t (.map (some B)) (.string s) ok;pure (Next.value v):Sem Next).run P w)
   (if ok then .aJ [(je es s.data.toList).getD (jv zv),.bool (je es s.data.toList).isSome] else (je es s.data.toList).getD (jv zv)) []:=by
  intro d u o e1 e2 hr hrun
  rw[e1,e2]
  refine Out.same h (by rw[Sem.run_bind,hrun];rfl) ?_
  cases ok
  ·exact hr
  ·refine .aJ rfl (fun i d v h1 h2=>?_)
   match i with
   | 0=>simp at h1 h2;subst h1;subst h2;exact hr
   | 1=>simp at h1 h2;subst h1;subst h2;exact .bool _
   |i+2=>simp at h1
 have hck:=fun em=>MapKept.run_checkKey (P:=P) (w:=w) (d:= .string) (k:= .string s) h2 trivial em 9999
 rcases Ho s en.toList es 0 g3 with⟨r1,r2,_⟩ | ⟨j,e',d',r1,r2,r3,r4,r5,_⟩
 ·refine fin (jv zv) zv false (by rw[r1];rfl) (by rw[r1];rfl) (jy _ _) ?_
  simp[Instr.lookup,run_underlying h1,MapKept.run_getObj_map g2,hck,MapKept.run_findKey h2 r2,Z8,Result.andThen]
 ·refine fin d' e'.val true (by rw[r1];rfl) (by rw[r1];rfl) r5 ?_
  simp[Instr.lookup,run_underlying h1,MapKept.run_getObj_map g2,hck,MapKept.run_findKey h2 r2,Result.andThen]
theorem Il (h:Store M₀ γ σ w){v:Value}(hv:Rep (aC M₀ γ) γ w .bG v){t e:TypeId}(ht:mapD P t=some e){z:D}(hz:zeroV P e=some z)(s:ByteArray)(ok:Bool):
  Out M₀ γ σ w ((do let v ← Instr.lookup t v (.string s) ok;pure (Next.value v):Sem Next).run P w) (if ok then .aJ [z,.bool false] else z) []:=by
 obtain⟨k,h1,h2⟩:=pq ht
 cases hv
 unfold zeroV at hz
 simp only[Option.map_eq_some_iff,Option.bind_eq_some_iff] at hz
 obtain⟨zv,⟨i,hi,hiz⟩,rfl⟩:=hz
 have Z8:(zeroValue e).run P w= .ok zv w:=by simp[zeroValue,typeInfo,hi,hiz]
 have hck:=fun em=>MapKept.run_checkKey (P:=P) (w:=w) (d:= .string) (k:= .string s) h2 trivial em 9999
 have hf:=MapKept.run_findKey (P:=P) (w:=w) (d:= .string) (k:= .string s) (l:=[]) h2 rfl
 refine Out.same h (v:=if ok then .tuple #[zv,.bool false] else zv) ?_ ?_
 ·rw[Sem.run_bind]
  have:(Instr.lookup t (.map none) (.string s) ok).run P w= .ok (if ok then .tuple #[zv,.bool false] else zv) w:=by
   simp[Instr.lookup,run_underlying h1,hck,hf,Z8,Result.andThen]
  rw[this];rfl
 ·cases ok
  ·exact jy _ _
  ·refine .aJ rfl (fun i d v h1 h2=>?_)
   match i with
   | 0=>simp at h1 h2;subst h1;subst h2;exact jy _ _
   | 1=>simp at h1 h2;subst h1;subst h2;exact .bool _
   |i+2=>simp at h1
theorem Lr (h:Store M₀ γ σ w){b:Nat}{es:List (List UInt8 × D × Nat)}{clock:Nat}(hb:σ b=some (.map es clock)){v:Value}(hv:Rep (aC M₀ γ) γ w (.map b) v){t e:TypeId}(ht:mapD P t=some e)
  (s:ByteArray) {x:D} {xv:Value} (hx:Rep (aC M₀ γ) γ w x xv):
  Out M₀ γ σ w ((do Instr.mapUpdate t v (.string s) xv;pure Next.skip:Sem Next).run P w) .junk [(b,.map (GR es clock s.data.toList x) (Ic es clock s.data.toList))]:=by
 obtain⟨k,h1,h2⟩:=pq ht
 obtain⟨B,en,g1,rfl,g2,g3⟩:=Af h hb hv
 have hck:=fun em=>MapKept.run_checkKey (P:=P) (w:=w) (d:= .string) (k:= .string s) h2 trivial em 9999
 rcases Ho s en.toList es 0 g3 with⟨r1,r2,_⟩ | ⟨j,e',d',r1,r2,r3,r4,r5,r6,_⟩
 ·obtain⟨s1,e1⟩:=Hq h g1 g2 (en.push { key:= .string s,val:=xv,born:=clock }) (es++[(s.data.toList,x,clock)]) (clock+1) (by rw[Array.toList_push];exact g3.push s x xv clock hx)
  refine⟨undef,_,γ,.inr ⟨?_,rfl⟩,by simp only[GR,Ic,r1];exact s1,e1,.junk _⟩
  simp[Instr.mapUpdate,run_underlying h1,MapKept.run_getObj_map g2,hck,MapKept.run_findKey h2 r2,MapKept.run_setObj_map _ g2,Result.andThen]
 ·obtain⟨s1,e1⟩:=Hq h g1 g2 (en.modify j fun e=>{ e with key:= .string s,val:=xv }) (OX es s.data.toList x) clock (by rw[Array.toList_modify];exact r6 x xv hx)
  refine⟨undef,_,γ,.inr ⟨?_,rfl⟩,by simp only[GR,Ic,r1];exact s1,e1,.junk _⟩
  have hj:en[j]?=some e':=by simpa using r3
  have hst:=MapKept.run_keyThatStays (P:=P) (w:=w) (d:= .string) (k:= .string s) trivial
  simp[Instr.mapUpdate,run_underlying h1,MapKept.run_getObj_map g2,hck,MapKept.run_findKey h2 r2,hj,r4,hst,MapKept.run_setObj_map _ g2,Result.andThen]
theorem UZ (h:Store M₀ γ σ w){b:Nat}{es:List (List UInt8 × D × Nat)}{clock:Nat}(hb:σ b=some (.map es clock)){v:Value}(hv:Rep (aC M₀ γ) γ w (.map b) v){t e:TypeId}(ht:mapD P t=some e)
  (s:ByteArray) (ts:Array TypeId) (hts:ts[0]?=some t) (ty:TypeId):
  Out M₀ γ σ w ((do let v ← Builtin.delete_ ts ty #[v,.string s];pure (Next.value v):Sem Next).run P w) (.aJ []) [(b,.map (C_ es s.data.toList) clock)]:=by
 obtain⟨k,h1,h2⟩:=pq ht
 obtain⟨B,en,g1,rfl,g2,g3⟩:=Af h hb hv
 have hck:=fun em=>MapKept.run_checkKey (P:=P) (w:=w) (d:= .string) (k:= .string s) h2 trivial em 9999
 have hr:∀w',Rep (aC M₀ γ) γ w' (.aJ []) (.tuple #[]):=fun w'=> .aJ rfl (by simp)
 rcases Ho s en.toList es 0 g3 with⟨r1,r2,r3⟩ | ⟨j,e',d',r1,r2,r3,r4,r5,r6,r7⟩
 ·obtain⟨s1,e1⟩:=Hq h g1 g2 en es clock g3
  rw[r3]
  refine⟨.tuple #[],_,γ,.inl ?_,s1,e1,hr _⟩
  simp[Builtin.delete_,hts,run_underlying h1,MapKept.run_getObj_map g2,hck,MapKept.run_findKey h2 r2,MapKept.run_setObj_map _ g2,Result.andThen]
 ·obtain⟨s1,e1⟩:=Hq h g1 g2 (en.eraseIdxIfInBounds j) (C_ es s.data.toList) clock (by rw[Array.toList_eraseIdxIfInBounds];exact r7)
  refine⟨.tuple #[],_,γ,.inl ?_,s1,e1,hr _⟩
  simp[Builtin.delete_,hts,run_underlying h1,MapKept.run_getObj_map g2,hck,MapKept.run_findKey h2 r2,MapKept.run_setObj_map _ g2,Result.andThen]
theorem Z9 (h:Store M₀ γ σ w){b:Nat}{es:List (List UInt8 × D × Nat)}{clock:Nat}(hb:σ b=some (.map es clock)){v:Value}(hv:Rep (aC M₀ γ) γ w (.map b) v){t e:TypeId}(ht:mapD P t=some e)(ty:TypeId):
  Out M₀ γ σ w ((do let v ← Builtin.len_ #[t] ty #[v];pure (Next.value v):Sem Next).run P w) (.int .i64 es.length) []:=by
 obtain⟨k,h1,h2⟩:=pq ht
 obtain⟨B,en,g1,rfl,g2,g3⟩:=Af h hb hv
 have hl:en.size=es.length:=by simpa using g3.out.1
 refine Out.same h (v:= .int .i64 en.size) ?_ (by rw[hl];exact .int _ _)
 simp[Builtin.len_,run_underlying h1,MapKept.run_getObj_map g2,goInt]
theorem U0 (h:Store M₀ γ σ w){b i:Nat}{es:List (List UInt8 × D × Nat)}{clock:Nat}(hb:σ b=some (.map es clock))(hi:σ i=none){v:Value}(hv:Rep (aC M₀ γ) γ w (.map b) v){t e:TypeId}(ht:mapD P t=some e):
  Out M₀ γ σ w ((do let v ← Instr.range t v;pure (Next.value v):Sem Next).run P w) (.ref i 0) [(i,.dS b clock [] clock)]:=by
 obtain⟨k,h1,h2⟩:=pq ht
 obtain⟨B,en,g1,rfl,g2,g3⟩:=Af h hb hv
 have hbi:b≠i:=fun q=>by subst q;rw[hb] at hi;cases hi
 have hv:=aQ.fresh h hi (.iter w.heap.size) (w.alloc (.mapIter (some B) clock #[] clock)) rfl rfl rfl (by simp) (bJ w _) (fun B hB=>by simp[G.block] at hB;omega)
 have hs:=h.change i (.dS b clock [] clock) (.iter w.heap.size) _ hv (fun i gi B hi hg hB=>bJ w _ B (h.lt hg hB)) (fun B hB=>by simp[G.block] at hB;omega) (.dS (heap_alloc_new w _) ((bF _ _ hbi).trans g1))
 refine⟨.pointer (some ⟨w.heap.size,0,none⟩),_,_,.inl ?_,hs,hv,.ref (.inr (.inr (upd_same _ _ _)))⟩
 simp[Instr.range,run_underlying h1,MapKept.run_getObj_map g2]
end
end Go.Id
