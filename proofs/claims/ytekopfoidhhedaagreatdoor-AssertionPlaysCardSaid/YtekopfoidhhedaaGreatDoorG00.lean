import Derived.Calls
import Derived.Orders
import Derived.Below
import Derived.Laws.AppendOwn
import Derived.KernelRfl
set_option linter.unusedVariables false
set_option linter.unusedSimpArgs false
set_option linter.unnecessarySimpa false
namespace Go
theorem abf:type_of% @List.length_append:=@List.length_append
theorem abr:type_of% @Option.some.injEq:=@Option.some.injEq
theorem abt:type_of% @List.getElem?_eq_getElem:=@List.getElem?_eq_getElem
theorem abN:type_of% @List.length_cons:=@List.length_cons
theorem abR:type_of% @Option.map_eq_some_iff:=@Option.map_eq_some_iff
theorem abS:type_of% @List.cons_append:=@List.cons_append
theorem abT:type_of% @List.nil_append:=@List.nil_append
theorem acR:type_of% @List.getElem?_eq_some_iff:=@List.getElem?_eq_some_iff
theorem acS:type_of% @List.length_nil:=@List.length_nil
theorem ac8:type_of% @List.mem_of_getElem?:=@List.mem_of_getElem?
theorem ac9:type_of% @Option.bind_eq_some_iff:=@Option.bind_eq_some_iff
theorem ac':type_of% @List.length_map:=@List.length_map
theorem ada:type_of% @Nat.zero_le:=@Nat.zero_le
theorem adb:type_of% @List.getElem_mem:=@List.getElem_mem
theorem ade:type_of% @Nat.zero_add:=@Nat.zero_add
theorem adf:type_of% @Option.bind_some:=@Option.bind_some
theorem adg:type_of% @List.length_take:=@List.length_take
theorem adh:type_of% @Bool.not_eq_true':=@Bool.not_eq_true'
theorem adr:type_of% @Array.getElem?_eq_getElem:=@Array.getElem?_eq_getElem
theorem adw:type_of% @List.getElem?_map:=@List.getElem?_map
theorem ad1:type_of% @List.mem_singleton:=@List.mem_singleton
theorem ael:type_of% @List.mem_cons:=@List.mem_cons
theorem afE:type_of% @Bool.not_eq_false':=@Bool.not_eq_false'
theorem agZ:type_of% @Bool.eq_iff_iff:=@Bool.eq_iff_iff
theorem ag1:type_of% @List.map_cons:=@List.map_cons
theorem ag2:type_of% @List.getElem?_append_left:=@List.getElem?_append_left
theorem ag3:type_of% @List.getElem?_take:=@List.getElem?_take
theorem ag4:type_of% @Nat.le_refl:=@Nat.le_refl
theorem ag6:type_of% @Array.getElem?_eq_some_iff:=@Array.getElem?_eq_some_iff
theorem ag7:type_of% @List.getElem?_append_right:=@List.getElem?_append_right
theorem ag8:type_of% @Bool.false_eq_true:=@Bool.false_eq_true
theorem ag9:type_of% @Nat.le_trans:=@Nat.le_trans
theorem ag_:type_of% @Array.getD_eq_getD_getElem?:=@Array.getD_eq_getD_getElem?
theorem aht:type_of% @List.length_drop:=@List.length_drop
theorem ahz:type_of% @List.getElem?_drop:=@List.getElem?_drop
theorem ahA:type_of% @List.mem_cons_of_mem:=@List.mem_cons_of_mem
theorem ahL:type_of% @List.take_succ_cons:=@List.take_succ_cons
theorem ait:type_of% @Bool.and_eq_true:=@Bool.and_eq_true
theorem aiD:type_of% @Option.map_some:=@Option.map_some
theorem aja:type_of% @List.mem_iff_getElem:=@List.mem_iff_getElem
theorem ajb:type_of% @List.map_congr_left:=@List.map_congr_left
theorem ajr:type_of% @List.take_of_length_le:=@List.take_of_length_le
theorem ajy:type_of% @List.take_length:=@List.take_length
theorem ajE:type_of% @List.take_zero:=@List.take_zero
theorem ajY:type_of% @Array.mem_of_getElem?:=@Array.mem_of_getElem?
theorem aj0:type_of% @Nat.lt_of_lt_of_le:=@Nat.lt_of_lt_of_le
theorem aj2:type_of% @Nat.mul_le_mul_right:=@Nat.mul_le_mul_right
theorem aj9:type_of% @List.map_nil:=@List.map_nil
theorem akg:type_of% @List.not_mem_nil:=@List.not_mem_nil
theorem aki:type_of% @List.take_append_drop:=@List.take_append_drop
theorem akj:type_of% @Option.isSome_iff_exists:=@Option.isSome_iff_exists
theorem akk:type_of% @List.foldl_cons:=@List.foldl_cons
theorem akn:type_of% @Option.map_none:=@Option.map_none
theorem aky:type_of% @List.eq_nil_of_length_eq_zero:=@List.eq_nil_of_length_eq_zero
theorem akz:type_of% @List.append_nil:=@List.append_nil
theorem akA:type_of% @Array.getElem?_toList:=@Array.getElem?_toList
theorem akD:type_of% @Bool.false_and:=@Bool.false_and
theorem akT:type_of% @List.length_pos_iff:=@List.length_pos_iff
theorem akU:type_of% @Nat.add_mul:=@Nat.add_mul
theorem akV:type_of% @List.drop_of_length_le:=@List.drop_of_length_le
theorem ak1:type_of% @List.mem_filter:=@List.mem_filter
theorem alb:type_of% @Option.getD_some:=@Option.getD_some
theorem alf:type_of% @List.all_cons:=@List.all_cons
theorem alv:type_of% @List.drop_drop:=@List.drop_drop
theorem alx:type_of% @Array.length_toList:=@Array.length_toList
theorem alB:type_of% @List.getElem?_cons_zero:=@List.getElem?_cons_zero
theorem al5:type_of% @Bool.true_and:=@Bool.true_and
theorem al6:type_of% @Option.some.inj:=@Option.some.inj
theorem al8:type_of% @List.range'_succ:=@List.range'_succ
theorem al9:type_of% @List.toList_toArray:=@List.toList_toArray
theorem al_:type_of% @List.getElem?_eq_none:=@List.getElem?_eq_none
theorem amb:type_of% @List.flatten_cons:=@List.flatten_cons
theorem amg:type_of% @Int.tmod_eq_emod_of_nonneg:=@Int.tmod_eq_emod_of_nonneg
theorem ami:type_of% @List.all_eq_true:=@List.all_eq_true
theorem amj:type_of% @List.getElem?_toArray:=@List.getElem?_toArray
theorem amk:type_of% @Array.getElem?_modify:=@Array.getElem?_modify
theorem amn:type_of% @List.all_nil:=@List.all_nil
theorem amv:type_of% @Nat.min_eq_left:=@Nat.min_eq_left
theorem amE:type_of% @List.map_id:=@List.map_id
theorem amG:type_of% @List.getElem?_cons_succ:=@List.getElem?_cons_succ
theorem amP:type_of% @List.map_toArray:=@List.map_toArray
theorem amQ:type_of% @Nat.add_zero:=@Nat.add_zero
theorem amX:type_of% @List.drop_eq_nil_of_le:=@List.drop_eq_nil_of_le
theorem anw:type_of% @List.flatMap_cons:=@List.flatMap_cons
theorem anx:type_of% @List.drop_succ_cons:=@List.drop_succ_cons
theorem anz:type_of% @List.getElem?_zip_eq_some:=@List.getElem?_zip_eq_some
theorem anE:type_of% @List.nodup_cons:=@List.nodup_cons
theorem anO:type_of% @List.drop_eq_getElem_cons:=@List.drop_eq_getElem_cons
theorem aoj:type_of% @List.singleton_append:=@List.singleton_append
theorem aos:type_of% @Nat.mul_one:=@Nat.mul_one
theorem aov:type_of% @List.getElem?_of_mem:=@List.getElem?_of_mem
theorem aow:type_of% @List.take_add_one:=@List.take_add_one
theorem aoA:type_of% @UInt8.toNat_inj:=@UInt8.toNat_inj
theorem aoB:type_of% @Array.toList_append:=@Array.toList_append
theorem aoC:type_of% @Bool.not_true:=@Bool.not_true
theorem aoD:type_of% @List.mk_mem_zipIdx_iff_getElem?:=@List.mk_mem_zipIdx_iff_getElem?
theorem aoE:type_of% @Nat.zero_mul:=@Nat.zero_mul
theorem aoF:type_of% @List.mem_of_mem_drop:=@List.mem_of_mem_drop
theorem aoJ:type_of% @Array.eq_empty_of_size_eq_zero:=@Array.eq_empty_of_size_eq_zero
theorem aoN:type_of% @Bool.true_or:=@Bool.true_or
theorem aoO:type_of% @List.size_toArray:=@List.size_toArray
theorem aoQ:type_of% @List.getElem_take:=@List.getElem_take
theorem aoT:type_of% @Nat.add_assoc:=@Nat.add_assoc
theorem aoX:type_of% @List.drop_append_of_le_length:=@List.drop_append_of_le_length
theorem aoY:type_of% @List.drop_zero:=@List.drop_zero
theorem ao2:type_of% @Array.getElem?_setIfInBounds:=@Array.getElem?_setIfInBounds
theorem apa:type_of% @Bool.not_false:=@Bool.not_false
theorem apb:type_of% @List.getElem_inj:=@List.getElem_inj
theorem apd:type_of% @Option.bind_none:=@Option.bind_none
theorem aph:type_of% @List.dropWhile_sublist:=@List.dropWhile_sublist
theorem apl:type_of% @Bool.or_true:=@Bool.or_true
theorem apm:type_of% @List.cons.injEq:=@List.cons.injEq
theorem apn:type_of% @List.any_cons:=@List.any_cons
theorem aps:type_of% @Nat.lt_trichotomy:=@Nat.lt_trichotomy
theorem apw:type_of% @Array.ext':=@Array.ext'
theorem apD:type_of% @List.range_eq_range':=@List.range_eq_range'
theorem apF:type_of% @List.foldl_nil:=@List.foldl_nil
theorem apG:type_of% @Nat.lt_or_ge:=@Nat.lt_or_ge
theorem apK:type_of% @Bool.not_eq_true:=@Bool.not_eq_true
theorem apL:type_of% @List.flatten_append:=@List.flatten_append
theorem apM:type_of% @Prod.mk.injEq:=@Prod.mk.injEq
end Go
namespace Go.Id
open Go
inductive D where
 |junk
 |bool (b:Bool)
 |int (k:IntKind) (n:Int)
 |str (s:List UInt8)
 |slice (sz:Nat) (nil:Bool) (es:List (List D)) (aI:Option Nat)
 |arr (b sz n:Nat)
 |view (b off sz n:Nat)
 |ref (b off:Nat)
 |dV (cs:List D)
 |aV
 |fn (f:Fn) (first cap:List D)
 |dK
 |agg (cs:List D)
 |aQ (vs:List D)
 |iface (t:TypeId) (v:D)
 |aK
 |val (v:Value)
 |bI
 |map (b:Nat)
 deriving Inhabited
inductive G where
 |box (B:Nat)
 |arr (B cap z:Nat)
 |aI (sz:Nat) (e:TypeId) (v:Value) (n:Nat)
 |iter (B:Nat)
def G.block:G→Option Nat
 | .box B | .arr B _ _ | .iter B=>some B
 | .aI _ _ v _=>v.ownBlock
def G.wr:G→Nat→Nat→Prop
 | .box B,b,_ | .arr B _ _,b,_ | .iter B,b,_=>b=B
 | .aI sz _ v n,b,off=>v.ownBlock=some b∧n * sz≤off
def jk (γ:Nat→Option G)(aI:Option Nat)(n:Nat)(v:Value):Prop:=
 ∀t,aI=some t→∃sz e v' n',γ t=some (.aI sz e v' n')∧n≤n'∧(n=n'→v=v')
inductive Rep (M:Nat→Nat→Prop) (γ:Nat→Option G) (w:World):D→Value→Prop
 |junk (v:Value):Rep M γ w .junk v
 |bool (b:Bool):Rep M γ w (.bool b) (.bool b)
 |int (k:IntKind) (n:Int):Rep M γ w (.int k n) (.int k n)
 |str (s:ByteArray):Rep M γ w (.str s.data.toList) (.string s)
 |nilslice {sz:Nat} {aI:Option Nat} (h:jk γ aI 0 (.slice none 0 0)):Rep M γ w (.slice sz true [] aI) (.slice none 0 0)
 | slice {sz:Nat} {es:List (List D)} {aI:Option Nat} {a:Addr} {cap:Nat} (vs:List Value)
   (hsz:∀e∈es,e.length=sz) (hvs:vs.length=es.length * sz) (hspot:es≠[]→a.spot=none)
   (hc:∀j v,vs[j]?=some v→w.cell? ⟨a.block,a.off+j,none⟩=some v∧¬M a.block (a.off+j)∧v.oneCell'=true)
   (hr:∀i j e d v,es[i]?=some e→e[j]?=some d→vs[i * sz+j]?=some v→Rep M γ w d v)
   (hcap:es.length≤cap)
   (ht:jk γ aI es.length (.slice (some a) es.length cap)):
   Rep M γ w (.slice sz false es aI) (.slice (some a) es.length cap)
 |arr {b B sz n cap:Nat} (h:γ b=some (.arr B cap sz)) (hn:n≤cap):Rep M γ w (.arr b sz n) (.slice (some ⟨B,0,none⟩) n cap)
 |view {b B off sz n cap c:Nat} {a:Addr} (h:γ b=some (.arr B cap sz)) (ha:n=0∨a=⟨B,off,none⟩) (hn:off+n * sz≤cap * sz):Rep M γ w (.view b off sz n) (.slice (some a) n c)
 |ref {b B off:Nat} (h:γ b=some (.box B)∨(∃cap z,γ b=some (.arr B cap z))∨γ b=some (.iter B)):Rep M γ w (.ref b off) (.pointer (some ⟨B,off,none⟩))
 | dV {cs:List D} {a:Addr} (vs:List Value) (hvs:vs.length=cs.length) (hspot:a.spot=none)
   (hc:∀j v,vs[j]?=some v→w.cell? ⟨a.block,a.off+j,none⟩=some v∧¬M a.block (a.off+j)∧v.oneCell'=true)
   (hr:∀(j:Nat) d v,cs[j]?=some d→vs[j]?=some v→Rep M γ w d v):Rep M γ w (.dV cs) (.pointer (some a))
 |aV:Rep M γ w .aV (.pointer none)
 | fn {f:Fn} {first cap:List D} {first' cap':Array Value} (hf:first'.size=first.length) (hk:cap'.size=cap.length)
   (h1:∀(i:Nat) d v,first[i]?=some d→first'[i]?=some v→Rep M γ w d v)
   (h2:∀(i:Nat) d v,cap[i]?=some d→cap'[i]?=some v→Rep M γ w d v):Rep M γ w (.fn f first cap) (.func f first' cap')
 |dK:Rep M γ w .dK .nilFunc
 | agg {cs:List D} {vs:Array Value} (hl:vs.size=cs.length) (h1:∀(i:Nat) v,vs[i]?=some v→v.oneCell'=true)
   (hr:∀(i:Nat) d v,cs[i]?=some d→vs[i]?=some v→Rep M γ w d v):Rep M γ w (.agg cs) (.agg vs)
 | aQ {cs:List D} {vs:Array Value} (hl:vs.size=cs.length)
   (hr:∀(i:Nat) d v,cs[i]?=some d→vs[i]?=some v→Rep M γ w d v):Rep M γ w (.aQ cs) (.tuple vs)
 |iface {t:TypeId} {d:D} {v:Value} (h:Rep M γ w d v):Rep M γ w (.iface t d) (.iface t v)
 |aK:Rep M γ w .aK .nilIface
 |val (v:Value):Rep M γ w (.val v) v
 |bI:Rep M γ w .bI (.map none)
 |map {b B:Nat} (h:γ b=some (.box B)):Rep M γ w (.map b) (.map (some B))
def G.le:G→G→Prop
 | .box B,g=>g= .box B
 | .arr B cap z,g=>g= .arr B cap z
 | .iter B,g=>g= .iter B
 | .aI sz e v n,g=>∃v' n',g= .aI sz e v' n'∧n≤n'∧(n=n'→v=v')
theorem G.le_refl (g:G):g.le g:=by
 cases g with
 |aI sz e v n=>exact⟨v,n,rfl,ag4 _,fun _=>rfl⟩
 | _=>simp[G.le]
theorem G.le_trans {a b c:G}(h:a.le b)(h':b.le c):a.le c:=by
 cases a with
 |box B=>simp only[G.le] at h;subst h;exact h'
 |arr B cap z=>simp only[G.le] at h;subst h;exact h'
 |iter B=>simp only[G.le] at h;subst h;exact h'
 |aI sz e v n=>
  obtain⟨v',n',rfl,h1,h2⟩:=h
  obtain⟨v'',n'',rfl,h3,h4⟩:=h'
  refine⟨v'',n'',rfl,ag9 h1 h3,fun e=>?_⟩
  subst e
  obtain rfl:n=n':=Nat.le_antisymm h1 h3
  rw[h2 rfl,h4 rfl]
structure aW (M:Nat→Nat→Prop) (γ:Nat→Option G) (w:World) (M':Nat→Nat→Prop) (γ':Nat→Option G) (w':World):Prop where
 os:w'.os=w.os
 tape:w'.tape=w.tape
 output:w'.output=w.output
 size:w.heap.size≤w'.heap.size
 cell:∀B off v,¬M B off→w.cell? ⟨B,off,none⟩=some v→w'.cell? ⟨B,off,none⟩=some v
 wr:∀B off,M' B off→B<w.heap.size→M B off
 names:∀b g,γ b=some g→∃g',γ' b=some g'∧g.le g'
 block:∀B,B<w.heap.size→(∀b g,γ b=some g→g.block≠some B)→w'.heap[B]?=w.heap[B]?
 old:∀b g B,γ' b=some g→g.block=some B→B<w.heap.size→∃b' g',γ b'=some g'∧g'.block=some B
theorem aW.refl (M:Nat→Nat→Prop)(γ:Nat→Option G)(w:World):aW M γ w M γ w:=
 ⟨rfl,rfl,rfl,ag4 _,fun _ _ _ _ h=>h,fun _ _ h _=>h,fun _ g h=>⟨g,h,G.le_refl g⟩,fun _ _ _=>rfl,fun b g _ h h' _=>⟨b,g,h,h'⟩⟩
theorem cell_lt {w:World}{B off:Nat}{v:Value}(h:w.cell? ⟨B,off,none⟩=some v):B<w.heap.size:=World.block_lt_of_cell? w _ h
theorem aW.trans {M₁ M₂ M₃:Nat→Nat→Prop}{γ₁ γ₂ γ₃:Nat→Option G}{w₁ w₂ w₃:World}(h:aW M₁ γ₁ w₁ M₂ γ₂ w₂)(k:aW M₂ γ₂ w₂ M₃ γ₃ w₃):
  aW M₁ γ₁ w₁ M₃ γ₃ w₃ where
 os:=k.os.trans h.os
 tape:=k.tape.trans h.tape
 output:=k.output.trans h.output
 size:=ag9 h.size k.size
 cell B off v hm hv:=k.cell B off v (fun h2=>hm (h.wr B off h2 (cell_lt hv))) (h.cell B off v hm hv)
 wr B off hm hb:=h.wr B off (k.wr B off hm (aj0 hb h.size)) hb
 names b g hg:=by
  obtain⟨g',h1,h2⟩:=h.names b g hg
  obtain⟨g'',h3,h4⟩:=k.names b g' h1
  exact⟨g'',h3,G.le_trans h2 h4⟩
 block B hB hm:=(k.block B (aj0 hB h.size) (fun b g hg hb=>by
  obtain⟨b',g',h1,h2⟩:=h.old b g B hg hb hB
  exact hm b' g' h1 h2)).trans (h.block B hB hm)
 old b g B hg hb hB:=by
  obtain⟨b',g',h1,h2⟩:=k.old b g B hg hb (aj0 hB h.size)
  exact h.old b' g' B h1 h2 hB
theorem jk.dA {γ γ':Nat→Option G}(h:∀b g,γ b=some g→∃g',γ' b=some g'∧g.le g'){aI:Option Nat}{n:Nat}{v:Value}(ht:jk γ aI n v):jk γ' aI n v:=by
 intro t e
 obtain⟨sz,el,v',n',h1,h2,h3⟩:=ht t e
 obtain⟨g',h4,v'',n'',rfl,h5,h6⟩:=h t _ h1
 refine⟨sz,el,v'',n'',h4,ag9 h2 h5,fun e=>?_⟩
 subst e
 obtain rfl:n=n':=Nat.le_antisymm h2 h5
 rw[h3 rfl,h6 rfl]
theorem jk.none (γ:Nat→Option G)(n:Nat)(v:Value):jk γ none n v:=fun _ h=>by cases h
structure Evo (M:Nat→Nat→Prop) (γ:Nat→Option G) (w:World) (M':Nat→Nat→Prop) (γ':Nat→Option G) (w':World):Prop where
 cell:∀B off v,¬M B off→w.cell? ⟨B,off,none⟩=some v→w'.cell? ⟨B,off,none⟩=some v
 wr:∀B off,M' B off→B<w.heap.size→M B off
 names:∀b g,γ b=some g→∃g',γ' b=some g'∧g.le g'
theorem aW.JU {M M':Nat→Nat→Prop}{γ γ':Nat→Option G}{w w':World}(h:aW M γ w M' γ' w'):Evo M γ w M' γ' w':=⟨h.cell,h.wr,h.names⟩
theorem Rep.JU {M M':Nat→Nat→Prop}{γ γ':Nat→Option G}{w w':World}(h:Evo M γ w M' γ' w'){d:D}{v:Value}(hr:Rep M γ w d v):Rep M' γ' w' d v:=by
 have keep:∀B off v,w.cell? ⟨B,off,none⟩=some v∧¬M B off∧v.oneCell'=true→w'.cell? ⟨B,off,none⟩=some v∧¬M' B off∧v.oneCell'=true:=
  fun B off v ⟨h1,h2,h3⟩=>⟨h.cell B off v h2 h1,fun h4=>h2 (h.wr B off h4 (cell_lt h1)),h3⟩
 induction hr with
 |junk v=>exact .junk v
 |bool b=>exact .bool b
 |int k n=>exact .int k n
 |str s=>exact .str s
 |nilslice ht=>exact .nilslice (ht.dA h.names)
 |slice vs hsz hvs hspot hc _ hcap ht ih=>exact .slice vs hsz hvs hspot (fun j v hv=>keep _ _ _ (hc j v hv)) ih hcap (ht.dA h.names)
 |arr hb hn=>
  obtain⟨g',h1,h2⟩:=h.names _ _ hb
  simp only[G.le] at h2;subst h2
  exact .arr h1 hn
 |view hb ha hn=>
  obtain⟨g',h1,h2⟩:=h.names _ _ hb
  simp only[G.le] at h2;subst h2
  exact .view h1 ha hn
 |ref hb=>
  rcases hb with hb | ⟨cap,z,hb⟩|hb
  ·obtain⟨g',h1,h2⟩:=h.names _ _ hb
   simp only[G.le] at h2;subst h2
   exact .ref (.inl h1)
  ·obtain⟨g',h1,h2⟩:=h.names _ _ hb
   simp only[G.le] at h2;subst h2
   exact .ref (.inr (.inl ⟨_,_,h1⟩))
  ·obtain⟨g',h1,h2⟩:=h.names _ _ hb
   simp only[G.le] at h2;subst h2
   exact .ref (.inr (.inr h1))
 |dV vs hvs hspot hc _ ih=>exact .dV vs hvs hspot (fun j v hv=>keep _ _ _ (hc j v hv)) ih
 |aV=>exact .aV
 |fn hf hk _ _ ih1 ih2=>exact .fn hf hk ih1 ih2
 |dK=>exact .dK
 |agg hl h1 _ ih=>exact .agg hl h1 ih
 |aQ hl _ ih=>exact .aQ hl ih
 |iface _ ih=>exact .iface ih
 |aK=>exact .aK
 |val v=>exact .val v
 |bI=>exact .bI
 |map hb=>
  obtain⟨g',h1,h2⟩:=h.names _ _ hb
  simp only[G.le] at h2;subst h2
  exact .map h1
theorem Rep.dA {M M':Nat→Nat→Prop}{γ γ':Nat→Option G}{w w':World}(h:aW M γ w M' γ' w'){d:D}{v:Value}(hr:Rep M γ w d v):Rep M' γ' w' d v:=hr.JU h.JU
end Go.Id
namespace Go.Id
open Go
inductive bf where
 |box (t:TypeId) (cs:List D)
 |arr (e:TypeId) (cs:List D)
 |aI (e:TypeId) (sz n:Nat)
 |dead
 |iter (s:List UInt8) (pos:Nat)
 |map (es:List (List UInt8 × D × Nat)) (clock:Nat)
 |dZ (m since:Nat) (seen:List Nat) (last:Nat)
 deriving Inhabited
def lk {α:Type}:List (Nat × α)→Nat→Option α
 | [],_=>none
 |(k,v)::l,i=>if i=k then some v else lk l i
def dl {α:Type}:List (Nat × α)→Nat→List (Nat × α)
 | [],_=>[]
 |(k,v)::l,i=>if i=k then dl l i else (k,v)::dl l i
def ins:Nat→List Nat→Bool
 | _,[]=>false
 |k,a::l=>if k=a then true else ins k l
def keep {α:Type}(ks:List Nat):List (Nat × α)→List (Nat × α)
 | []=>[]
 |(k,v)::l=>if ins k ks=true then (k,v)::keep ks l else keep ks l
def fresh {α:Type}:List (Nat × α)→Nat
 | []=>0
 |(k,_)::l=>max (k+1) (fresh l)
structure St where
 F:List (Nat × D)
 σ:List (Nat × bf)
def St.get (st:St)(t:Nat):D:=(lk st.F t).getD .junk
def St.put (st:St)(dst:Option Tmp)(d:D):St:=
 match dst with
 |some t=>{ st with F:=(t,d)::dl st.F t }
 |none=>st
def zI:Value→D
 | .bool b=> .bool b
 | .int k n=> .int k n
 | .string s=> .str s.data.toList
 | .pointer none=> .aV
 | .slice none 0 0=> .slice 0 true [] none
 | .map none=> .bI
 | .nilFunc=> .dK
 | .nilIface=> .aK
 | _=> .junk
def jZ:Value→D
 | .agg cs=>if cs.all (·.oneCell') then .agg (cs.toList.map zI) else .junk
 | .tuple _=> .junk
 |v=>zI v
def bT (F:Nat→D):Operand→D
 | .tmp t=>F t
 | .const v=>jZ v
 | .global _=> .junk
 | .func f=> .fn (.func f) [] []
def cells?:D→Option (List D)
 | .junk | .aQ _ | .val _=>none
 | .agg cs=>some cs
 |d=>some [d]
section
variable (P:Program)
def cu (t:TypeId):Option (TypeId × Nat × Nat):=
 match P.underlying t with
 |some (.slice e)=>(P.info? e).map fun i=>(e,i.size,i.bytes)
 | _=>none
def OJ (t:TypeId):Option (Nat × Nat):=
 match P.underlying t with
 |some (.array n e)=>(P.info? e).map fun i=>(n,i.size)
 | _=>none
def adi (t:TypeId):Option Nat:=
 match P.underlying t with
 |some (.array n e)=>(P.info? e).bind fun i=>match P.underlying e with
  |some (.struct _)|some (.array _ _)=>none
  |some _=>if i.size=1 then some n else none
  |none=>none
 | _=>none
def iC (t:TypeId):Option (List D):=
 match (P.info? t).map (·.zero) with
 |some (some v)=>cells? (jZ v)
 | _=>none
def uP (t:TypeId):Option Nat:=(P.info? t).map (·.size)
def j_ (t:TypeId):Option Bool:=
 match P.underlying t with
 |some (.struct _)|some (.array _ _)=>some true
 |some _=>some false
 |none=>none
def eu (s:TypeId)(f:Nat):Option (Nat × Nat):=
 match P.underlying s with
 |some (.struct fs)=>(fs[f]?).bind fun fl=>(P.info? fl.type).map fun i=>(fl.offset,i.size)
 | _=>none
def mapD (t:TypeId):Option TypeId:=
 match P.underlying t with
 |some (.map k e)=>if P.underlying k matches some .string then some e else none
 | _=>none
def kS (t:TypeId):Option IntKind:=
 match P.underlying t with
 |some (.int k)=>some k
 | _=>none
def GR (t:TypeId):Bool:=
 match P.underlying t with
 |some (.interface _)=>false
 |some _=>true
 |none=>false
def eY (t:TypeId):Bool:=
 match P.underlying t with
 |some (.struct fs)=>fs.all fun f=>(P.info? f.type).isSome
 | _=>false
def isStr (t:TypeId):Bool:=P.underlying t matches some .string
end
inductive CK where
 |b|i|s
def UR (P:Program)(t:TypeId):Option CK:=
 match P.underlying t with
 |some .bool=>some .b
 |some (.int _)=>some .i
 |some .string=>some .s
 | _=>none
def adk (P:Program):Nat→List Field→Option (List CK)
 | _,[]=>some []
 |i,f::fs=>if f.offset=i∧f.name≠ "_" then (UR P f.type).bind fun k=>(adk P (i+1) fs).map (k::·) else none
def PK (P:Program):Nat→List Field→Option (List CK)
 | _,[]=>some []
 | i,f::fs=>if f.offset=i∧f.name≠ "_" then
   match UR P f.type with
   |some k=>(PK P (i+1) fs).map (k::·)
   |none=>match P.underlying f.type with
    |some (.struct gs)=>if P.stoodInHeld f.type=true then none else (adk P 0 gs.toList).bind fun ks=>if uP P f.type=some ks.length then (PK P (i+ks.length) fs).map (ks++·) else none
    | _=>none
  else none
def EU (P:Program)(t:TypeId):Option (List CK):=
 match P.underlying t with
 |some (.struct fs)=>if P.stoodInHeld t=true∨P.eqGuardType P.depth t=true then none else PK P 0 fs.toList
 | _=>none
structure Eff where
 side:Prop
 val:D
 BH:List Nat
 ws:List (Nat × bf)
def aH (d:D):Eff:=⟨True,d,[],[]⟩
def uQ (agg:Bool)(sz:Nat)(cs:List D):Option D:=
 if agg then (if sz≤cs.length then some (.agg (cs.take sz)) else none) else cs.head?
def Kq:D→Option Nat
 | .int _ n=>if 0≤n then some n.toNat else none
 | _=>none
def kY (df:Nat):Option D→Option Nat
 |none=>some df
 |some d=>Kq d
def jw (s:List UInt8)(pos:Nat):Nat × Nat:=Utf8.decode ⟨s.toArray⟩ pos
def mG (sz:Nat)(x:D)(lo hi:Option D):Option D:=
 match x with
 | .str s=>
  (kY 0 lo).bind fun l=>
  (kY s.length hi).bind fun h=>
  if l≤h∧h≤s.length then some (.str ((s.take h).drop l)) else none
 | .slice z nil es aI=>
  (kY 0 lo).bind fun l=>
  (kY es.length hi).bind fun h=>
  if l≤h∧h≤es.length∧(nil=true∨z=sz) then some (.slice z nil ((es.take h).drop l) (if l=0∧h=es.length then aI else none)) else none
 | .arr b z m=>
  (kY 0 lo).bind fun l=>
  (kY m hi).bind fun h=>
  if l≤h∧h≤m∧z=sz then some (if l=0 then .arr b z h else .view b (l * z) z (h - l)) else none
 | _=>none
def intD (op:BinOp)(k:IntKind)(a b:Int):Option D:=
 match op with
 | .add=>some (.int k (k.wrap (a+b)))
 | .sub=>some (.int k (k.wrap (a - b)))
 | .mul=>some (.int k (k.wrap (a * b)))
 | .quo=>if b=0 then none else some (.int k (k.wrap (a.tdiv b)))
 | .rem=>if b=0 then none else some (.int k (a.tmod b))
 | .and=>some (.int k (k.wrap (BitVec.ofInt k.bits a &&& BitVec.ofInt k.bits b).toNat))
 | .or=>some (.int k (k.wrap (BitVec.ofInt k.bits a ||| BitVec.ofInt k.bits b).toNat))
 | .xor=>some (.int k (k.wrap (BitVec.ofInt k.bits a ^^^ BitVec.ofInt k.bits b).toNat))
 | .andNot=>some (.int k (k.wrap (BitVec.ofInt k.bits a &&& ~~~BitVec.ofInt k.bits b).toNat))
 | .eql=>some (.bool (a == b))
 | .neq=>some (.bool (a != b))
 | .lss=>some (.bool (decide (a<b)))
 | .leq=>some (.bool (decide (a≤b)))
 | .gtr=>some (.bool (decide (a>b)))
 | .geq=>some (.bool (decide (a≥b)))
 | _=>none
def strD (op:BinOp)(a b:List UInt8):Option Eff:=
 match op with
 | .add=>some ⟨a.length+b.length≤9223372036854775807,.str (a++b),[],[]⟩
 | .eql=>some (aH (.bool (a == b)))
 | .neq=>some (aH (.bool (!(a == b))))
 | .lss=>some (aH (.bool (Op.bytesLess a b)))
 | .leq=>some (aH (.bool (Op.bytesLess a b || a == b)))
 | .gtr=>some (aH (.bool (!(Op.bytesLess a b || a == b))))
 | .geq=>some (aH (.bool (!(Op.bytesLess a b))))
 | _=>none
def cZ:List CK→List D→List D→Option Bool
 | [],[],[]=>some true
 | .b::ks,.bool a::x,.bool b::y=>(cZ ks x y).map fun r=>(a == b) && r
 | .i::ks,.int k a::x,.int k' b::y=>if k=k' then (cZ ks x y).map fun r=>(a == b) && r else none
 | .s::ks,.str a::x,.str b::y=>(cZ ks x y).map fun r=>(a == b) && r
 | _,_,_=>none
def sV (P:Program)(t:TypeId):Nat:=
 match P.underlying t with
 |some (.slice _)=>1
 |some (.pointer _)=>2
 |some (.func _ _ _)=>3
 |some (.interface _)=>4
 |some .bool=>5
 |some (.map _ _)=>6
 | _=>0
def eqNil (k:Nat)(c:Bool):D→D→Option Bool
 | .slice _ n _ _,.slice _ m _ _=>if k=1∧(n=true∨m=true) then some (n && m) else none
 | .aV,.aV=>if k=2 then some true else none
 | .aV,.ref ..=>if k=2 then some false else none
 | .aV,.dV _=>if k=2 then some false else none
 | .ref ..,.aV=>if k=2 then some false else none
 | .dV _,.aV=>if k=2 then some false else none
 | .dK,.dK=>if k=3 then some true else none
 | .dK,.fn ..=>if k=3 then some false else none
 | .fn ..,.dK=>if k=3 then some false else none
 | .aK,.aK=>if k=4∧c=true then some true else none
 | .aK,.iface ..=>if k=4 then some false else none
 | .iface ..,.aK=>if k=4 then some false else none
 | .bool a,.bool b=>if k=5 then some (a == b) else none
 | .bI,.bI=>if k=6 then some true else none
 | .bI,.map _=>if k=6 then some false else none
 | .map _,.bI=>if k=6 then some false else none
 | _,_=>none
def jy:Operand→Bool
 | .const _=>true
 | _=>false
def isEq:BinOp→Option Bool
 | .eql=>some true
 | .neq=>some false
 | _=>none
def eG (P:Program)(op:BinOp)(xt:TypeId)(c:Bool)(x y:D):Option Eff:=
 match op,x,y with
 | .shl,.int k a,.int _ b=>if 0≤b then some (aH (.int k (k.wrap (a * 2 ^ (min b.toNat k.bits))))) else none
 | .shr,.int k a,.int _ b=>if 0≤b then some (aH (.int k (a.fdiv (2 ^ (min b.toNat k.bits))))) else none
 |op,.int k a,.int k' b=>if k=k' then (intD op k a b).map aH else none
 |op,.str a,.str b=>strD op a b
 |op,.agg xs,.agg ys=>(EU P xt).bind fun ks=>(isEq op).bind fun e=>(cZ ks xs ys).map fun r=>aH (.bool (if e then r else !r))
 |op,x,y=>(isEq op).bind fun e=>(eqNil (sV P xt) c x y).map fun r=>aH (.bool (if e then r else !r))
def GU (op:UnOp)(x:D):Option D:=
 match op,x with
 | .neg,.int k n=>some (.int k (k.wrap (0 - n)))
 | .xor,.int k n=>some (.int k (k.wrap (BitVec.ofInt k.bits (if k.signed then -1 else k.max) ^^^ BitVec.ofInt k.bits n).toNat))
 | .not,.bool b=>some (.bool !b)
 | _,_=>none
def byteOf?:List D→Option UInt8
 | [.int .u8 n]=>some (UInt8.ofNat n.toNat)
 | _=>none
def bytesOf?:List (List D)→Option (List UInt8)
 | []=>some []
 |e::es=>(byteOf? e).bind fun b=>(bytesOf? es).map (b::·)
def Kr (P:Program)(src dst:TypeId)(x:D):Option D:=
 match x with
 | .int _ n=>if (kS P src).isSome=true then (kS P dst).map fun k=> .int k (k.wrap n) else none
 | .str s=>if isStr P dst∧isStr P src then some (.str s) else none
 | .slice 1 _ es _=>if isStr P dst∧(cu P src).bind (fun e=>kS P e.1)=some .u8 then (bytesOf? es).map .str else none
 | _=>none
def fK (s:List UInt8):List (List D):=s.map fun b=>[.int .u8 b.toNat]
def gI (P:Program)(t:TypeId):Bool:=(cu P t).isSome
def lenD (P:Program)(t:TypeId):D→Option D
 | .str s=>if isStr P t=true then some (.int .i64 s.length) else none
 | .slice _ _ es _=>if gI P t=true then some (.int .i64 es.length) else none
 | .arr _ _ n=>if gI P t=true then some (.int .i64 n) else none
 | _=>none
def iK (P:Program)(e:TypeId):Bool:=
 match P.info? e with
 |some i=>match i.zero with
  |some z=>z.cells.size == i.size
  |none=>false
 |none=>false
def EW (P:Program)(σ:Nat→Option bf)(id:Nat)(ts:Array TypeId)(x y:D):Option Eff:=
 match (ts[0]?).bind (cu P),x,y with
 |some (e,sz,by'),.slice z0 nil es aI,.slice sz' _ es' _=>
  if sz=0∨iK P e=false∨ts≠#[ts.getD 0 0,ts.getD 0 0]∨(¬es=[]∧z0≠sz)∨(¬es'=[]∧sz'≠sz) then none else
  match aI with
  |some t=>
   match σ t with
   |some (.aI e' z n)=>
    if e'=e∧z=sz∧n=es.length then
     some ⟨(es.length+es'.length) * by'≤140737488355328∧es.length+es'.length≤9223372036854775807,.slice sz (nil && es'.isEmpty) (es++es') (some t),[t],[(t,.aI e sz (es.length+es'.length))]⟩
    else none
   | _=>none
  | none=>if nil then
    (if es'=[] then some (aH (.slice sz true [] none)) else
     some ⟨es'.length * by'≤140737488355328∧es'.length≤9223372036854775807,.slice sz false es' (some id),[],[(id,.aI e sz es'.length)]⟩)
   else none
 | _,_,_=>none
def byteElem (P:Program)(e:TypeId):Bool:=
 match P.info? e with
 |some i=>(match i.zero with
  |some (.int .u8 0)=>i.size == 1
  | _=>false)
 |none=>false
def EX (P:Program)(σ:Nat→Option bf)(id:Nat)(ts:Array TypeId)(x:D)(s:List UInt8):Option Eff:=
 match (ts[0]?).bind (cu P),x with
 |some (e,sz,by'),.slice z0 nil es aI=>
  if byteElem P e=false∨sz≠1∨isStr P (ts.getD 1 0)=false∨ts≠#[ts.getD 0 0,ts.getD 1 0]∨(¬es=[]∧z0≠1) then none else
  if s=[] then some (aH (.slice z0 nil es aI)) else
  match aI with
  |some t=>
   match σ t with
   |some (.aI e' z n)=>
    if e'=e∧z=1∧n=es.length then
     some ⟨(es.length+s.length) * by'≤140737488355328∧es.length+s.length≤9223372036854775807,.slice 1 false (es++fK s) (some t),[t],[(t,.aI e 1 (es.length+s.length))]⟩
    else none
   | _=>none
  |none=>if nil then some ⟨s.length * by'≤140737488355328∧s.length≤9223372036854775807,.slice 1 false (fK s) (some id),[],[(id,.aI e 1 s.length)]⟩ else none
 | _,_=>none
def Sm (P:Program)(σ:Nat→Option bf)(id:Nat)(ts:Array TypeId)(x y:D):Option Eff:=
 match y with
 | .str s=>EX P σ id ts x s
 |y=>EW P σ id ts x y
def EY (σ:Nat→Option bf)(sz:Nat):D→Option Eff
 | .view b off z n=>if z=sz then (match σ b with
  |some (.arr e cs)=>some ⟨True,.junk,[b],[(b,.arr e (cs.take off))]⟩
  | _=>none) else none
 | .arr b z n=>if z=sz then (match σ b with
  |some (.arr e cs)=>some ⟨True,.junk,[b],[(b,.arr e [])]⟩
  | _=>none) else none
 | _=>none
def minD:D→D→Option D
 | .int k x,.int _ y=>some (.int k (if y<x then y else x))
 | _,_=>none
def maxD:D→D→Option D
 | .int k x,.int _ y=>some (.int k (if y>x then y else x))
 | _,_=>none
def jQ (ρ:Operand→D)(sz:Nat):Nat→List (Nat × Operand)→Option (List (List D))
 | _,[]=>some []
 |i,(j,x)::ps=>if i=j then (cells? (ρ x)).bind fun cs=>if cs.length=sz then (jQ ρ sz (i+1) ps).map (cs::·) else none else none
def rG (P:Program)(t:TypeId)(ρ:Operand→D):List (Nat × Operand)→List D→Option (List D)
 | [],cs=>some cs
 | (i,x)::ps,cs=>(eu P t i).bind fun (off,sz)=>(cells? (ρ x)).bind fun vs=>
   if vs.length=sz∧off+sz≤cs.length then rG P t ρ ps (cs.take off++vs++cs.drop (off+sz)) else none
def jL:List (List UInt8 × D × Nat)→List UInt8→Option D
 | [],_=>none
 |(k,d,_)::es,s=>if s=k then some d else jL es s
def Sr:List (List UInt8 × D × Nat)→List UInt8→D→List (List UInt8 × D × Nat)
 | [],_,_=>[]
 |(k,d,n)::es,s,x=>if s=k then (k,x,n)::es else (k,d,n)::Sr es s x
def Jy (es:List (List UInt8 × D × Nat))(clock:Nat)(s:List UInt8)(x:D):List (List UInt8 × D × Nat):=
 match jL es s with
 |some _=>Sr es s x
 |none=>es++[(s,x,clock)]
def Kt (es:List (List UInt8 × D × Nat))(clock:Nat)(s:List UInt8):Nat:=
 match jL es s with
 |some _=>clock
 |none=>clock+1
def EZ:List (List UInt8 × D × Nat)→List UInt8→List (List UInt8 × D × Nat)
 | [],_=>[]
 |(k,d,n)::es,s=>if s=k then es else (k,d,n)::EZ es s
def zeroV (P:Program)(t:TypeId):Option D:=((P.info? t).bind (·.zero)).map jZ
def dY (P:Program)(ρ:Operand→D)(σ:Nat→Option bf)(id:Nat)(o:Op):Option Eff:=
 match o with
 | .move x | .assign x=>some (aH (ρ x))
 | .pick c a b=>match ρ c with
  | .bool true=>some (aH (ρ a))
  | .bool false=>some (aH (ρ b))
  | _=>none
 | .alloc e=>(iC P e).map fun cs=>⟨True,.ref id 0,[],[(id,.box e cs)]⟩
 | .box e x=>(cells? (ρ x)).map fun cs=>⟨True,.ref id 0,[],[(id,.box e cs)]⟩
 | .build t parts=>if eY P t=true then (iC P t).bind fun z=>(rG P t ρ parts.toList z).map fun cs=>aH (.agg cs) else none
 | .buildSlice t len parts=>(cu P t).bind fun (e,sz,_)=>if len * sz≤16777216∧parts.size=len∧sz≠0∧iK P e=true then (jQ ρ sz 0 parts.toList).map fun es=>aH (.slice sz false es none) else none
 | .load t a=>(j_ P t).bind fun g=>(uP P t).bind fun sz=>match ρ a with
  | .ref b off=>match σ b with
   |some (.box _ cs)|some (.arr _ cs)=>(uQ g sz (cs.drop off)).map fun d=>⟨True,d,[b],[]⟩
   | _=>none
  | .dV cs=>(uQ g sz cs).map aH
  | _=>none
 | .store t a x=>(uP P t).bind fun sz=>(cells? (ρ x)).bind fun vs=>match ρ a with
  | .ref b off=>match σ b with
   |some (.box t' cs)=>if vs.length=sz∧off+sz≤cs.length then some ⟨True,.junk,[b],[(b,.box t' (cs.take off++vs++cs.drop (off+sz)))]⟩ else none
   |some (.arr z cs)=>if vs.length=sz∧off+sz≤cs.length then some ⟨True,.junk,[b],[(b,.arr z (cs.take off++vs++cs.drop (off+sz)))]⟩ else none
   | _=>none
  | _=>none
 | .nilCheck x=>match ρ x with
  | .ref b off=>some (aH (.ref b off))
  | .dV cs=>some (aH (.dV cs))
  | .fn (.func f) a b=>some (aH (.fn (.func f) a b))
  | _=>none
 | .binOp op xt x y _=>eG P op xt (jy x || jy y) (ρ x) (ρ y)
 | .unOp op _ x=>(GU op (ρ x)).map aH
 | .convert src dst x=>(Kr P src dst (ρ x)).map aH
 | .makeInterface t x=>if GR P t=true then some (aH (.iface t (ρ x))) else none
 | .makeFunc f a b=>some (aH (.fn f (a.toList.map ρ) (b.toList.map ρ)))
 | .slice t x lo hi none=>match ρ x with
  | .str s=>if isStr P t then (mG 0 (.str s) (lo.map ρ) (hi.map ρ)).map aH else none
  | .slice a b c d=>(cu P t).bind fun (_,sz,_)=>(mG sz (.slice a b c d) (lo.map ρ) (hi.map ρ)).map aH
  | .arr a b c=>(cu P t).bind fun (_,sz,_)=>(mG sz (.arr a b c) (lo.map ρ) (hi.map ρ)).map aH
  | _=>none
 | .fieldAddr s x f=>(eu P s f).bind fun (off,sz)=>if sz=0 then none else match ρ x with
  | .ref b o=>some (aH (.ref b (o+off)))
  | .dV cs=>some (aH (.dV (cs.drop off)))
  | _=>none
 | .field t x f=>(eu P t f).bind fun (off,sz)=>match (P.underlying t),ρ x with
  |some (.struct fs),.agg cs=>((fs[f]?).bind fun fl=>j_ P fl.type).bind fun g=>(uQ g sz (cs.drop off)).map aH
  | _,_=>none
 | .indexAddr t x i=>(Kq (ρ i)).bind fun n=>match ρ x with
  | .slice z false es _=>(cu P t).bind fun (_,sz,_)=>if z=sz then (es[n]?).map fun e=>aH (.dV e) else none
  | .arr b z m=>(cu P t).bind fun (_,sz,_)=>if z=sz∧n<m then some (aH (.ref b (n * sz))) else none
  | .ref b o=>(OJ P t).bind fun (m,sz)=>if n<m then some (aH (.ref b (o+n * sz))) else none
  | .dV cs=>(OJ P t).bind fun (m,sz)=>if n<m then some (aH (.dV (cs.drop (n * sz)))) else none
  | _=>none
 | .index t x i=>match ρ x with
  | .str s=>if isStr P t then (Kq (ρ i)).bind fun n=>(s[n]?).map fun c=>aH (.int .u8 c.toNat) else none
  | .agg cs=>(adi P t).bind fun m=>(Kq (ρ i)).bind fun n=>if n<m then (cs[n]?).map aH else none
  | _=>none
 | .typeAssert x _ dst true=>match ρ x with
  | .iface t d=>if GR P dst=true∧t=dst then some (aH (.aQ [d,.bool true])) else none
  | _=>none
 | .extract x i=>match ρ x with
  | .aQ vs=>(vs[i]?).map aH
  | _=>none
 | .makeMap t none=>(mapD P t).map fun _=>⟨True,.map id,[],[(id,.map [] 0)]⟩
 | .lookup t x i ok=>(mapD P t).bind fun e=>(zeroV P e).bind fun z=>match ρ x,ρ i with
  | .bI,.str _=>some (aH (if ok then .aQ [z,.bool false] else z))
  | .map b,.str s=>match σ b with
   |some (.map es _)=>some ⟨True,if ok then .aQ [(jL es s).getD z,.bool (jL es s).isSome] else (jL es s).getD z,[b],[]⟩
   | _=>none
  | _,_=>none
 | .mapUpdate t m i x=>(mapD P t).bind fun _=>match ρ m,ρ i with
  | .map b,.str s=>match σ b with
   |some (.map es clock)=>some ⟨True,.junk,[b],[(b,.map (Jy es clock s (ρ x)) (Kt es clock s))]⟩
   | _=>none
  | _,_=>none
 | .call { callee:= .builtin .delete,args,argTypes }=>if args.size=2 then (argTypes[0]?).bind fun t=>(mapD P t).bind fun _=>(args[0]?).bind fun m=>(args[1]?).bind fun i=>match ρ m,ρ i with
  | .map b,.str s=>match σ b with
   |some (.map es clock)=>some ⟨True,.aQ [],[b],[(b,.map (EZ es s) clock)]⟩
   | _=>none
  | _,_=>none else none
 | .call { callee:= .builtin .len,args,argTypes }=>if args.size=1∧argTypes.size=1 then (args[0]?).bind fun x=>(argTypes[0]?).bind fun t=>match ρ x with
  | .map b=>match σ b with
   |some (.map es _)=>if (mapD P t).isSome=true then some ⟨True,.int .i64 es.length,[b],[]⟩ else none
   | _=>none
  | _=>(lenD P t (ρ x)).map aH else none
 | .call { callee:= .builtin .clear,args,argTypes }=>if args.size=1∧argTypes.size=1 then (args[0]?).bind fun x=>(argTypes[0]?).bind fun t=>(cu P t).bind fun (e,sz,_)=>(iC P e).bind fun z=>if z.length=sz then EY σ sz (ρ x) else none else none
 | .call { callee:= .builtin .append,args,argTypes }=>if args.size=2 then (args[0]?).bind fun x=>(args[1]?).bind fun y=>Sm P σ id argTypes (ρ x) (ρ y) else none
 | .call { callee:= .builtin .min,args,.. }=>if args.size=2 then (args[0]?).bind fun x=>(args[1]?).bind fun y=>(minD (ρ x) (ρ y)).map aH else none
 | .call { callee:= .builtin .max,args,.. }=>if args.size=2 then (args[0]?).bind fun x=>(args[1]?).bind fun y=>(maxD (ρ x) (ρ y)).map aH else none
 | .range t x=>match ρ x with
  | .str s=>if isStr P t=true then some ⟨True,.ref id 0,[],[(id,.iter s 0)]⟩ else none
  | .map b=>match σ b with
   |some (.map es clock)=>if (mapD P t).isSome=true then some ⟨True,.ref id 0,[b],[(id,.dZ b clock [] clock)]⟩ else none
   | _=>none
  | _=>none
 | .next x true=>match ρ x with
  | .ref b 0=>match σ b with
   |some (.iter s pos)=>some ⟨True,if pos<s.length then .aQ [.bool true,.int .i64 pos,.int .i32 (jw s pos).1] else .aQ [.bool false],[b],if pos<s.length then [(b,.iter s (pos+(jw s pos).2))] else []⟩
   | _=>none
  | _=>none
 | _=>none
def opA (P:Program)(ρ:Operand→D)(id:Nat)(t:TypeId)(len:Nat)(parts:Array (Nat × Operand)):Option Eff:=
 (cu P t).bind fun (e,sz,_)=>if len * sz≤16777216∧parts.size=len∧sz≠0∧iK P e=true then (jQ ρ sz 0 parts.toList).map fun es=>⟨True,.slice sz false es (some id),[],[(id,.aI e sz len)]⟩ else none
def Sv:Op→Bool
 | .alloc _ | .box _ _=>true
 | .call { callee:= .builtin .append,.. }=>true
 | .range _ _=>true
 | .makeMap _ _=>true
 | _=>false
end Go.Id
namespace Go.Id
open Go
structure Base where
 M:Nat→Nat→Prop
 n:Nat
 I:World→Prop
 stable:∀w w':World,I w→(∀k,k<n→w'.heap[k]?=w.heap[k]?)→I w'
def aA (M₀:Base)(γ:Nat→Option G):Nat→Nat→Prop:=fun B off=>M₀.M B off∨∃b g,γ b=some g∧g.wr B off
theorem G.jR {g:G}{B off:Nat}(h:g.wr B off):g.block=some B:=by
 cases g with
 |aI sz e v n=>exact h.1
 | _=>simp only[G.wr] at h;subst h;rfl
abbrev FZ:Nat:=1000000
inductive dh (M:Nat→Nat→Prop) (γ:Nat→Option G) (w:World):bf→G→Prop
 | box {cs:List D} {B:Nat} (vs:Array Value) (e:TypeId) (fz:Nat × Nat) (hB:w.heap[B]?=some (.cells vs e fz)) (hl:vs.size=cs.length)
   (h1:∀(i:Nat) v,vs[i]?=some v→v.oneCell'=true∧w.frozen? ⟨B,i,none⟩=false)
   (hr:∀(i:Nat) d v,cs[i]?=some d→vs[i]?=some v→Rep M γ w d v):dh M γ w (.box e cs) (.box B)
 | arr {e0:TypeId} {cs:List D} {B cap z:Nat} (vs:Array Value) (e:TypeId) (fz:Nat × Nat) (hB:w.heap[B]?=some (.cells vs e0 fz)) (hl:cs.length≤vs.size)
   (h1:∀(i:Nat) v,i<cs.length→vs[i]?=some v→v.oneCell'=true∧w.frozen? ⟨B,i,none⟩=false)
   (hr:∀(i:Nat) d v,cs[i]?=some d→vs[i]?=some v→Rep M γ w d v)
   (hf:((fz=(0,0)∧e0=e)∨(vs.size≤fz.1∧e=e0+FZ))∧vs.size=cap * z∧cap≤maxLen):dh M γ w (.arr e cs) (.arr B cap z)
 |aI {e:TypeId} {sz n:Nat} {v:Value} (xs:List Value) (ho:w.ownsRow 0 e sz v n xs):dh M γ w (.aI e sz n) (.aI sz e v n)
 |iter {s:ByteArray} {pos B:Nat} (hB:w.heap[B]?=some (.stringIter s pos)):dh M γ w (.iter s.data.toList pos) (.iter B)
 | map {es:List (List UInt8 × D × Nat)} {clock B:Nat} (en:Array MapEntry) (hB:w.heap[B]?=some (.map en clock)) (hl:en.size=es.length)
   (hk:∀(i:Nat) e k d n,en[i]?=some e→es[i]?=some (k,d,n)→e.key= .string ⟨k.toArray⟩∧e.born=n∧Rep M γ w d e.val):dh M γ w (.map es clock) (.box B)
 |dZ {m since last B Bm:Nat} {seen:List Nat} (hB:w.heap[B]?=some (.mapIter (some Bm) since seen.toArray last)) (hm:γ m=some (.box Bm)):dh M γ w (.dZ m since seen last) (.iter B)
 |dead {g:G} (hB:∀B,g.block=some B→B<w.heap.size):dh M γ w .dead g
theorem zJ {n:Nat}{e0 e:TypeId}{fz:Nat × Nat}(hf:(fz=(0,0)∧e0=e)∨(n≤fz.1∧e=e0+FZ))(he:e<1000000):fz=(0,0)∧e=e0:=by
 rcases hf with⟨q,r⟩ | ⟨_,q⟩
 ·exact⟨q,r.symm⟩
 ·exact absurd he (by rw[q];exact Nat.not_lt.2 (Nat.le_add_left _ _))
theorem frz {w:World}{B:Nat}{vs:Array Value}{e0 e:TypeId}{fz:Nat × Nat}(hf:(fz=(0,0)∧e0=e)∨(vs.size≤fz.1∧e=e0+FZ))(hB:w.heap[B]?=some (.cells vs e0 fz)){j:Nat}(hj:j<vs.size):w.frozen? ⟨B,j,none⟩=false:=by
 rcases hf with⟨q,_⟩ | ⟨q,_⟩
 ·rw[q] at hB;simp[World.frozen?,hB]
 ·have:¬fz.1≤j:=by omega
  simp[World.frozen?,hB,this]
theorem dh.lt {M:Nat→Nat→Prop}{γ:Nat→Option G}{w:World}{blk:bf}{g:G}(h:dh M γ w blk g){B:Nat}(hb:g.block=some B):B<w.heap.size:=by
 cases h with
 |box vs e fz hB=>simp only[G.block,abr] at hb;subst hb;exact (ag6.1 hB).1
 |arr vs e fz hB=>simp only[G.block,abr] at hb;subst hb;exact (ag6.1 hB).1
 |iter hB=>simp only[G.block,abr] at hb;subst hb;exact (ag6.1 hB).1
 |map en hB=>simp only[G.block,abr] at hb;subst hb;exact (ag6.1 hB).1
 |dZ hB hm=>simp only[G.block,abr] at hb;subst hb;exact (ag6.1 hB).1
 |aI xs ho=>exact (ho.lt B hb).2
 |dead hB=>exact hB B hb
theorem dh.JU {M M':Nat→Nat→Prop}{γ γ':Nat→Option G}{w w':World}{blk:bf}{g:G}(h:dh M γ w blk g)(hv:Evo M γ w M' γ' w')
  (hb:∀B,g.block=some B→w'.heap[B]?=w.heap[B]?):dh M' γ' w' blk g:=by
 cases h with
 |box vs e fz hB hl h1 hr=>
  have e1:=hb _ rfl
  exact .box vs e fz (e1.trans hB) hl (fun i v hi=>⟨(h1 i v hi).1,by rw[World.frozen?_of_block (w:=w) (w':=w') (by simpa using e1)];exact (h1 i v hi).2⟩) (fun i d v hd hi=>(hr i d v hd hi).JU hv)
 |arr vs e fz hB hl h1 hr hf=>
  have e1:=hb _ rfl
  exact .arr vs e fz (e1.trans hB) hl (fun i v hn hi=>⟨(h1 i v hn hi).1,by rw[World.frozen?_of_block (w:=w) (w':=w') (by simpa using e1)];exact (h1 i v hn hi).2⟩) (fun i d v hd hi=>(hr i d v hd hi).JU hv) hf
 |iter hB=>exact .iter ((hb _ rfl).trans hB)
 |map en hB hl hk=>exact .map en ((hb _ rfl).trans hB) hl (fun i e k d n q1 q2=>let ⟨r1,r2,r3⟩:=hk i e k d n q1 q2;⟨r1,r2,r3.JU hv⟩)
 |dZ hB hm=>
  obtain⟨g',h1,h2⟩:=hv.names _ _ hm
  simp only[G.le] at h2;subst h2
  exact .dZ ((hb _ rfl).trans hB) h1
 |dead hB=>exact .dead (fun B h=>by have:=hB B h;have e1:=hb B h;rw[adr this] at e1;exact (ag6.1 e1).1)
 |aI xs ho=>
  refine .aI xs ?_
  obtain⟨h1,h2⟩:=ho
  refine⟨h1,?_⟩
  rcases h2 with h2 | ⟨g,cap,cur,rfl,hg,hh,r⟩
  ·exact .inl h2
  ·exact .inr ⟨g,cap,cur,rfl,hg,(hb g rfl).trans hh,r⟩
theorem dh.keep {M M':Nat→Nat→Prop}{γ γ':Nat→Option G}{w w':World}{blk:bf}{g:G}(h:dh M γ w blk g)(hv:aW M γ w M' γ' w')
  (hb:∀B,g.block=some B→w'.heap[B]?=w.heap[B]?):dh M' γ' w' blk g:=h.JU hv.JU hb
structure Store (M₀:Base) (γ:Nat→Option G) (σ:Nat→Option bf) (w:World):Prop where
 names:∀b,(∃blk g,σ b=some blk∧γ b=some g∧dh (aA M₀ γ) γ w blk g)∨(σ b=none∧γ b=none)
 dist:∀b b' g g' B,γ b=some g→γ b'=some g'→g.block=some B→g'.block=some B→b=b'
 outer:∀B off,M₀.M B off→M₀.n≤B∧B<w.heap.size
 apart:∀b g B off,γ b=some g→g.block=some B→¬M₀.M B off
 inv:M₀.I w
 low:∀b g B,γ b=some g→g.block=some B→M₀.n≤B
 big:M₀.n≤w.heap.size
def upd {α:Type}(f:Nat→α)(b:Nat)(x:α):Nat→α:=fun i=>if i=b then x else f i
theorem upd_same {α:Type}(f:Nat→α)(b:Nat)(x:α):upd f b x b=x:=by simp[upd]
theorem bn {α:Type}(f:Nat→α){b i:Nat}(x:α)(h:i≠b):upd f b x i=f i:=by simp[upd,h]
section
variable {M₀:Base} {γ:Nat→Option G} {σ:Nat→Option bf} {w:World}
theorem Store.hit (h:Store M₀ γ σ w){b:Nat}{blk:bf}(hb:σ b=some blk):∃g,γ b=some g∧dh (aA M₀ γ) γ w blk g:=by
 rcases h.names b with⟨blk',g,h1,h2,h3⟩ | ⟨h1,_⟩
 ·rw[hb] at h1;cases h1;exact⟨g,h2,h3⟩
 ·rw[hb] at h1;cases h1
theorem Store.miss (h:Store M₀ γ σ w){b:Nat}(hb:σ b=none):γ b=none:=by
 rcases h.names b with⟨blk',g,h1,_⟩ | ⟨_,h1⟩
 ·rw[hb] at h1;cases h1
 ·exact h1
theorem Store.lt (h:Store M₀ γ σ w){b:Nat}{g:G}(hg:γ b=some g){B:Nat}(hB:g.block=some B):B<w.heap.size:=by
 rcases h.names b with⟨blk',g',_,h2,h3⟩ | ⟨_,h1⟩
 ·rw[hg] at h2;cases h2;exact h3.lt hB
 ·rw[hg] at h1;cases h1
theorem Store.akm (h:Store M₀ γ σ w){B off:Nat}(hm:aA M₀ γ B off):B<w.heap.size:=by
 rcases hm with hm | ⟨b,g,hg,hw⟩
 ·exact (h.outer B off hm).2
 ·exact h.lt hg (G.jR hw)
theorem Store.change (h:Store M₀ γ σ w)(b:Nat)(blk:bf)(g:G)(w':World)
  (hv:aW (aA M₀ γ) γ w (aA M₀ (upd γ b (some g))) (upd γ b (some g)) w')
  (hold:∀i gi B,i≠b→γ i=some gi→gi.block=some B→w'.heap[B]?=w.heap[B]?)
  (hnew:∀B,g.block=some B→(w.heap.size≤B∨∃g0,γ b=some g0∧g0.block=some B))
  (hr:dh (aA M₀ (upd γ b (some g))) (upd γ b (some g)) w' blk g):
  Store M₀ (upd γ b (some g)) (upd σ b (some blk)) w' where
 names i:=by
  by_cases hi:i=b
  ·subst hi;exact .inl ⟨blk,g,upd_same _ _ _,upd_same _ _ _,hr⟩
  ·rcases h.names i with⟨blk',g',h1,h2,h3⟩ | ⟨h1,h2⟩
   ·exact .inl ⟨blk',g',by rw[bn _ _ hi];exact h1,by rw[bn _ _ hi];exact h2,h3.keep hv (fun B hB=>hold i g' B hi h2 hB)⟩
   ·exact .inr ⟨by rw[bn _ _ hi];exact h1,by rw[bn _ _ hi];exact h2⟩
 dist i j gi gj B hi hj hBi hBj:=by
  by_cases ei:i=b <;> by_cases ej:j=b
  ·rw[ei,ej]
  ·subst ei
   rw[upd_same] at hi;cases hi
   rw[bn _ _ ej] at hj
   rcases hnew B hBi with hlt | ⟨g0,h0,h1⟩
   ·have:=h.lt hj hBj;omega
   ·exact h.dist _ _ _ _ B h0 hj h1 hBj
  ·subst ej
   rw[upd_same] at hj;cases hj
   rw[bn _ _ ei] at hi
   rcases hnew B hBj with hlt | ⟨g0,h0,h1⟩
   ·have:=h.lt hi hBi;omega
   ·exact h.dist _ _ _ _ B hi h0 hBi h1
  ·rw[bn _ _ ei] at hi
   rw[bn _ _ ej] at hj
   exact h.dist _ _ _ _ B hi hj hBi hBj
 outer B off hm:=⟨(h.outer B off hm).1,aj0 (h.outer B off hm).2 hv.size⟩
 apart i gi B off hi hB hm:=by
  by_cases ei:i=b
  ·subst ei
   rw[upd_same] at hi;cases hi
   rcases hnew B hB with hlt | ⟨g0,h0,h1⟩
   ·have:=h.outer B off hm;omega
   ·exact h.apart _ _ B off h0 h1 hm
  ·rw[bn _ _ ei] at hi
   exact h.apart _ _ B off hi hB hm
 inv:=M₀.stable w w' h.inv (fun k hk=>hv.block k (aj0 hk h.big) (fun i gi hi hB=>by have:=h.low i gi k hi hB;omega))
 low i gi B hi hB:=by
  by_cases ei:i=b
  ·subst ei
   rw[upd_same] at hi;cases hi
   rcases hnew B hB with hlt | ⟨g0,h0,h1⟩
   ·exact ag9 h.big hlt
   ·exact h.low _ _ B h0 h1
  ·rw[bn _ _ ei] at hi;exact h.low i gi B hi hB
 big:=ag9 h.big hv.size
theorem aA.XJ {b:Nat}{g:G}{B off:Nat}(hm:aA M₀ (upd γ b (some g)) B off):aA M₀ γ B off∨g.wr B off:=by
 rcases hm with hm | ⟨i,gi,hi,hw⟩
 ·exact .inl (.inl hm)
 ·by_cases e:i=b
  ·subst e;rw[upd_same] at hi;cases hi;exact .inr hw
  ·rw[bn _ _ e] at hi;exact .inl (.inr ⟨i,gi,hi,hw⟩)
theorem aW.fresh (h:Store M₀ γ σ w){b:Nat}(hb:σ b=none)(g:G)(w':World)(hos:w'.os=w.os)(htp:w'.tape=w.tape)(hout:w'.output=w.output)
  (hsz:w.heap.size≤w'.heap.size) (hold:∀k,k<w.heap.size→w'.heap[k]?=w.heap[k]?) (hg:∀B,g.block=some B→w.heap.size≤B):
  aW (aA M₀ γ) γ w (aA M₀ (upd γ b (some g))) (upd γ b (some g)) w' where
 os:=hos
 tape:=htp
 output:=hout
 size:=hsz
 cell B off v _ hv:=by rw[World.cell?_of_block (w:=w) (w':=w') (by simpa using hold B (cell_lt hv))];exact hv
 wr B off hm hlt:=by
  rcases aA.XJ hm with hm|hw
  ·exact hm
  ·have:=hg B (G.jR hw);omega
 names i gi hi:=by
  have:i≠b:=fun e=>by subst e;rw[h.miss hb] at hi;cases hi
  exact⟨gi,by rw[bn _ _ this];exact hi,G.le_refl gi⟩
 block B hB _:=hold B hB
 old i gi B hi hB hlt:=by
  by_cases e:i=b
  ·subst e;rw[upd_same] at hi;cases hi;have:=hg B hB;omega
  ·rw[bn _ _ e] at hi;exact⟨i,gi,hi,hB⟩
theorem bP (w:World)(o:Obj):∀k,k<w.heap.size→(w.alloc o).heap[k]?=w.heap[k]?:=fun k hk=>heap_alloc_old w o k hk
theorem Rep.sub {M M':Nat→Nat→Prop}{γ:Nat→Option G}{w:World}(hM:∀B off,M' B off→M B off){d:D}{v:Value}(hr:Rep M γ w d v):Rep M' γ w d v:=
 hr.dA ⟨rfl,rfl,rfl,ag4 _,fun _ _ _ _ h=>h,fun B off h _=>hM B off h,fun _ g h=>⟨g,h,G.le_refl g⟩,fun _ _ _=>rfl,fun b g _ h h' _=>⟨b,g,h,h'⟩⟩
theorem Rep.cells {M:Nat→Nat→Prop}{d:D}{v:Value}(h:Rep M γ w d v){cs:List D}(hc:cells? d=some cs):
  v.cells.size=cs.length∧(∀(i:Nat) u,v.cells[i]?=some u→u.oneCell'=true)∧(∀(i:Nat) x u,cs[i]?=some x→v.cells[i]?=some u→Rep M γ w x u):=by
 have one:∀(v:Value) (d:D),Rep M γ w d v→v.cells=#[v]→v.oneCell'=true→cs=[d]→
   v.cells.size=cs.length∧(∀(i:Nat) u,v.cells[i]?=some u→u.oneCell'=true)∧(∀(i:Nat) x u,cs[i]?=some x→v.cells[i]?=some u→Rep M γ w x u):=by
  intro v d hr h1 h2 h3
  subst h3
  rw[h1]
  refine⟨rfl,fun i u hi=>?_,fun i x u hx hu=>?_⟩
  ·match i with
   | 0=>simp at hi;subst hi;exact h2
   |i+1=>simp at hi
  ·match i with
   | 0=>simp at hx hu;subst hx;subst hu;exact hr
   |i+1=>simp at hx
 cases h with
 |junk=>simp[cells?] at hc
 |val=>simp[cells?] at hc
 |aQ=>simp[cells?] at hc
 |agg hl h1 hr=>simp only[cells?,abr] at hc;subst hc;exact⟨hl,h1,hr⟩
 |bool b=>exact one _ _ (.bool b) rfl rfl (by simpa [cells?] using hc.symm)
 |int k n=>exact one _ _ (.int k n) rfl rfl (by simpa [cells?] using hc.symm)
 |str s=>exact one _ _ (.str s) rfl rfl (by simpa [cells?] using hc.symm)
 |nilslice ht=>exact one _ _ (.nilslice ht) rfl rfl (by simpa [cells?] using hc.symm)
 |slice vs a1 a2 a3 a4 a5 a6 a7=>exact one _ _ (.slice vs a1 a2 a3 a4 a5 a6 a7) rfl rfl (by simpa [cells?] using hc.symm)
 |arr a1 a2=>exact one _ _ (.arr a1 a2) rfl rfl (by simpa [cells?] using hc.symm)
 |view a1 a2 a3=>exact one _ _ (.view a1 a2 a3) rfl rfl (by simpa [cells?] using hc.symm)
 |ref a1=>exact one _ _ (.ref a1) rfl rfl (by simpa [cells?] using hc.symm)
 |dV vs a1 a2 a3 a4=>exact one _ _ (.dV vs a1 a2 a3 a4) rfl rfl (by simpa [cells?] using hc.symm)
 |aV=>exact one _ _ .aV rfl rfl (by simpa [cells?] using hc.symm)
 |fn a1 a2 a3 a4=>exact one _ _ (.fn a1 a2 a3 a4) rfl rfl (by simpa [cells?] using hc.symm)
 |dK=>exact one _ _ .dK rfl rfl (by simpa [cells?] using hc.symm)
 |iface a1=>exact one _ _ (.iface a1) rfl rfl (by simpa [cells?] using hc.symm)
 |aK=>exact one _ _ .aK rfl rfl (by simpa [cells?] using hc.symm)
 |bI=>exact one _ _ .bI rfl rfl (by simpa [cells?] using hc.symm)
 |map a1=>exact one _ _ (.map a1) rfl rfl (by simpa [cells?] using hc.symm)
theorem Store.adl (h:Store M₀ γ σ w){b:Nat}(hb:σ b=none)(e:TypeId){cs:List D}{vs:Array Value}(hl:vs.size=cs.length)
  (h1:∀(i:Nat) u,vs[i]?=some u→u.oneCell'=true) (hr:∀(i:Nat) x u,cs[i]?=some x→vs[i]?=some u→Rep (aA M₀ γ) γ w x u):
  Store M₀ (upd γ b (some (.box w.heap.size))) (upd σ b (some (.box e cs))) (w.alloc (.cells vs e))∧
  aW (aA M₀ γ) γ w (aA M₀ (upd γ b (some (.box w.heap.size)))) (upd γ b (some (.box w.heap.size))) (w.alloc (.cells vs e)):=by
 have hv:=aW.fresh h hb (.box w.heap.size) (w.alloc (.cells vs e)) rfl rfl rfl (by simp) (bP w _) (fun B hB=>by simp[G.block] at hB;omega)
 refine⟨h.change b (.box e cs) (.box w.heap.size) _ hv (fun i gi B hi hg hB=>bP w _ B (h.lt hg hB)) (fun B hB=>by simp[G.block] at hB;omega) ?_,hv⟩
 exact .box vs e (0,0) (heap_alloc_new w _) hl (fun i v hi=>⟨h1 i v hi,World.frozen?_alloc_new w vs e i⟩) (fun i d v hd hi=>(hr i d v hd hi).dA hv)
end
end Go.Id
namespace Go.Id
open Go
def E_ (σ:Nat→Option bf):List (Nat × bf)→Nat→Option bf
 | []=>σ
 |(b,blk)::ws=>upd (E_ σ ws) b (some blk)
def Out (M₀:Base)(γ:Nat→Option G)(σ:Nat→Option bf)(w:World)(r:Result Next)(d:D)(ws:List (Nat × bf)):Prop:=
 ∃v w' γ',(r= .ok (.value v) w'∨(r= .ok .skip w'∧v=undef))∧Store M₀ γ' (E_ σ ws) w'∧aW (aA M₀ γ) γ w (aA M₀ γ') γ' w'∧Rep (aA M₀ γ') γ' w' d v
section
variable {P:Program} {M₀:Base} {γ:Nat→Option G} {σ:Nat→Option bf} {w:World}
theorem Out.same (h:Store M₀ γ σ w){r:Result Next}{d:D}{v:Value}(hr:r= .ok (.value v) w)(hd:Rep (aA M₀ γ) γ w d v):Out M₀ γ σ w r d []:=
 ⟨v,w,γ,.inl hr,h,aW.refl _ _ _,hd⟩
theorem AV (M:Nat→Nat→Prop)(v:Value):Rep M γ w (zI v) v:=by
 unfold zI
 split
 ·exact .bool _
 ·exact .int _ _
 ·exact .str _
 ·exact .aV
 ·exact .nilslice (jk.none _ _ _)
 ·exact .bI
 ·exact .dK
 ·exact .aK
 ·exact .junk _
theorem ku (M:Nat→Nat→Prop)(v:Value):Rep M γ w (jZ v) v:=by
 unfold jZ
 split
 ·rename_i cs
  split
  ·rename_i hall
   have hall':=Array.all_eq_true'.1 hall
   refine .agg (by simp) (fun i v hi=>hall' v (ajY hi)) (fun i d v hd hv=>?_)
   rw[adw,akA,hv] at hd
   simp only[aiD,abr] at hd
   subst hd
   exact AV M v
  ·exact .junk _
 ·exact .junk _
 ·exact AV M _
theorem xM {t:TypeId}{g:Bool}(h:j_ P t=some g)(w:World):(isAgg t).run P w= .ok g w:=by
 unfold j_ at h
 simp only[isAgg,underlying,Sem.run_bind,run_program,Result.andThen_ok]
 split at h
 ·rename_i he;simp at h;subst h;simp[he]
 ·rename_i he;simp at h;subst h;simp[he]
 ·rename_i d h1 h2 he
  simp at h;subst h
  cases d <;> simp_all
 ·cases h
theorem Sz {t:TypeId}{sz:Nat}(h:uP P t=some sz)(w:World):(sizeOf t).run P w= .ok sz w:=by
 unfold uP at h
 cases hi:P.info? t with
 |none=>rw[hi] at h;cases h
 |some i=>rw[hi] at h;simp at h;subst h;simp[sizeOf,typeInfo,hi]
theorem GV {t:TypeId}{g:Bool}{sz:Nat}(hg:j_ P t=some g)(hs:uP P t=some sz){M:Nat→Nat→Prop}{a:Addr}(hspot:a.spot=none){cs:List D}{d:D}(hl:uQ g sz cs=some d)
  (vs:List Value) (hvs:cs.length≤vs.length) (hc:∀j v,vs[j]?=some v→w.cell? ⟨a.block,a.off+j,none⟩=some v∧v.oneCell'=true)
  (hr:∀(j:Nat) d v,cs[j]?=some d→vs[j]?=some v→Rep M γ w d v):
  ∃v,(loadVar t a).run P w= .ok v w∧Rep M γ w d v:=by
 have hadd:∀j,a.add j=⟨a.block,a.off+j,none⟩:=by
  intro j;unfold Addr.add;split
  ·subst_vars;cases a;simp_all
  ·rfl
 unfold uQ at hl
 cases g with
 |true=>
  simp only[if_true] at hl
  split at hl <;> simp at hl
  rename_i hle
  subst hl
  have hrun:=run_loadCells_list (P:=P) (w:=w) a (vs.take sz) (fun j v hv=>by
   rw[hadd]
   rw[ag3] at hv
   split at hv
   ·exact (hc j v hv).1
   ·cases hv)
  have hlen:(vs.take sz).length=sz:=by simp;omega
  rw[hlen] at hrun
  refine⟨_,by simp only[loadVar,Sem.run_bind,xM hg,Result.andThen_ok,Sz hs,if_true,hrun];rfl,.agg (by simp;omega) (fun i v hv=>?_) (fun i d v hd hv=>?_)⟩
  ·simp only[amj,ag3] at hv
   split at hv
   ·exact (hc i v hv).2
   ·cases hv
  ·simp only[amj,ag3] at hv hd
   split at hv
   ·rename_i hi;rw[if_pos hi] at hd;exact hr i d v hd hv
   ·cases hv
 |false=>
  simp only[ag8,if_false] at hl
  cases cs with
  |nil=>simp at hl
  |cons c cs=>
   simp at hl;subst hl
   cases vs with
   |nil=>simp at hvs
   |cons v vs=>
    have h0:=(hc 0 v rfl).1
    have ha:(⟨a.block,a.off+0,none⟩:Addr)=a:=by cases a;simp_all
    rw[ha] at h0
    exact⟨v,by simp[loadVar,xM hg,h0],hr 0 c v rfl rfl⟩
theorem cells_at {B:Nat}{vs:Array Value}{e:TypeId}{fz:Nat × Nat}(hB:w.heap[B]?=some (.cells vs e fz))(off:Nat):
  ∀j v,(vs.toList.drop off)[j]?=some v→w.cell? ⟨B,off+j,none⟩=some v:=by
 intro j v hv
 rw[cell_of_row w B (off+j) vs e fz hB]
 simpa [ahz] using hv
theorem qG (h:Store M₀ γ σ w){t:TypeId}{g:Bool}{sz:Nat}(hg:j_ P t=some g)(hs:uP P t=some sz){b off:Nat}{cs:List D}(hb:(∃t',σ b=some (.box t' cs))∨∃z,σ b=some (.arr z cs))
  {d:D} (hl:uQ g sz (cs.drop off)=some d) {av:Value} (hav:Rep (aA M₀ γ) γ w (.ref b off) av):
  ∃v,(Instr.loadAt t av).run P w= .ok v w∧Rep (aA M₀ γ) γ w d v:=by
 have main:∀(B:Nat) (vs:Array Value) (e:TypeId) (fz:Nat × Nat),w.heap[B]?=some (.cells vs e fz)→cs.length≤vs.size→(∀(i:Nat) v,i<cs.length→vs[i]?=some v→v.oneCell'=true∧w.frozen? ⟨B,i,none⟩=false)→
   (∀(i:Nat) d v,cs[i]?=some d→vs[i]?=some v→Rep (aA M₀ γ) γ w d v)→∃v,(loadVar t ⟨B,off,none⟩).run P w= .ok v w∧Rep (aA M₀ γ) γ w d v:=by
  intro B vs e fz hB hlen h1 hr
  have hget:∀(j:Nat) v,((vs.toList.take cs.length).drop off)[j]?=some v→off+j<cs.length∧vs[off+j]?=some v:=by
   intro j v hv
   rw[ahz,ag3] at hv
   split at hv
   ·rename_i hlt
    exact⟨hlt,by rw[akA] at hv;exact hv⟩
   ·cases hv
  refine GV hg hs rfl hl ((vs.toList.take cs.length).drop off) (by simp;omega) (fun j v hv=>⟨cells_at hB off j v (by rw[ahz,akA];exact (hget j v hv).2),?_⟩) (fun j d v hd hv=>?_)
  ·exact (h1 _ v (hget j v hv).1 (hget j v hv).2).1
  ·rw[ahz] at hd
   exact hr _ d v hd (hget j v hv).2
 cases hav with
 | @ref _ B _ hγ=>
  simp only[Instr.loadAt,Instr.sureAddr,Sem.run_bind,Sem.run_pure,Result.andThen_ok]
  rcases hb with⟨t',hb⟩ | ⟨z,hb⟩
  ·obtain⟨g',h2,h3⟩:=h.hit hb
   cases h3 with
   |box vs e fz hB hlen h1 hr=>
    rcases hγ with hγ | ⟨_,_,hγ⟩|hγ <;> rw[h2] at hγ <;> cases hγ
    exact main _ vs _ fz hB (by omega) (fun i v _ hi=>h1 i v hi) hr
  ·obtain⟨g',h2,h3⟩:=h.hit hb
   cases h3 with
   |arr vs e fz hB hlen h1 hr=>
    rcases hγ with hγ | ⟨_,_,hγ⟩|hγ <;> rw[h2] at hγ <;> cases hγ
    exact main _ vs _ fz hB hlen h1 hr
theorem AX {M:Nat→Nat→Prop}{t:TypeId}{g:Bool}{sz:Nat}(hg:j_ P t=some g)(hs:uP P t=some sz){cs:List D}
  {d:D} (hl:uQ g sz cs=some d) {av:Value} (hav:Rep M γ w (.dV cs) av):
  ∃v,(Instr.loadAt t av).run P w= .ok v w∧Rep M γ w d v:=by
 cases hav with
 | @dV _ a vs hvs hspot hc hr=>
  simp only[Instr.loadAt,Instr.sureAddr,Sem.run_bind,Sem.run_pure,Result.andThen_ok]
  exact GV hg hs hspot hl vs (by omega) (fun j v hv=>⟨(hc j v hv).1,(hc j v hv).2.2⟩) hr
end
end Go.Id
