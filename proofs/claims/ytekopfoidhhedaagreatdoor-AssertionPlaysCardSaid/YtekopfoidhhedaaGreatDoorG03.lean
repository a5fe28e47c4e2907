import Derived.Test.YtekopfoidhhedaaGreatDoorG02
import Derived.MapKept
set_option linter.unusedVariables false
set_option linter.unusedSimpArgs false
set_option linter.unnecessarySimpa false
namespace Go.Id
open Go
section
variable {P:Program} {M₀:Base} {γ:Nat→Option G} {σ:Nat→Option bf} {w:World}
theorem out_range (h:Store M₀ γ σ w){b:Nat}(hb:σ b=none){t:TypeId}(ht:P.underlying t=some .string)(s:ByteArray):
  Out M₀ γ σ w ((do let v ← Instr.range t (.string s);pure (Next.value v):Sem Next).run P w) (.ref b 0) [(b,.iter s.data.toList 0)]:=by
 have hv:=aW.fresh h hb (.iter w.heap.size) (w.alloc (.stringIter s 0)) rfl rfl rfl (by simp) (bP w _) (fun B hB=>by simp[G.block] at hB;omega)
 have hs:=h.change b (.iter s.data.toList 0) (.iter w.heap.size) _ hv (fun i gi B hi hg hB=>bP w _ B (h.lt hg hB)) (fun B hB=>by simp[G.block] at hB;omega) (.iter (heap_alloc_new w _))
 refine⟨.pointer (some ⟨w.heap.size,0,none⟩),_,_,.inl ?_,hs,hv,.ref (.inr (.inr (upd_same _ _ _)))⟩
 simp[Instr.range,run_underlying ht]
theorem adp (h:Store M₀ γ σ w){b:Nat}{s:List UInt8}{pos:Nat}(hb:σ b=some (.iter s pos)){v:Value}(hv:Rep (aA M₀ γ) γ w (.ref b 0) v)(ty:TypeId):
  Out M₀ γ σ w ((do let v ← Instr.next v true ty;pure (Next.value v):Sem Next).run P w)
   (if pos<s.length then .aQ [.bool true,.int .i64 pos,.int .i32 (jw s pos).1] else .aQ [.bool false]) (if pos<s.length then [(b,.iter s (pos+(jw s pos).2))] else []):=by
 obtain⟨g,h2,h3⟩:=h.hit hb
 cases h3 with
 | @iter s pos B hB=>
  have hl:s.data.toList.length=s.size:=rfl
  have hd:jw s.data.toList pos=Utf8.decode s pos:=rfl
  rw[hl,hd]
  cases hv with
  | @ref _ B' _ hγ=>
   rcases hγ with hγ | ⟨_,_,hγ⟩|hγ <;> rw[h2] at hγ <;> cases hγ
   have hget:(getObj B).run P w= .ok (.stringIter s pos) w:=by simp[getObj,Sem.run,hB]
   by_cases hp:pos<s.size
   ·simp only[if_pos hp]
    generalize hdec:Utf8.decode s pos=cw
    obtain⟨c,wd⟩:=cw
    have hlt:B<w.heap.size:=(ag6.1 hB).1
    let w':World:={ w with heap:=w.heap.setIfInBounds B (.stringIter s (pos+wd))}
    have hset:(setObj B (.stringIter s (pos+wd))).run P w= .ok () w':=by
     have hB2:=hB
     rw[adr hlt] at hB2
     simp only[abr] at hB2
     simp[setObj,Sem.run,hlt,w',hB2]
    have hB':w'.heap[B]?=some (.stringIter s (pos+wd)):=by simp[w',hlt]
    have hother:∀k,k≠B→w'.heap[k]?=w.heap[k]?:=fun k hk=>by simp[w',Ne.symm hk]
    have hsize:w'.heap.size=w.heap.size:=by simp[w']
    have hM:∀o,aA M₀ γ B o:=fun o=> .inr ⟨b,_,h2,rfl⟩
    have hv:aW (aA M₀ γ) γ w (aA M₀ γ) γ w':=by
     refine⟨rfl,rfl,rfl,by omega,fun B' o u hn hu=>?_,fun _ _ h _=>h,fun _ g h=>⟨g,h,G.le_refl g⟩,fun B' _ hn=>hother B' (fun e=>hn b _ h2 (by rw[e];rfl)),fun i gi _ h h' _=>⟨i,gi,h,h'⟩⟩
     have:B'≠B:=fun e=>by subst e;exact hn (hM o)
     rw[World.cell?_of_block (w:=w) (w':=w') (by simpa using hother B' this)];exact hu
    have nO:upd γ b (some (.iter B))=γ:=by funext i;by_cases hi:i=b <;> simp[upd,hi,h2]
    refine⟨.tuple #[.bool true,goInt pos,.int .i32 c],w',γ,.inl ?_,?_,hv,?_⟩
    ·simp only[Instr.next,Sem.run_bind,hget,Result.andThen_ok,hp,if_true,hdec,hset,Sem.run_pure]
    ·have:=h.change b (.iter s.data.toList (pos+wd)) (.iter B) w' (by rw[nO];exact hv) (fun i gi B2 hi hgi AA=>hother B2 (fun e=>hi (h.dist i b gi _ B2 hgi h2 AA (by rw[e];rfl)))) (fun B' hB'=> .inr ⟨_,h2,hB'⟩) (.iter hB')
     rw[nO] at this
     exact this
    ·refine .aQ rfl (fun i d v h1 h2=>?_)
     match i with
     | 0=>simp at h1 h2;subst h1;subst h2;exact .bool _
     | 1=>simp at h1 h2;subst h1;subst h2;exact .int _ _
     | 2=>simp at h1 h2;subst h1;subst h2;exact .int _ _
     |i+3=>simp at h1
   ·simp only[if_neg hp]
    refine Out.same h (v:= .tuple #[.bool false]) ?_ (.aQ rfl (fun i d v h1 h2=>?_))
    ·simp only[Instr.next,Sem.run_bind,hget,Result.andThen_ok,hp,if_false,Sem.run_pure]
    ·match i with
     | 0=>simp at h1 h2;subst h1;subst h2;exact .bool _
     |i+1=>simp at h1
theorem OM {e:TypeId}(h:byteElem P e=true):∃i,P.info? e=some i∧i.zero=some (.int .u8 0)∧i.size=1:=by
 unfold byteElem at h
 split at h
 ·rename_i i hi
  split at h
  ·rename_i hz;exact⟨i,hi,hz,by simpa using h⟩
  ·cases h
 ·cases h
theorem adq (h:Store M₀ γ σ w){id:Nat}(hid:σ id=none){ts:Array TypeId}{x:D}{s:ByteArray}{f:Eff}(ha:EX P σ id ts x s.data.toList=some f)(hside:f.side)(ty:TypeId){xv:Value}(hx:Rep (aA M₀ γ) γ w x xv):
  Out M₀ γ σ w ((do let v ← Builtin.append_ ts ty #[xv,.string s];pure (Next.value v):Sem Next).run P w) f.val f.ws:=by
 unfold EX at ha
 split at ha
 rotate_left
 ·cases ha
 rename_i e sz by' z0 nil es aI hts
 split at ha
 ·cases ha
 rename_i hc
 simp only[not_or,Bool.not_eq_false,Decidable.not_not] at hc
 obtain⟨c1,rfl,c2,c3,c4⟩:=hc
 have c4':es≠[]→z0=1:=fun h=>by
  rcases Decidable.em (z0=1) with q|q
  ·exact q
  ·exact absurd ⟨h,q⟩ c4
 obtain⟨i,hi,hz,hs1⟩:=OM c1
 have hu:=iV c2
 simp only[ac9] at hts
 obtain⟨t,ht0,he⟩:=hts
 obtain⟨i',ht,hi',hs,hb⟩:=fU he
 rw[hi] at hi';cases hi'
 have hts:ts=#[t,ts.getD 1 0]:=by
  have:ts.getD 0 0=t:=by simp[ag_,ht0]
  rw[this] at c3
  exact c3
 generalize ts.getD 1 0=u at *
 subst hb
 subst hts
 have akp:∃vs:List Value,vs.length=es.length * i.size∧(∀x∈es,x.length=i.size)∧(∀u∈vs,u.oneCell'=true)∧(∀(k j:Nat) x d u,es[k]?=some x→x[j]?=some d→vs[k * i.size+j]?=some u→Rep (aA M₀ γ) γ w d u)∧
   ((xv= .slice none 0 0∧es=[]∧nil=true)∨∃(a:Addr) (cap:Nat),nil=false∧xv= .slice (some a) es.length cap∧es.length≤cap∧(es≠[]→a.spot=none)∧(∀j u,vs[j]?=some u→w.cell? ⟨a.block,a.off+j,none⟩=some u)):=by
  rcases aZ hx with⟨rfl,rfl,hn⟩ | ⟨a,cap,vs,rfl,hn,hspot,hvs,hcap,hsz,hcell,hr,_⟩
  ·exact⟨[],by simp,by simp,by simp,by simp,.inl ⟨rfl,rfl,hn⟩⟩
  ·by_cases h0:es=[]
   ·subst h0
    have:vs=[]:=aky (by simpa using hvs)
    subst this
    exact⟨[],by simp,by simp,by simp,by simp,.inr ⟨a,cap,hn,rfl,hcap,hspot,by simp⟩⟩
   ·have hz0:=c4' h0
    rw[hz0,← hs1] at hvs hsz hr
    exact⟨vs,hvs,hsz,fun u hu=>by obtain⟨j,hj⟩:=aov hu;exact (hcell j u hj).2.2,hr,.inr ⟨a,cap,hn,rfl,hcap,hspot,fun j u hu=>(hcell j u hu).1⟩⟩
 obtain⟨vs,hvs,hsz,h1o,hr,hform⟩:=akp
 split at ha
 ·-- nothing comes in
  rename_i h0
  simp only[abr] at ha
  subst ha
  have h00:s.size=0:=by
   have:s.data.toList.length=s.size:=rfl
   rw[h0] at this;simpa using this.symm
  refine Out.same h (v:=xv) ?_ hx
  have hf:=Lib.run_firstCells_string (P:=P) w 1 s
  have hn:Lib.strCells s=[]:=aky (by rw[Lib.strCells_length];exact h00)
  rw[h00,hn] at hf
  have key:(Builtin.append_ #[t,u] ty #[xv,.string s]).run P w= .ok xv w:=by
   rcases hform with⟨rfl,_,_⟩ | ⟨a,cap,_,rfl,hcap,_⟩
   ·simp[Builtin.append_,run_underlying ht,run_underlying hu,sizeOf,typeInfo,hi,hs1,Builtin.lenOf,h00,hf]
   ·simp[Builtin.append_,run_underlying ht,run_underlying hu,sizeOf,typeInfo,hi,hs1,Builtin.lenOf,h00,hf,hcap,storeCells]
  rw[Sem.run_bind,key];rfl
 rename_i h0
 split at ha
 ·-- a aI
  rename_i t'
  split at ha
  rotate_left
  ·cases ha
  rename_i e' zz n hσ
  split at ha
  rotate_left
  ·cases ha
  rename_i hcc
  obtain⟨he2,hz1,rfl⟩:=hcc
  have he3:=he2.symm
  subst he3
  simp only[abr] at ha
  subst ha
  obtain⟨g,hg,hbr⟩:=h.hit hσ
  cases hbr with
  | @aI _ _ _ v xs ho=>
   have htip:jk γ (some t') es.length xv:=by
    rcases aZ hx with⟨rfl,rfl,_⟩ | ⟨a,cap,vs,rfl,_,_,_,_,_,_,_,ht⟩
    ·cases hx with
     |nilslice ht=>exact ht
    ·exact ht
   obtain⟨_,_,v',n',q1,q2,q3⟩:=htip t' rfl
   rw[hg] at q1;cases q1
   have hvx:=q3 rfl
   subst hvx
   rw[hz1,← hs1] at ho hg
   have hown:w.ownsRow 0 e i.size xv es.length vs:=by
    refine⟨hvs,?_⟩
    rcases ho.2 with h2 | ⟨gB,cap,cur,h2,h3,h4,h5,h6,h7,h8⟩
    ·exact .inl h2
    ·refine .inr ⟨gB,cap,cur,h2,h3,h4,h5,h6,h7,?_⟩
     rcases hform with⟨rfl,_,_⟩ | ⟨a,cap',_,hxv,hcap,hspot,hcell⟩
     ·cases h2
     ·rw[hxv] at h2
      cases h2
      apply List.ext_getElem?
      intro j
      by_cases hj:j<es.length * i.size
      ·have hlt:j<vs.length:=by omega
       have:=hcell j _ (abt hlt)
       simp only[ade] at this
       rw[cell_of_row w gB j cur e _ h4] at this
       rw[ag3,if_pos hj,abt hlt,akA]
       exact this
      ·rw[ag3,if_neg hj,al_ (by omega)]
   have hsd:(es.length+s.data.toList.length) * i.bytes≤140737488355328∧es.length+s.data.toList.length≤9223372036854775807:=hside
   obtain⟨v',w',γ',r1,r2,r3,r4⟩:=xR h ht hu hi hz hs1 ty t' xv es hsz vs hvs hown hr h1o (.inr hg) s h0 hsd.2 hsd.1
   rw[hs1] at r2 r4
   exact⟨v',w',γ',.inl (by rw[Sem.run_bind,r1];rfl),r2,r3,r4⟩
 ·split at ha
  rotate_left
  ·cases ha
  rename_i hnil
  subst hnil
  rcases hform with⟨rfl,rfl,_⟩ | ⟨_,_,hn,_⟩
  rotate_left
  ·cases hn
  simp only[abr] at ha
  subst ha
  have hsd:s.data.toList.length * i.bytes≤140737488355328∧s.data.toList.length≤9223372036854775807:=hside
  have akq:vs=[]:=aky (by simpa using hvs)
  subst akq
  obtain⟨v',w',γ',r1,r2,r3,r4⟩:=xR h ht hu hi hz hs1 ty id (.slice none 0 0) [] (by simp) [] (by simp) (World.ownsRow_nil w 0 e i.size) (by simp) (by simp) (.inl ⟨h.miss hid,hid,rfl,rfl⟩) s h0 (by simpa using hsd.2) (by simpa using hsd.1)
  simp only[acS,ade,abT] at r2 r4
  rw[hs1] at r2 r4
  exact⟨v',w',γ',.inl (by rw[Sem.run_bind,r1];rfl),r2,r3,r4⟩
theorem ads (h:Store M₀ γ σ w){id:Nat}(hid:σ id=none){ts:Array TypeId}{x y:D}{f:Eff}(ha:Sm P σ id ts x y=some f)(hside:f.side){xv yv:Value}(hx:Rep (aA M₀ γ) γ w x xv)(hy:Rep (aA M₀ γ) γ w y yv)(ty:TypeId):
  Out M₀ γ σ w (((Builtin.append_ ts ty #[xv,yv]) >>= fun x=>pure (Next.value x)).run P w) f.val f.ws:=by
 unfold Sm at ha
 split at ha
 ·cases hy with
  |str s=>exact adq h hid ha hside ty hx
 ·exact XT h hid ha hside hx hy ty
theorem adt (ty:TypeId)(ts:Array TypeId){x y d:D}(hd:minD x y=some d){M:Nat→Nat→Prop}{xv yv:Value}(hx:Rep M γ w x xv)(hy:Rep M γ w y yv):∃v,(Builtin.min_ ts ty #[xv,yv]).run P w= .ok v w∧Rep M γ w d v:=by
 unfold minD at hd
 split at hd
 ·cases hx;cases hy;simp only[abr] at hd;subst hd
  exact⟨_,rfl,.int _ _⟩
 ·cases hd
theorem adu (ty:TypeId)(ts:Array TypeId){x y d:D}(hd:maxD x y=some d){M:Nat→Nat→Prop}{xv yv:Value}(hx:Rep M γ w x xv)(hy:Rep M γ w y yv):∃v,(Builtin.max_ ts ty #[xv,yv]).run P w= .ok v w∧Rep M γ w d v:=by
 unfold maxD at hd
 split at hd
 ·cases hx;cases hy;simp only[abr] at hd;subst hd
  exact⟨_,rfl,.int _ _⟩
 ·cases hd
end
end Go.Id
namespace Go.Id
open Go
theorem qU {P:Program}{t e:TypeId}(h:mapD P t=some e):∃k,P.underlying t=some (.map k e)∧P.underlying k=some .string:=by
 unfold mapD at h
 split at h
 ·rename_i k e' hu
  split at h
  ·rename_i hk
   simp only[if_true,abr] at h;subst h
   exact⟨k,hu,hk⟩
  ·simp at h
 ·cases h
theorem mk_data (s:ByteArray):(⟨s.data.toList.toArray⟩:ByteArray)=s:=by cases s;simp
def UK (R:D→Value→Prop):List MapEntry→List (List UInt8 × D × Nat)→Prop
 | [],[]=>True
 |e::en,(k,d,n)::es=>e.key= .string ⟨k.toArray⟩∧e.born=n∧R d e.val∧UK R en es
 | _,_=>False
theorem UK.mono {R R':D→Value→Prop}(hR:∀d v,R d v→R' d v):∀{en es},UK R en es→UK R' en es
 | [],[],_=>trivial
 |e::en,(k,d,n)::es,⟨h1,h2,h3,h4⟩=>⟨h1,h2,hR _ _ h3,UK.mono hR h4⟩
 | [],_::_,h=>h.elim
 | _::_,[],h=>h.elim
theorem adv {R:D→Value→Prop}:∀{en:List MapEntry} {es:List (List UInt8 × D × Nat)},en.length=es.length→
  (∀(i:Nat) e k d n,en[i]?=some e→es[i]?=some (k,d,n)→e.key= .string ⟨k.toArray⟩∧e.born=n∧R d e.val)→UK R en es
 | [],[],_,_=>trivial
 |e::en,(k,d,n)::es,hl,h=>by
  obtain⟨h1,h2,h3⟩:=h 0 e k d n rfl rfl
  exact⟨h1,h2,h3,adv (by simpa using hl) (fun i e k d n q1 q2=>h (i+1) e k d n (by simpa using q1) (by simpa using q2))⟩
 | [],_::_,hl,_=>by simp at hl
 | _::_,[],hl,_=>by simp at hl
theorem UK.out {R:D→Value→Prop}:∀{en:List MapEntry} {es:List (List UInt8 × D × Nat)},UK R en es→en.length=es.length∧
  (∀(i:Nat) e k d n,en[i]?=some e→es[i]?=some (k,d,n)→e.key= .string ⟨k.toArray⟩∧e.born=n∧R d e.val)
 | [],[],_=>⟨rfl,by simp⟩
 |e::en,(k,d,n)::es,⟨h1,h2,h3,h4⟩=>by
  obtain⟨r1,r2⟩:=UK.out h4
  refine⟨by simp[r1],fun i e' k' d' n' q1 q2=>?_⟩
  match i with
  | 0=>simp at q1 q2;obtain⟨rfl,rfl,rfl⟩:=q2;subst q1;exact⟨h1,h2,h3⟩
  |i+1=>exact r2 i e' k' d' n' (by simpa using q1) (by simpa using q2)
 | [],_::_,h=>h.elim
 | _::_,[],h=>h.elim
theorem UK.push {R:D→Value→Prop}:∀{en:List MapEntry} {es:List (List UInt8 × D × Nat)},UK R en es→∀(s:ByteArray) (x:D) (v:Value) (n:Nat),R x v→UK R (en++[{ key:= .string s,val:=v,born:=n }]) (es++[(s.data.toList,x,n)])
 | [],[],_,s,x,v,n,h=>⟨by rw[mk_data],rfl,h,trivial⟩
 |e::en,(k,d,m)::es,⟨h1,h2,h3,h4⟩,s,x,v,n,h=>⟨h1,h2,h3,UK.push h4 s x v n h⟩
 | [],_::_,h,_,_,_,_,_=>h.elim
 | _::_,[],h,_,_,_,_,_=>h.elim
theorem JV {R:D→Value→Prop}(s:ByteArray):∀(en:List MapEntry) (es:List (List UInt8 × D × Nat)) (i:Nat),UK R en es→
  (jL es s.data.toList=none∧Instr.findNow .string (.string s) en i=some none∧EZ es s.data.toList=es)∨
  ∃j e d,jL es s.data.toList=some d∧Instr.findNow .string (.string s) en i=some (some (i+j,e.val))∧en[j]?=some e∧e.key= .string s∧R d e.val∧
   (∀x v,R x v→UK R (en.modify j fun e=>{ e with key:= .string s,val:=v }) (Sr es s.data.toList x))∧UK R (en.eraseIdx j) (EZ es s.data.toList)
 | [],[],_,_=> .inl ⟨rfl,rfl,rfl⟩
 | [],_::_,_,h=>h.elim
 | _::_,[],_,h=>h.elim
 |e::en,(k,d,n)::es,i,⟨h1,h2,h3,h4⟩=>by
  by_cases hk:s.data.toList=k
  ·subst hk
   rw[mk_data] at h1
   refine .inr ⟨0,e,d,by simp[jL],by simp[Instr.findNow,Instr.sameNow,h1,(MapKept.bytes_beq s s).2 rfl],rfl,h1,h3,fun x v hx=>?_,?_⟩
   ·simp only[List.modify_zero_cons,Sr,if_true]
    exact⟨by rw[mk_data],h2,hx,h4⟩
   ·simp only[List.eraseIdx_zero,List.tail_cons,EZ,if_true];exact h4
  ·have hne:¬(s == (⟨k.toArray⟩:ByteArray))=true:=fun q=>hk (by rw[(MapKept.bytes_beq _ _).1 q])
   have hne':(s == (⟨k.toArray⟩:ByteArray))=false:=by simpa using hne
   rcases JV s en es (i+1) h4 with⟨r1,r2,r3⟩ | ⟨j,e',d',r1,r2,r3,r4,r5,r6,r7⟩
   ·exact .inl ⟨by simp[jL,hk,r1],by simp[Instr.findNow,Instr.sameNow,h1,hne',r2],by simp[EZ,hk,r3]⟩
   ·refine .inr ⟨j+1,e',d',by simp[jL,hk,r1],by simp[Instr.findNow,Instr.sameNow,h1,hne',r2];omega,by simpa using r3,r4,r5,fun x v hx=>?_,?_⟩
    ·simp only[List.modify_succ_cons,Sr,if_neg hk]
     exact⟨h1,h2,h3,r6 x v hx⟩
    ·simp only[List.eraseIdx_cons_succ,EZ,if_neg hk]
     exact⟨h1,h2,h3,r7⟩
section
variable {P:Program} {M₀:Base} {γ:Nat→Option G} {σ:Nat→Option bf} {w:World}
theorem U0 (h:Store M₀ γ σ w){b:Nat}(hb:σ b=none)(t:TypeId):
  Out M₀ γ σ w ((do let v ← Instr.makeMap t none;pure (Next.value v):Sem Next).run P w) (.map b) [(b,.map [] 0)]:=by
 have hv:=aW.fresh h hb (.box w.heap.size) (w.alloc (.map #[] 0)) rfl rfl rfl (by simp) (bP w _) (fun B hB=>by simp[G.block] at hB;omega)
 have hs:=h.change b (.map [] 0) (.box w.heap.size) _ hv (fun i gi B hi hg hB=>bP w _ B (h.lt hg hB)) (fun B hB=>by simp[G.block] at hB;omega) (.map #[] (heap_alloc_new w _) rfl (by simp))
 refine⟨.map (some w.heap.size),_,_,.inl ?_,hs,hv,.map (upd_same _ _ _)⟩
 simp[Instr.makeMap]
theorem JW (h:Store M₀ γ σ w){b B:Nat}(hg:γ b=some (.box B)){o:Obj}(hB:w.heap[B]?=some o)(en':Array MapEntry)(es':List (List UInt8 × D × Nat))(clock':Nat)
  (hrel:UK (Rep (aA M₀ γ) γ w) en'.toList es'):
  Store M₀ γ (upd σ b (some (.map es' clock'))) { w with heap:=w.heap.setIfInBounds B (.map en' clock')}∧aW (aA M₀ γ) γ w (aA M₀ γ) γ { w with heap:=w.heap.setIfInBounds B (.map en' clock')}:=by
 have hlt:B<w.heap.size:=(ag6.1 hB).1
 generalize hw':({ w with heap:=w.heap.setIfInBounds B (.map en' clock')}:World)=w'
 have hB':w'.heap[B]?=some (.map en' clock'):=by simp[← hw',hlt]
 have hother:∀k,k≠B→w'.heap[k]?=w.heap[k]?:=fun k hk=>by simp[← hw',Ne.symm hk]
 have hsize:w'.heap.size=w.heap.size:=by simp[← hw']
 have hM:∀o,aA M₀ γ B o:=fun o=> .inr ⟨b,_,hg,rfl⟩
 have hv:aW (aA M₀ γ) γ w (aA M₀ γ) γ w':=by
  refine⟨by rw[← hw'],by rw[← hw'],by rw[← hw'],by omega,fun B' o u hn hu=>?_,fun _ _ h _=>h,fun _ g h=>⟨g,h,G.le_refl g⟩,fun B' _ hn=>hother B' (fun e=>hn b _ hg (by rw[e];rfl)),fun i gi _ h h' _=>⟨i,gi,h,h'⟩⟩
  have:B'≠B:=fun e=>by subst e;exact hn (hM o)
  rw[World.cell?_of_block (w:=w) (w':=w') (by simpa using hother B' this)];exact hu
 have nO:upd γ b (some (.box B))=γ:=by funext i;by_cases hi:i=b <;> simp[upd,hi,hg]
 refine⟨?_,hv⟩
 obtain⟨r1,r2⟩:=(hrel.mono (fun d v hr=>hr.dA hv)).out
 have:=h.change b (.map es' clock') (.box B) w' (by rw[nO];exact hv) (fun i gi B2 hi hgi AA=>hother B2 (fun e=>hi (h.dist i b gi _ B2 hgi hg AA (by rw[e];rfl)))) (fun B' hB'=> .inr ⟨_,hg,hB'⟩)
  (.map en' hB' (by simpa using r1) (fun i e k d n q1 q2=>by rw[nO];exact r2 i e k d n (by simpa using q1) q2))
 rw[nO] at this
 exact this
theorem CU (h:Store M₀ γ σ w){b:Nat}{es:List (List UInt8 × D × Nat)}{clock:Nat}(hb:σ b=some (.map es clock)){v:Value}(hv:Rep (aA M₀ γ) γ w (.map b) v):
  ∃B en,γ b=some (.box B)∧v= .map (some B)∧w.heap[B]?=some (.map en clock)∧UK (Rep (aA M₀ γ) γ w) en.toList es:=by
 obtain⟨g,h2,h3⟩:=h.hit hb
 cases h3 with
 |map en hB hl hk=>
  cases hv with
  |map hγ=>
   rw[h2] at hγ;cases hγ
   exact⟨_,en,h2,rfl,hB,adv (by simpa using hl) (fun i e k d n q1 q2=>hk i e k d n (by simpa using q1) q2)⟩
theorem XU (h:Store M₀ γ σ w){b:Nat}{es:List (List UInt8 × D × Nat)}{clock:Nat}(hb:σ b=some (.map es clock)){v:Value}(hv:Rep (aA M₀ γ) γ w (.map b) v){t e:TypeId}(ht:mapD P t=some e)
  {z:D} (hz:zeroV P e=some z) (s:ByteArray) (ok:Bool):
  Out M₀ γ σ w ((do let v ← Instr.lookup t v (.string s) ok;pure (Next.value v):Sem Next).run P w)
   (if ok then .aQ [(jL es s.data.toList).getD z,.bool (jL es s.data.toList).isSome] else (jL es s.data.toList).getD z) []:=by
 obtain⟨k,h1,h2⟩:=qU ht
 obtain⟨B,en,g1,rfl,g2,g3⟩:=CU h hb hv
 unfold zeroV at hz
 simp only[abR,ac9] at hz
 obtain⟨zv,⟨i,hi,hiz⟩,rfl⟩:=hz
 have hzr:(zeroValue e).run P w= .ok zv w:=by simp[zeroValue,typeInfo,hi,hiz]
 have fin:∀(d:D) (u:Value) (o:Bool),(jL es s.data.toList).getD (jZ zv)=d→(jL es s.data.toList).isSome=o→Rep (aA M₀ γ) γ w d u→
   (Instr.lookup t (.map (some B)) (.string s) ok).run P w= .ok (if ok then .tuple #[u,.bool o] else u) w→Out M₀ γ σ w ((do let v ← Instr.lookup t (.map (some B)) (.string s) ok;pure (Next.value v):Sem Next).run P w)
   (if ok then .aQ [(jL es s.data.toList).getD (jZ zv),.bool (jL es s.data.toList).isSome] else (jL es s.data.toList).getD (jZ zv)) []:=by
  intro d u o e1 e2 hr hrun
  rw[e1,e2]
  refine Out.same h (by rw[Sem.run_bind,hrun];rfl) ?_
  cases ok
  ·exact hr
  ·refine .aQ rfl (fun i d v h1 h2=>?_)
   match i with
   | 0=>simp at h1 h2;subst h1;subst h2;exact hr
   | 1=>simp at h1 h2;subst h1;subst h2;exact .bool _
   |i+2=>simp at h1
 have hck:=fun em=>MapKept.run_checkKey (P:=P) (w:=w) (d:= .string) (k:= .string s) h2 trivial em 9999
 rcases JV s en.toList es 0 g3 with⟨r1,r2,_⟩ | ⟨j,e',d',r1,r2,r3,r4,r5,_⟩
 ·refine fin (jZ zv) zv false (by rw[r1];rfl) (by rw[r1];rfl) (ku _ _) ?_
  simp[Instr.lookup,run_underlying h1,MapKept.run_getObj_map g2,hck,MapKept.run_findKey h2 r2,hzr,Result.andThen]
 ·refine fin d' e'.val true (by rw[r1];rfl) (by rw[r1];rfl) r5 ?_
  simp[Instr.lookup,run_underlying h1,MapKept.run_getObj_map g2,hck,MapKept.run_findKey h2 r2,Result.andThen]
theorem KC (h:Store M₀ γ σ w){v:Value}(hv:Rep (aA M₀ γ) γ w .bI v){t e:TypeId}(ht:mapD P t=some e){z:D}(hz:zeroV P e=some z)(s:ByteArray)(ok:Bool):
  Out M₀ γ σ w ((do let v ← Instr.lookup t v (.string s) ok;pure (Next.value v):Sem Next).run P w) (if ok then .aQ [z,.bool false] else z) []:=by
 obtain⟨k,h1,h2⟩:=qU ht
 cases hv
 unfold zeroV at hz
 simp only[abR,ac9] at hz
 obtain⟨zv,⟨i,hi,hiz⟩,rfl⟩:=hz
 have hzr:(zeroValue e).run P w= .ok zv w:=by simp[zeroValue,typeInfo,hi,hiz]
 have hck:=fun em=>MapKept.run_checkKey (P:=P) (w:=w) (d:= .string) (k:= .string s) h2 trivial em 9999
 have hf:=MapKept.run_findKey (P:=P) (w:=w) (d:= .string) (k:= .string s) (l:=[]) h2 rfl
 refine Out.same h (v:=if ok then .tuple #[zv,.bool false] else zv) ?_ ?_
 ·rw[Sem.run_bind]
  have:(Instr.lookup t (.map none) (.string s) ok).run P w= .ok (if ok then .tuple #[zv,.bool false] else zv) w:=by
   simp[Instr.lookup,run_underlying h1,hck,hf,hzr,Result.andThen]
  rw[this];rfl
 ·cases ok
  ·exact ku _ _
  ·refine .aQ rfl (fun i d v h1 h2=>?_)
   match i with
   | 0=>simp at h1 h2;subst h1;subst h2;exact ku _ _
   | 1=>simp at h1 h2;subst h1;subst h2;exact .bool _
   |i+2=>simp at h1
theorem OO (h:Store M₀ γ σ w){b:Nat}{es:List (List UInt8 × D × Nat)}{clock:Nat}(hb:σ b=some (.map es clock)){v:Value}(hv:Rep (aA M₀ γ) γ w (.map b) v){t e:TypeId}(ht:mapD P t=some e)
  (s:ByteArray) {x:D} {xv:Value} (hx:Rep (aA M₀ γ) γ w x xv):
  Out M₀ γ σ w ((do Instr.mapUpdate t v (.string s) xv;pure Next.skip:Sem Next).run P w) .junk [(b,.map (Jy es clock s.data.toList x) (Kt es clock s.data.toList))]:=by
 obtain⟨k,h1,h2⟩:=qU ht
 obtain⟨B,en,g1,rfl,g2,g3⟩:=CU h hb hv
 have hck:=fun em=>MapKept.run_checkKey (P:=P) (w:=w) (d:= .string) (k:= .string s) h2 trivial em 9999
 rcases JV s en.toList es 0 g3 with⟨r1,r2,_⟩ | ⟨j,e',d',r1,r2,r3,r4,r5,r6,_⟩
 ·obtain⟨s1,e1⟩:=JW h g1 g2 (en.push { key:= .string s,val:=xv,born:=clock }) (es++[(s.data.toList,x,clock)]) (clock+1) (by rw[Array.toList_push];exact g3.push s x xv clock hx)
  refine⟨undef,_,γ,.inr ⟨?_,rfl⟩,by simp only[Jy,Kt,r1];exact s1,e1,.junk _⟩
  simp[Instr.mapUpdate,run_underlying h1,MapKept.run_getObj_map g2,hck,MapKept.run_findKey h2 r2,MapKept.run_setObj_map _ g2,Result.andThen]
 ·obtain⟨s1,e1⟩:=JW h g1 g2 (en.modify j fun e=>{ e with key:= .string s,val:=xv }) (Sr es s.data.toList x) clock (by rw[Array.toList_modify];exact r6 x xv hx)
  refine⟨undef,_,γ,.inr ⟨?_,rfl⟩,by simp only[Jy,Kt,r1];exact s1,e1,.junk _⟩
  have hj:en[j]?=some e':=by simpa using r3
  have hst:=MapKept.run_keyThatStays (P:=P) (w:=w) (d:= .string) (k:= .string s) trivial
  simp[Instr.mapUpdate,run_underlying h1,MapKept.run_getObj_map g2,hck,MapKept.run_findKey h2 r2,hj,r4,hst,MapKept.run_setObj_map _ g2,Result.andThen]
theorem XV (h:Store M₀ γ σ w){b:Nat}{es:List (List UInt8 × D × Nat)}{clock:Nat}(hb:σ b=some (.map es clock)){v:Value}(hv:Rep (aA M₀ γ) γ w (.map b) v){t e:TypeId}(ht:mapD P t=some e)
  (s:ByteArray) (ts:Array TypeId) (hts:ts[0]?=some t) (ty:TypeId):
  Out M₀ γ σ w ((do let v ← Builtin.delete_ ts ty #[v,.string s];pure (Next.value v):Sem Next).run P w) (.aQ []) [(b,.map (EZ es s.data.toList) clock)]:=by
 obtain⟨k,h1,h2⟩:=qU ht
 obtain⟨B,en,g1,rfl,g2,g3⟩:=CU h hb hv
 have hck:=fun em=>MapKept.run_checkKey (P:=P) (w:=w) (d:= .string) (k:= .string s) h2 trivial em 9999
 have hr:∀w',Rep (aA M₀ γ) γ w' (.aQ []) (.tuple #[]):=fun w'=> .aQ rfl (by simp)
 rcases JV s en.toList es 0 g3 with⟨r1,r2,r3⟩ | ⟨j,e',d',r1,r2,r3,r4,r5,r6,r7⟩
 ·obtain⟨s1,e1⟩:=JW h g1 g2 en es clock g3
  rw[r3]
  refine⟨.tuple #[],_,γ,.inl ?_,s1,e1,hr _⟩
  simp[Builtin.delete_,hts,run_underlying h1,MapKept.run_getObj_map g2,hck,MapKept.run_findKey h2 r2,MapKept.run_setObj_map _ g2,Result.andThen]
 ·obtain⟨s1,e1⟩:=JW h g1 g2 (en.eraseIdxIfInBounds j) (EZ es s.data.toList) clock (by rw[Array.toList_eraseIdxIfInBounds];exact r7)
  refine⟨.tuple #[],_,γ,.inl ?_,s1,e1,hr _⟩
  simp[Builtin.delete_,hts,run_underlying h1,MapKept.run_getObj_map g2,hck,MapKept.run_findKey h2 r2,MapKept.run_setObj_map _ g2,Result.andThen]
theorem adx (h:Store M₀ γ σ w){b:Nat}{es:List (List UInt8 × D × Nat)}{clock:Nat}(hb:σ b=some (.map es clock)){v:Value}(hv:Rep (aA M₀ γ) γ w (.map b) v){t e:TypeId}(ht:mapD P t=some e)(ty:TypeId):
  Out M₀ γ σ w ((do let v ← Builtin.len_ #[t] ty #[v];pure (Next.value v):Sem Next).run P w) (.int .i64 es.length) []:=by
 obtain⟨k,h1,h2⟩:=qU ht
 obtain⟨B,en,g1,rfl,g2,g3⟩:=CU h hb hv
 have hl:en.size=es.length:=by simpa using g3.out.1
 refine Out.same h (v:= .int .i64 en.size) ?_ (by rw[hl];exact .int _ _)
 simp[Builtin.len_,run_underlying h1,MapKept.run_getObj_map g2,goInt]
theorem XW (h:Store M₀ γ σ w){b i:Nat}{es:List (List UInt8 × D × Nat)}{clock:Nat}(hb:σ b=some (.map es clock))(hi:σ i=none){v:Value}(hv:Rep (aA M₀ γ) γ w (.map b) v){t e:TypeId}(ht:mapD P t=some e):
  Out M₀ γ σ w ((do let v ← Instr.range t v;pure (Next.value v):Sem Next).run P w) (.ref i 0) [(i,.dZ b clock [] clock)]:=by
 obtain⟨k,h1,h2⟩:=qU ht
 obtain⟨B,en,g1,rfl,g2,g3⟩:=CU h hb hv
 have hbi:b≠i:=fun q=>by subst q;rw[hb] at hi;cases hi
 have hv:=aW.fresh h hi (.iter w.heap.size) (w.alloc (.mapIter (some B) clock #[] clock)) rfl rfl rfl (by simp) (bP w _) (fun B hB=>by simp[G.block] at hB;omega)
 have hs:=h.change i (.dZ b clock [] clock) (.iter w.heap.size) _ hv (fun i gi B hi hg hB=>bP w _ B (h.lt hg hB)) (fun B hB=>by simp[G.block] at hB;omega) (.dZ (heap_alloc_new w _) ((bn _ _ hbi).trans g1))
 refine⟨.pointer (some ⟨w.heap.size,0,none⟩),_,_,.inl ?_,hs,hv,.ref (.inr (.inr (upd_same _ _ _)))⟩
 simp[Instr.range,run_underlying h1,MapKept.run_getObj_map g2]
end
end Go.Id
