import Derived.Test.YtekopfoidhhedaaGreatDoorG00
import Derived.Lib.AppendStr
import Derived.Laws.Strings
import Derived.Laws.StructEq
set_option linter.unusedVariables false
set_option linter.unusedSimpArgs false
set_option linter.unnecessarySimpa false
namespace Go.Id
open Go
section
variable {P:Program} {M₀:Base} {γ:Nat→Option G} {σ:Nat→Option bf} {w:World}
theorem aZ {M:Nat→Nat→Prop}{sz:Nat}{nil:Bool}{es:List (List D)}{aI:Option Nat}{v:Value}(h:Rep M γ w (.slice sz nil es aI) v):
  (v= .slice none 0 0∧es=[]∧nil=true)∨
  ∃(a:Addr) (cap:Nat) (vs:List Value),v= .slice (some a) es.length cap∧nil=false∧(es≠[]→a.spot=none)∧vs.length=es.length * sz∧es.length≤cap∧(∀e∈es,e.length=sz)∧
   (∀j u,vs[j]?=some u→w.cell? ⟨a.block,a.off+j,none⟩=some u∧¬M a.block (a.off+j)∧u.oneCell'=true)∧
   (∀i j e d u,es[i]?=some e→e[j]?=some d→vs[i * sz+j]?=some u→Rep M γ w d u)∧jk γ aI es.length (.slice (some a) es.length cap):=by
 cases h with
 |nilslice ht=>exact .inl ⟨rfl,rfl,rfl⟩
 | @slice _ _ _ a cap vs hsz hvs hspot hc hr hcap ht=>exact .inr ⟨a,cap,vs,rfl,rfl,hspot,hvs,hcap,hsz,hc,hr,ht⟩
theorem pF {a:Addr}(h:a.spot=none)(j:Nat):a.add j=⟨a.block,a.off+j,none⟩:=by
 unfold Addr.add;split
 ·subst_vars;cases a;simp_all
 ·rfl
theorem pG {e:TypeId}(h:iK P e=true):∃i z,P.info? e=some i∧i.zero=some z∧z.cells.size=i.size:=by
 unfold iK at h
 split at h
 ·rename_i i hi
  split at h
  ·rename_i z hz;exact⟨i,z,hi,hz,by simpa using h⟩
  ·cases h
 ·cases h
theorem aa7 {t:TypeId}{n:Nat}(h:adi P t=some n):∃e i,P.underlying t=some (.array n e)∧P.info? e=some i∧i.size=1∧j_ P e=some false:=by
 unfold adi at h
 split at h
 ·rename_i m e hu
  simp only[ac9] at h
  obtain⟨i,hi,h⟩:=h
  split at h
  ·cases h
  ·cases h
  ·rename_i u h1 h2 hq
   split at h
   ·rename_i hs
    cases h
    refine⟨e,i,hu,hi,hs,?_⟩
    unfold j_
    rw[hq]
    cases u <;> first|rfl|exact absurd rfl (h1 _)|exact absurd rfl (h2 _ _)
   ·cases h
  ·cases h
 ·cases h
theorem Fa {t:TypeId}{n sz:Nat}(h:OJ P t=some (n,sz)):∃e i,P.underlying t=some (.array n e)∧P.info? e=some i∧i.size=sz:=by
 unfold OJ at h
 split at h
 ·rename_i m e' he
  cases hi:P.info? e' with
  |none=>rw[hi] at h;cases h
  |some i=>
   rw[hi] at h;simp at h
   obtain⟨rfl,h2⟩:=h
   exact⟨e',i,he,hi,h2⟩
 ·cases h
theorem fU {t e:TypeId}{sz by':Nat}(h:cu P t=some (e,sz,by')):∃i,P.underlying t=some (.slice e)∧P.info? e=some i∧i.size=sz∧i.bytes=by':=by
 unfold cu at h
 split at h
 ·rename_i e' he
  cases hi:P.info? e' with
  |none=>rw[hi] at h;cases h
  |some i=>
   rw[hi] at h;simp at h
   obtain⟨rfl,h2,h3⟩:=h
   exact⟨i,he,hi,h2,h3⟩
 ·cases h
theorem CQ {M:Nat→Nat→Prop}{B cap sz:Nat}{cur:Array Value}{e:TypeId}{fz:Nat × Nat}(hB:w.heap[B]?=some (.cells cur e fz)){es:List (List D)}{aI:Option Nat}(hsz:∀x∈es,x.length=sz)(vs:List Value)
  (hvs:vs.length=es.length * sz) (htake:cur.toList.take (es.length * sz)=vs) (h1:∀u∈vs,u.oneCell'=true) (hM:∀off,off<es.length * sz→¬M B off)
  (hr:∀i j e d u,es[i]?=some e→e[j]?=some d→vs[i * sz+j]?=some u→Rep M γ w d u) (hcap:es.length≤cap)
  (ht:jk γ aI es.length (.slice (some ⟨B,0,none⟩) es.length cap)):Rep M γ w (.slice sz false es aI) (.slice (some ⟨B,0,none⟩) es.length cap):=by
 refine .slice vs hsz hvs (fun _=>rfl) (fun j v hv=>?_) hr hcap ht
 have hj:j<es.length * sz:=by
  have:=(acR.1 hv).1;omega
 refine⟨?_,by simpa using hM j hj,h1 v (ac8 hv)⟩
 simp only[ade]
 rw[cell_of_row w B j cur e fz hB]
 rw[← htake,ag3,if_pos hj] at hv
 simpa using hv
theorem UU {M:Nat→Nat→Prop}{sz:Nat}{es es':List (List D)}{vs vs':List Value}(hvs:vs.length=es.length * sz)
  (hr:∀i j e d u,es[i]?=some e→e[j]?=some d→vs[i * sz+j]?=some u→Rep M γ w d u)
  (hr':∀i j e d u,es'[i]?=some e→e[j]?=some d→vs'[i * sz+j]?=some u→Rep M γ w d u):
  ∀i j e d u,(es++es')[i]?=some e→e[j]?=some d→(vs++vs')[i * sz+j]?=some u→(e.length=sz)→Rep M γ w d u:=by
 intro i j e d u he hd hu hl
 have hj:j<sz:=by rw[← hl];exact (acR.1 hd).1
 by_cases hi:i<es.length
 ·rw[ag2 hi] at he
  have:i * sz+j<vs.length:=by
   rw[hvs]
   calc i * sz+j<i * sz+sz:=by omega
    _=(i+1) * sz:=by rw[akU];omega
    _≤es.length * sz:=aj2 _ hi
  rw[ag2 this] at hu
  exact hr i j e d u he hd hu
 ·rw[ag7 (by omega)] at he
  have h1:es.length * sz≤i * sz:=aj2 _ (by omega)
  rw[ag7 (by omega)] at hu
  have h2:i * sz+j - vs.length=(i - es.length) * sz+j:=by rw[hvs,Nat.sub_mul];omega
  rw[h2] at hu
  exact hr' _ j e d u he hd hu
theorem GX {m b:Nat}(h:m * b≤140737488355328):m * b≤281474976710656:=by omega
theorem Ku {t e:TypeId}{i:TypeInfo}{z:Value}(ht:P.underlying t=some (.slice e))(hi:P.info? e=some i)(hz:i.zero=some z)(hzs:z.cells.size=i.size)(ty:TypeId)
  (v:Value) (n:Nat) (xs:List Value) (hown:w.ownsRow 0 e i.size v n xs) (a:Addr) (m c:Nat) (news:List Value) (hl:news.length=m * i.size)
  (hnews:∀j u,news[j]?=some u→w.cell? (a.add j)=some u) (h1:∀u∈news,u.oneCell'=true) (hm:0<m)
  (h63:n+m≤9223372036854775807) (hb:(n+m) * i.bytes≤140737488355328):
  ∃B cap cur w',(Builtin.append_ #[t,t] ty #[v,.slice (some a) m c]).run P w= .ok (.slice (some ⟨B,0,none⟩) (n+m) cap) w'∧
   w'.os=w.os∧w'.tape=w.tape∧w'.output=w.output∧w.heap.size≤w'.heap.size∧w'.heap[B]?=some (.cells cur e (0,0))∧cur.size=cap * i.size∧n+m≤cap∧cap≤maxLen∧
   cur.toList.take ((n+m) * i.size)=xs++news∧
   ((B=w.heap.size∧(∀k,k<w.heap.size→w'.heap[k]?=w.heap[k]?))∨
    (v.ownBlock=some B∧(∀k,k≠B→w'.heap[k]?=w.heap[k]?))):=by
 have hml:maxLen=9223372036854775807:=rfl
 have hlen:(xs++news).length=(n+m) * i.size:=by rw[abf,hown.1,hl,akU]
 rcases hown.2 with⟨rfl,rfl⟩ | ⟨g,cap,cur,rfl,_,hg,hnc,hcm,hcs,htake⟩
 ·have hx:xs=[]:=aky (by simpa using hown.1)
  subst hx
  simp only[ade,abT] at *
  have hr:=run_append_nil (P:=P) w t ty e i z ht hi hz a m c news hl hnews hm (by omega) (GX hb)
  have hge:=grownCap_ge w m 0 e
  refine⟨_,_,_,_,hr,rfl,rfl,rfl,by simp,heap_alloc_new w.drew _,?_,hge,grownCap_le_maxLen w m 0 e (by omega),?_,.inl ⟨rfl,fun k hk=>heap_alloc_old w.drew _ k hk⟩⟩
  ·simp only[Array.size_append,aoO,size_zeroCells,hzs,hl,← akU];congr 1;omega
  ·rw[aoB,al9,← hl];exact List.take_left
 ·by_cases hroom:n+m≤cap
  ·have hfit:n * i.size+news.length≤cur.size:=by rw[hl,hcs,← akU];exact aj2 _ hroom
   have hr:=run_append_room (P:=P) w t ty e i ht hi g n cap cur hg a m c news hl hnews h1 hroom hfit
   refine⟨g,cap,_,_,hr,rfl,rfl,rfl,by simp,setRow_heap w g cur _ e _ hg,?_,hroom,hcm,?_,.inr ⟨rfl,fun k hk=>setRow_other w g k _ hk⟩⟩
   ·simp only[aoO,abf,adg,aht,alx];omega
   ·rw[htake,al9,← hlen];exact List.take_left
  ·have hfits:=growslice_fits (need:=n+m) (old:=cap) (bytes:=i.bytes) (by omega) hb
   have holds:∀j u,xs[j]?=some u→w.cell? ((⟨g,0,none⟩:Addr).add j)=some u:=hown.cells rfl
   have hr:=run_append_grow (P:=P) w t ty e i z ht hi hz ⟨g,0,none⟩ n cap xs hown.1 holds a m c news hl hnews (by omega) (by omega) hfits
   have hge:=grownCap_ge w (n+m) cap e
   refine⟨_,_,_,_,hr,rfl,rfl,rfl,by simp,heap_alloc_new w.drew _,?_,hge,grownCap_le_maxLen w (n+m) cap e (by omega),?_,.inl ⟨rfl,fun k hk=>heap_alloc_old w.drew _ k hk⟩⟩
   ·simp only[Array.size_append,aoO,size_zeroCells,hzs,hown.1,hl,← akU];congr 1;omega
   ·rw[aoB,aoB,al9,al9,List.append_assoc,← List.append_assoc,← hlen];exact List.take_left
theorem xO {t e:TypeId}{i:TypeInfo}(ht:P.underlying t=some (.slice e))(hi:P.info? e=some i)(ty:TypeId)(v:Value){base:Option Addr}{n cap:Nat}(hv:v= .slice base n cap)(hn:n≤cap)(b2:Option Addr)(c:Nat):
  (Builtin.append_ #[t,t] ty #[v,.slice b2 0 c]).run P w= .ok v w:=by
 subst hv
 cases base <;> cases b2 <;> simp[Builtin.append_,run_underlying ht,sizeOf,typeInfo,hi,Builtin.lenOf,Builtin.firstCells,loadCells,loadCellsFrom,hn,storeCells]
theorem Store.aa8 (h:Store M₀ γ σ w){b:Nat}{g:G}(hg:γ b=some g){B off:Nat}(hB:g.block=some B)(hw:¬g.wr B off):¬aA M₀ γ B off:=by
 rintro (hm | ⟨i,gi,hi,hwi⟩)
 ·exact h.apart b g B off hg hB hm
 ·have:=h.dist b i g gi B hg hi hB (G.jR hwi)
  subst this
  rw[hg] at hi;cases hi
  exact hw hwi
theorem CS (h:Store M₀ γ σ w){e:TypeId}{i:TypeInfo}
  (b:Nat) (v:Value) (es es':List (List D)) (hsz:∀x∈es,x.length=i.size) (vs:List Value) (hvs:vs.length=es.length * i.size)
  (hown:w.ownsRow 0 e i.size v es.length vs) (hes:∀(k j:Nat) x d u,es[k]?=some x→x[j]?=some d→vs[k * i.size+j]?=some u→Rep (aA M₀ γ) γ w d u)
  (h1o:∀u∈vs,u.oneCell'=true)
  (hb:(γ b=none∧σ b=none∧v.ownBlock=none∧es=[])∨γ b=some (.aI i.size e v es.length))
  (hm:0<es'.length) (vs':List Value) (hvs':vs'.length=es'.length * i.size) (hsz':∀x∈es',x.length=i.size) (h1n:∀u∈vs',u.oneCell'=true)
  (hr':∀(k j:Nat) x d u,es'[k]?=some x→x[j]?=some d→vs'[k * i.size+j]?=some u→Rep (aA M₀ γ) γ w d u) {r:Result Value}
  (happ:∃B cap cur w',r= .ok (.slice (some ⟨B,0,none⟩) (es.length+es'.length) cap) w'∧
   w'.os=w.os∧w'.tape=w.tape∧w'.output=w.output∧w.heap.size≤w'.heap.size∧w'.heap[B]?=some (.cells cur e (0,0))∧cur.size=cap * i.size∧es.length+es'.length≤cap∧cap≤maxLen∧
   cur.toList.take ((es.length+es'.length) * i.size)=vs++vs'∧
   ((B=w.heap.size∧(∀k,k<w.heap.size→w'.heap[k]?=w.heap[k]?))∨
    (v.ownBlock=some B∧(∀k,k≠B→w'.heap[k]?=w.heap[k]?)))):
  ∃v' w' γ',r= .ok v' w'∧Store M₀ γ' (upd σ b (some (.aI e i.size (es.length+es'.length)))) w'∧aW (aA M₀ γ) γ w (aA M₀ γ') γ' w'∧
   Rep (aA M₀ γ') γ' w' (.slice i.size false (es++es') (some b)) v':=by
 obtain⟨B,cap,cur,w',hrun,e1,e2,e3,e4,hB,hcs,hcap,hcm,htake,xP⟩:=happ
 have hlen:(es++es').length=es.length+es'.length:=abf
 have hBlt:B<w'.heap.size:=(ag6.1 hB).1
 have hwr:∀B' off,(G.aI i.size e (.slice (some ⟨B,0,none⟩) (es.length+es'.length) cap) (es.length+es'.length)).wr B' off→B' < w.heap.size→aA M₀ γ B' off:=by
  rintro B' off ⟨hb1,hb2⟩ hlt
  simp only[Value.ownBlock,abr] at hb1
  subst hb1
  rcases xP with⟨rfl,_⟩ | ⟨hob,_⟩
  ·omega
  ·rcases hb with⟨_,_,hn,_⟩|hg
   ·rw[hn] at hob;cases hob
   ·refine .inr ⟨b,_,hg,hob,ag9 (aj2 _ (Nat.le_add_right _ _)) hb2⟩
 have hcellB:∀off u,off<es.length * i.size→w.cell? ⟨B,off,none⟩=some u→v.ownBlock=some B→w'.cell? ⟨B,off,none⟩=some u:=by
  intro off u hoff hu hob
  have hx:vs[off]?=some u:=by
   have hl:off<vs.length:=by omega
   have h2:=hown.cells hob off _ (abt hl)
   rw[Addr.add_lit] at h2
   simp only[ade] at h2
   rw[hu] at h2
   rw[abt hl]
   exact h2.symm
  rw[cell_of_row w' B off cur e _ hB]
  have h3:(vs++vs')[off]?=some u:=by rw[ag2 (by omega)];exact hx
  rw[← htake,ag3] at h3
  split at h3
  ·simpa using h3
  ·cases h3
 have hv:aW (aA M₀ γ) γ w (aA M₀ (upd γ b (some (.aI i.size e (.slice (some ⟨B,0,none⟩) (es.length+es'.length) cap) (es.length+es'.length)))))
   (upd γ b (some (.aI i.size e (.slice (some ⟨B,0,none⟩) (es.length+es'.length) cap) (es.length+es'.length)))) w':=by
  refine⟨e1,e2,e3,e4,fun B' off u hM hu=>?_,fun B' off hM hlt=>?_,fun j gj hj=>?_,fun B' hlt hM=>?_,fun j gj B' hj hB' hlt=>?_⟩
  ·rcases xP with⟨_,hall⟩ | ⟨hob,hall⟩
   ·rw[World.cell?_of_block (w:=w) (w':=w') (by simpa using hall B' (cell_lt hu))];exact hu
   ·by_cases hBB:B'=B
    ·subst hBB
     have hoff:off<es.length * i.size:=by
      rcases hb with⟨_,_,hn,_⟩|hg
      ·rw[hn] at hob;cases hob
      ·rcases apG off (es.length * i.size) with h|h
       ·exact h
       ·exact absurd (Or.inr ⟨b,_,hg,hob,h⟩) hM
     exact hcellB off u hoff hu hob
    ·rw[World.cell?_of_block (w:=w) (w':=w') (by simpa using hall B' hBB)];exact hu
  ·rcases aA.XJ hM with hM|hM
   ·exact hM
   ·exact hwr B' off hM hlt
  ·by_cases hjb:j=b
   ·subst hjb
    rcases hb with⟨hn,_⟩|hg
    ·rw[hn] at hj;cases hj
    ·rw[hg] at hj;cases hj
     exact⟨_,upd_same _ _ _,_,_,rfl,Nat.le_add_right _ _,fun h=>by omega⟩
   ·exact⟨gj,by rw[bn _ _ hjb];exact hj,G.le_refl gj⟩
  ·rcases xP with⟨_,hall⟩ | ⟨hob,hall⟩
   ·exact hall B' hlt
   ·refine hall B' (fun hBB=>?_)
    subst hBB
    rcases hb with⟨_,_,hn,_⟩|hg
    ·rw[hn] at hob;cases hob
    ·exact hM b _ hg hob
  ·by_cases hjb:j=b
   ·subst hjb
    rw[upd_same] at hj;cases hj
    simp only[G.block,Value.ownBlock,abr] at hB'
    subst hB'
    rcases xP with⟨rfl,_⟩ | ⟨hob,_⟩
    ·omega
    ·rcases hb with⟨_,_,hn,_⟩|hg
     ·rw[hn] at hob;cases hob
     ·exact⟨_,_,hg,hob⟩
   ·rw[bn _ _ hjb] at hj;exact⟨j,gj,hj,hB'⟩
 have hst:Store M₀ (upd γ b (some (.aI i.size e (.slice (some ⟨B,0,none⟩) (es.length+es'.length) cap) (es.length+es'.length)))) (upd σ b (some (.aI e i.size (es.length+es'.length)))) w':=by
  refine h.change b _ _ w' hv (fun k gk B' hk hgk hB'=>?_) (fun B' hB'=>?_) ?_
  ·rcases xP with⟨_,hall⟩ | ⟨hob,hall⟩
   ·exact hall B' (h.lt hgk hB')
   ·refine hall B' (fun hBB=>?_)
    subst hBB
    rcases hb with⟨_,_,hn,_⟩|hg
    ·rw[hn] at hob;cases hob
    ·exact hk (h.dist k b _ _ _ hgk hg hB' hob)
  ·simp only[G.block,Value.ownBlock,abr] at hB'
   subst hB'
   rcases xP with⟨rfl,_⟩ | ⟨hob,_⟩
   ·exact .inl (ag4 _)
   ·rcases hb with⟨_,_,hn,_⟩|hg
    ·rw[hn] at hob;cases hob
    ·exact .inr ⟨_,hg,hob⟩
  ·exact .aI (vs++vs') ⟨by rw[abf,hvs,hvs',akU],.inr ⟨B,cap,cur,rfl,ada _,hB,hcap,hcm,hcs,htake⟩⟩
 refine⟨_,w',_,hrun,hst,hv,?_⟩
 have hsz2:∀x∈es++es',x.length=i.size:=fun x hx=>(List.mem_append.1 hx).elim (hsz x) (hsz' x)
 refine (fun key=>by rw[hlen] at key;exact key:Rep _ _ _ _ (.slice (some ⟨B,0,none⟩) (es++es').length cap)→_) ?_
 refine CQ hB hsz2 (vs++vs') (by rw[abf,abf,hvs,hvs',akU]) (by rw[hlen];exact htake) (fun u hu=>(List.mem_append.1 hu).elim (h1o u) (h1n u)) (fun off hoff=>?_) (fun k j x d u hx hd hu=>?_) (by rw[hlen];exact hcap) ?_
 ·refine hst.aa8 (upd_same _ _ _) (B:=B) rfl ?_
  rintro ⟨_,h2⟩
  rw[hlen] at hoff
  omega
 ·exact UU hvs (fun i j e d u a1 a2 a3=>(hes i j e d u a1 a2 a3).dA hv) (fun i j e d u a1 a2 a3=>(hr' i j e d u a1 a2 a3).dA hv) k j x d u hx hd hu (hsz2 x (ac8 hx))
 ·intro t' ht'
  cases ht'
  exact⟨_,_,_,_,upd_same _ _ _,by omega,fun _=>by rw[hlen]⟩
theorem xQ (h:Store M₀ γ σ w){t e:TypeId}{i:TypeInfo}{z:Value}(ht:P.underlying t=some (.slice e))(hi:P.info? e=some i)(hz:i.zero=some z)(hzs:z.cells.size=i.size)(ty:TypeId)
  (b:Nat) (v:Value) (es es':List (List D)) (hsz:∀x∈es,x.length=i.size) (vs:List Value) (hvs:vs.length=es.length * i.size)
  (hown:w.ownsRow 0 e i.size v es.length vs) (hes:∀(k j:Nat) x d u,es[k]?=some x→x[j]?=some d→vs[k * i.size+j]?=some u→Rep (aA M₀ γ) γ w d u)
  (h1o:∀u∈vs,u.oneCell'=true)
  (hb:(γ b=none∧σ b=none∧v.ownBlock=none∧es=[])∨γ b=some (.aI i.size e v es.length))
  (yv:Value) (nil:Bool) (aI:Option Nat) (hy:Rep (aA M₀ γ) γ w (.slice i.size nil es' aI) yv) (hne:es'≠[])
  (h63:es.length+es'.length≤9223372036854775807) (hby:(es.length+es'.length) * i.bytes≤140737488355328):
  ∃v' w' γ',(Builtin.append_ #[t,t] ty #[v,yv]).run P w= .ok v' w'∧Store M₀ γ' (upd σ b (some (.aI e i.size (es.length+es'.length)))) w'∧aW (aA M₀ γ) γ w (aA M₀ γ') γ' w'∧
   Rep (aA M₀ γ') γ' w' (.slice i.size false (es++es') (some b)) v':=by
 rcases aZ hy with⟨_,rfl,_⟩ | ⟨a,c,vs',rfl,_,hspot,hvs',hcc,hsz',hc',hr',_⟩
 ·exact absurd rfl hne
 have hm:0<es'.length:=akT.2 hne
 have h1n:∀u∈vs',u.oneCell'=true:=fun u hu=>by
  obtain⟨j,hj⟩:=aov hu
  exact (hc' j u hj).2.2
 exact CS h b v es es' hsz vs hvs hown hes h1o hb hm vs' hvs' hsz' h1n hr'
  (Ku ht hi hz hzs ty v es.length vs hown a es'.length c vs' hvs' (fun j u hu=>by rw[pF (hspot hne)];exact (hc' j u hu).1) h1n hm h63 hby)
theorem Kv {t u e:TypeId}{i:TypeInfo}(ht:P.underlying t=some (.slice e))(hu:P.underlying u=some .string)(hi:P.info? e=some i)(hz:i.zero=some (.int .u8 0))(hs1:i.size=1)(ty:TypeId)
  (v:Value) (n:Nat) (xs:List Value) (hown:w.ownsRow 0 e i.size v n xs) (s:ByteArray) (hm:0<s.size)
  (h63:n+s.size≤9223372036854775807) (hb:(n+s.size) * i.bytes≤140737488355328):
  ∃B cap cur w',(Builtin.append_ #[t,u] ty #[v,.string s]).run P w= .ok (.slice (some ⟨B,0,none⟩) (n+s.size) cap) w'∧
   w'.os=w.os∧w'.tape=w.tape∧w'.output=w.output∧w.heap.size≤w'.heap.size∧w'.heap[B]?=some (.cells cur e (0,0))∧cur.size=cap * i.size∧n+s.size≤cap∧cap≤maxLen∧
   cur.toList.take ((n+s.size) * i.size)=xs++Lib.strCells s∧
   ((B=w.heap.size∧(∀k,k<w.heap.size→w'.heap[k]?=w.heap[k]?))∨
    (v.ownBlock=some B∧(∀k,k≠B→w'.heap[k]?=w.heap[k]?))):=by
 have hml:maxLen=9223372036854775807:=rfl
 have hz1:(Value.int IntKind.u8 0).cells.size=1:=rfl
 have hlen:(xs++Lib.strCells s).length=(n+s.size) * i.size:=by rw[abf,hown.1,Lib.strCells_length,hs1,akU];omega
 rcases hown.2 with⟨rfl,rfl⟩ | ⟨g,cap,cur,rfl,_,hg,hnc,hcm,hcs,htake⟩
 ·have hx:xs=[]:=aky (by simpa using hown.1)
  subst hx
  simp only[ade,abT] at *
  have hr:=run_append_nil_string (P:=P) w t u ty e i (.int .u8 0) ht hu hi hz s hm (by omega) (GX hb)
  have e1:(s.data.map fun b=>Value.int .u8 b.toNat)=(Lib.strCells s).toArray:=by
   apply apw
   simp[Lib.strCells]
  rw[e1] at hr
  have hge:=grownCap_ge w s.size 0 e
  refine⟨_,_,_,_,hr,rfl,rfl,rfl,by simp,heap_alloc_new w.drew _,?_,hge,grownCap_le_maxLen w s.size 0 e (by omega),?_,.inl ⟨rfl,fun k hk=>heap_alloc_old w.drew _ k hk⟩⟩
  ·simp only[Array.size_append,aoO,size_zeroCells,hz1,hs1,Lib.strCells_length];omega
  ·rw[aoB,al9,← hlen];exact List.take_left
 ·by_cases hroom:n+s.size≤cap
  ·have hr:=Lib.run_append_room_string (P:=P) w t u ty e i ht hu hi hs1 g n cap cur hg s hroom (by rw[hcs,hs1];omega)
   have ht':cur.toList.take n=xs:=by simpa [hs1] using htake
   refine⟨g,cap,_,_,hr,rfl,rfl,rfl,by simp,setRow_heap w g cur _ e _ hg,?_,hroom,hcm,?_,.inr ⟨rfl,fun k hk=>setRow_other w g k _ hk⟩⟩
   ·simp only[aoO,abf,adg,aht,alx,Lib.strCells_length];rw[hs1] at hcs ⊢;omega
   ·rw[ht',al9,← hlen];exact List.take_left
  ·have hfits:=growslice_fits (need:=n+s.size) (old:=cap) (bytes:=i.bytes) (by omega) hb
   have holds:∀j u,xs[j]?=some u→w.cell? ((⟨g,0,none⟩:Addr).add j)=some u:=hown.cells rfl
   have hr:=Lib.run_append_grow_string (P:=P) w t u ty e i (.int .u8 0) ht hu hi hz ⟨g,0,none⟩ n cap xs hown.1 holds s (by omega) (by omega) hfits
   have hge:=grownCap_ge w (n+s.size) cap e
   refine⟨_,_,_,_,hr,rfl,rfl,rfl,by simp,heap_alloc_new w.drew _,?_,hge,grownCap_le_maxLen w (n+s.size) cap e (by omega),?_,.inl ⟨rfl,fun k hk=>heap_alloc_old w.drew _ k hk⟩⟩
   ·have:=hown.1
    simp only[Array.size_append,aoO,size_zeroCells,hz1,hs1,Lib.strCells_length];rw[hs1] at this;omega
   ·rw[aoB,aoB,al9,al9,List.append_assoc,← List.append_assoc,← hlen];exact List.take_left
theorem ag' {s:List UInt8}{k j:Nat}{x:List D}{d:D}(h1:(fK s)[k]?=some x)(h2:x[j]?=some d):∃b,s[k]?=some b∧j=0∧d= .int .u8 b.toNat:=by
 simp only[fK,adw,abR] at h1
 obtain⟨b,hb,rfl⟩:=h1
 cases j with
 |zero=>simp at h2;exact⟨b,hb,rfl,h2.symm⟩
 |succ j=>simp at h2
theorem xR (h:Store M₀ γ σ w){t u e:TypeId}{i:TypeInfo}(ht:P.underlying t=some (.slice e))(hu:P.underlying u=some .string)(hi:P.info? e=some i)(hz:i.zero=some (.int .u8 0))(hs1:i.size=1)(ty:TypeId)
  (b:Nat) (v:Value) (es:List (List D)) (hsz:∀x∈es,x.length=i.size) (vs:List Value) (hvs:vs.length=es.length * i.size)
  (hown:w.ownsRow 0 e i.size v es.length vs) (hes:∀(k j:Nat) x d u,es[k]?=some x→x[j]?=some d→vs[k * i.size+j]?=some u→Rep (aA M₀ γ) γ w d u)
  (h1o:∀u∈vs,u.oneCell'=true)
  (hb:(γ b=none∧σ b=none∧v.ownBlock=none∧es=[])∨γ b=some (.aI i.size e v es.length))
  (s:ByteArray) (hne:s.data.toList≠[])
  (h63:es.length+s.data.toList.length≤9223372036854775807) (hby:(es.length+s.data.toList.length) * i.bytes≤140737488355328):
  ∃v' w' γ',(Builtin.append_ #[t,u] ty #[v,.string s]).run P w= .ok v' w'∧Store M₀ γ' (upd σ b (some (.aI e i.size (es.length+s.data.toList.length)))) w'∧aW (aA M₀ γ) γ w (aA M₀ γ') γ' w'∧
   Rep (aA M₀ γ') γ' w' (.slice i.size false (es++fK s.data.toList) (some b)) v':=by
 have hl:(fK s.data.toList).length=s.size:=by rw[fK,ac'];rfl
 have hl':s.data.toList.length=s.size:=rfl
 rw[hl'] at h63 hby ⊢
 have hm:0<s.size:=by have:=akT.2 hne;omega
 have:=CS (e:=e) h b v es (fK s.data.toList) hsz vs hvs hown hes h1o hb (by omega) (Lib.strCells s) (by rw[Lib.strCells_length,hl,hs1,aos]) (fun x hx=>by
   simp only[fK,List.mem_map] at hx
   obtain⟨c,_,rfl⟩:=hx
   simp[hs1]) (Lib.strCells_oneCell s) (fun k j x d u h1 h2 h3=>by
   obtain⟨c,hc,rfl,rfl⟩:=ag' h1 h2
   rw[hs1,aos,amQ,Lib.strCells,adw,hc] at h3
   simp only[aiD,abr] at h3
   subst h3
   exact .int _ _) (r:=(Builtin.append_ #[t,u] ty #[v,.string s]).run P w) (by rw[hl];exact Kv ht hu hi hz hs1 ty v es.length vs hown s hm h63 hby)
 rw[hl] at this
 exact this
end
end Go.Id
namespace Go.Id
open Go
section
variable {P:Program} {M₀:Base} {γ:Nat→Option G} {σ:Nat→Option bf} {w:World}
theorem aha (h:Store M₀ γ σ w){id:Nat}(hid:σ id=none)(e:TypeId){d:D}{v:Value}(hd:Rep (aA M₀ γ) γ w d v){cs:List D}(hc:cells? d=some cs):
  Out M₀ γ σ w (((Instr.box e v) >>= fun x=>pure (Next.value x)).run P w) (.ref id 0) [(id,.box e cs)]:=by
 obtain⟨h1,h2,h3⟩:=hd.cells hc
 obtain⟨hs,hv⟩:=h.adl hid e h1 h2 h3
 exact⟨_,_,_,.inl (by simp[Instr.box,newVar,newRow]),hs,hv,.ref (.inl (upd_same _ _ _))⟩
theorem wB {e:TypeId}{cs:List D}(h:iC P e=some cs):∃i v,P.info? e=some i∧i.zero=some v∧cells? (jZ v)=some cs:=by
 unfold iC at h
 cases hi:P.info? e with
 |none=>rw[hi] at h;simp at h
 |some i=>
  rw[hi] at h
  simp only[aiD] at h
  split at h
  ·rename_i v hv
   simp only[abr] at hv
   exact⟨i,v,rfl,hv,h⟩
  ·cases h
theorem aa9 (h:Store M₀ γ σ w){id:Nat}(hid:σ id=none)(e:TypeId){cs:List D}(hz:iC P e=some cs):
  Out M₀ γ σ w (((Instr.alloc e true (.tuple #[])) >>= fun x=>pure (Next.value x)).run P w) (.ref id 0) [(id,.box e cs)]:=by
 obtain⟨i,v,hi,hv,hc⟩:=wB hz
 obtain⟨h1,h2,h3⟩:=(ku (γ:=γ) (w:=w) (aA M₀ γ) v).cells hc
 obtain⟨hs,hv'⟩:=h.adl hid e h1 h2 h3
 exact⟨_,_,_,.inl (by simp[Instr.alloc,zeroValue,typeInfo,hi,hv,newVar,newRow]),hs,hv',.ref (.inl (upd_same _ _ _))⟩
theorem mJ (g o:Nat)(t:TypeId)(fz:Nat × Nat):∀(vs:List Value) (i:Nat) (cur:Array Value) (w:World),w.heap[g]?=some (.cells cur t fz)→o+i+vs.length≤cur.size→
  (∀j,j<cur.size→w.frozen? ⟨g,j,none⟩=false)→(∀v∈vs,v.oneCell'=true)→
  (storeCells ⟨g,o,none⟩ vs i).run P w= .ok () (w.setRow g (cur.toList.take (o+i)++vs++cur.toList.drop (o+i+vs.length)).toArray)
 | [],i,cur,w,hg,_,_,_=>by
  simp only[storeCells,akz,acS,amQ,aki,Array.toArray_toList]
  rw[setRow_self w g cur t fz hg]
  rfl
 |v::rest,i,cur,w,hg,hl,hf,h1=>by
  have hi:o+i<cur.size:=by simp at hl;omega
  have hadd:(⟨g,o,none⟩:Addr).add i=⟨g,o+i,none⟩:=Addr.add_lit g o i
  have hcell:w.cell? ⟨g,o+i,none⟩=some cur[o+i]:=by simp[World.cell?,hg,hi]
  have hfro:w.frozen? ⟨g,o+i,none⟩=false:=hf _ hi
  have hst:(store ((⟨g,o,none⟩:Addr).add i) v).run P w= .ok () (w.setRow g (cur.setIfInBounds (o+i) v)):=by
   rw[hadd,run_store P w _ v _ (h1 v (by simp)),hcell]
   simp[hfro,setCell_eq_setRow w g (o+i) cur t fz v hg]
  have hg':=setRow_heap w g cur (cur.setIfInBounds (o+i) v) t _ hg
  have ih:=mJ g o t fz rest (i+1) (cur.setIfInBounds (o+i) v) (w.setRow g (cur.setIfInBounds (o+i) v)) hg' (by simp at hl ⊢;omega)
   (fun j hj=>by
    have:=hf j (by simpa using hj)
    simp only[World.frozen?,hg] at this
    simp only[World.frozen?,hg']
    exact this) (fun x hx=>h1 x (by simp[hx]))
  simp only[storeCells,Sem.run_bind,hst,Result.andThen_ok,ih,setRow_setRow]
  congr 3
  have e:=list_seg_step cur.toList (o+i) v rest (by simp at hl ⊢;omega)
  simpa [Array.toList_setIfInBounds,aoT] using e
theorem rH {α:Type}(l vs:List α)(off i:Nat)(h:off+vs.length≤l.length):
  (l.take off++vs++l.drop (off+vs.length))[i]?=if off≤i∧i<off+vs.length then vs[i - off]? else l[i]?:=by
 by_cases h1:i<off
 ·rw[List.append_assoc,ag2 (by simp;omega),ag3,if_pos h1,if_neg (by omega)]
 ·by_cases h2:i<off+vs.length
  ·rw[if_pos (by omega),List.append_assoc,ag7 (by simp;omega),ag2 (by simp;omega)]
   congr 1;simp;omega
  ·rw[if_neg (by omega),ag7 (by simp;omega),ahz]
   congr 1;simp;omega
theorem PL (h:Store M₀ γ σ w){t:TypeId}{sz:Nat}(hs:uP P t=some sz){b off:Nat}{cs:List D}(mk:List D→bf)(hmk:(∃t',mk= .box t')∨∃z,mk= .arr z)(hb:σ b=some (mk cs))
  {x:D} {xv av:Value} (hx:Rep (aA M₀ γ) γ w x xv) {vs:List D} (hc:cells? x=some vs) (hl:vs.length=sz) (hoff:off+sz≤cs.length)
  (hav:Rep (aA M₀ γ) γ w (.ref b off) av):
  Out M₀ γ σ w (((Instr.storeAt t av xv) >>= fun _=>pure Next.skip).run P w) .junk [(b,mk (cs.take off++vs++cs.drop (off+sz)))]:=by
 obtain⟨c1,c2,c3⟩:=hx.cells hc
 have hlv:xv.cells.toList.length=sz:=by simp;omega
 have main:∀(B:Nat) (g:G) (ws:Array Value) (e:TypeId) (fz:Nat × Nat),γ b=some g→g.block=some B→(∀off,g.wr B off)→av= .pointer (some ⟨B,off,none⟩)→w.heap[B]?=some (.cells ws e fz)→cs.length≤ws.size→
   (∀j,j<ws.size→w.frozen? ⟨B,j,none⟩=false)→(∀(i:Nat) v,i<cs.length→ws[i]?=some v→v.oneCell'=true)→(∀(i:Nat) d v,cs[i]?=some d→ws[i]?=some v→Rep (aA M₀ γ) γ w d v)→
   (∀(w':World) (ws':Array Value),w'.heap[B]?=some (.cells ws' e fz)→ws'.size=ws.size→(∀j,j<ws.size→w'.frozen? ⟨B,j,none⟩=false)→(∀(i:Nat) v,i<cs.length→ws'[i]?=some v→v.oneCell'=true)→
    (∀(i:Nat) d v,(cs.take off++vs++cs.drop (off+sz))[i]?=some d→ws'[i]?=some v→Rep (aA M₀ γ) γ w' d v)→dh (aA M₀ γ) γ w' (mk (cs.take off++vs++cs.drop (off+sz))) g)→
   Out M₀ γ σ w (((Instr.storeAt t av xv) >>= fun _=>pure Next.skip).run P w) .junk [(b,mk (cs.take off++vs++cs.drop (off+sz)))]:=by
  intro B g ws e fz hg hgB hgw ao3 hB hlen hfro h1 hr hfin
  subst ao3
  have hst:=mJ (P:=P) B off e fz xv.cells.toList 0 ws w hB (by omega) hfro (fun u hu=>by
   obtain⟨j,hj⟩:=aov hu
   exact c2 j u (by simpa using hj))
  simp only[amQ] at hst
  generalize hw':w.setRow B (ws.toList.take off++xv.cells.toList++ws.toList.drop (off+xv.cells.toList.length)).toArray=w' at hst
  have hB':w'.heap[B]?=some (.cells (ws.toList.take off++xv.cells.toList++ws.toList.drop (off+xv.cells.toList.length)).toArray e fz):=by rw[← hw'];exact setRow_heap w B ws _ e fz hB
  have hother:∀k,k≠B→w'.heap[k]?=w.heap[k]?:=fun k hk=>by rw[← hw'];exact setRow_other w B k _ hk
  have hsize:w'.heap.size=w.heap.size:=by rw[← hw'];simp
  have hM:∀o,aA M₀ γ B o:=fun o=> .inr ⟨b,g,hg,hgw o⟩
  have hv:aW (aA M₀ γ) γ w (aA M₀ γ) γ w':=by
   refine⟨by rw[← hw'];rfl,by rw[← hw'];rfl,by rw[← hw'];rfl,by omega,fun B' o u hn hu=>?_,fun _ _ h _=>h,fun _ g h=>⟨g,h,G.le_refl g⟩,fun B' _ hn=>hother B' (fun e=>hn b g hg (by rw[e];exact hgB)),fun i gi _ h h' _=>⟨i,gi,h,h'⟩⟩
   have:B'≠B:=fun e=>by subst e;exact hn (hM o)
   rw[World.cell?_of_block (w:=w) (w':=w') (by simpa using hother B' this)];exact hu
  have nO:upd γ b (some g)=γ:=by funext i;by_cases hi:i=b <;> simp[upd,hi,hg]
  refine⟨undef,w',γ,.inr ⟨?_,rfl⟩,?_,hv,.junk _⟩
  ·have hne:¬(xv.cells.size≠sz):=by omega
   simp[Instr.storeAt,Instr.sureAddr,storeVar,Sz hs,hne,hst]
  ·have:=h.change b (mk (cs.take off++vs++cs.drop (off+sz))) g w' (by rw[nO];exact hv) (fun i gi B2 hi hgi AA=>hother B2 (fun e=>hi (h.dist i b gi g B2 hgi hg AA (by rw[e];exact hgB)))) (fun B' hB'=> .inr ⟨g,hg,hB'⟩) (by
    rw[nO]
    refine hfin w' _ hB' (by simp;omega) (fun i hlt=>?_) (fun i v hin hi=>?_) (fun i d v hd hi=>?_)
    ·have:=hfro i hlt
     simp only[World.frozen?,hB] at this
     simp only[World.frozen?,hB']
     exact this
    ·simp only[amj] at hi
     rw[rH _ _ _ _ (by simp;omega)] at hi
     split at hi
     ·exact c2 _ v (by simpa using hi)
     ·exact h1 i v hin (by simpa using hi)
    ·simp only[amj] at hi
     rw[rH _ _ _ _ (by simp;omega)] at hi
     rw[← hl,rH _ _ _ _ (by omega)] at hd
     have e1:xv.cells.toList.length=vs.length:=by omega
     rw[e1] at hi
     split at hi
     ·rename_i hc'
      rw[if_pos hc'] at hd
      exact (c3 _ d v hd (by simpa using hi)).dA hv
     ·rename_i hc'
      rw[if_neg hc'] at hd
      exact (hr i d v hd (by simpa using hi)).dA hv)
   rw[nO] at this
   exact this
 obtain⟨g,h2,h3⟩:=h.hit hb
 cases hav with
 | @ref _ B _ hγ=>
  rcases hmk with⟨t',rfl⟩ | ⟨z,rfl⟩
  ·cases h3 with
   | @box _ B' ws e fz hB hlen h1 hr=>
    rcases hγ with hγ | ⟨_,_,hγ⟩|hγ <;> rw[h2] at hγ <;> cases hγ
    exact main _ (.box B) ws _ fz h2 rfl (fun _=>rfl) rfl hB (by omega) (fun j hj=>(h1 j _ (adr hj)).2) (fun i v _ hi=>(h1 i v hi).1) hr (fun w' ws' a1 a2 a3 a3' a4=> .box ws' _ fz a1 (by simp;omega) (fun i v hi=>by
     have hlt:=(ag6.1 hi).1
     exact⟨a3' i v (by omega) hi,a3 i (by omega)⟩) a4)
  ·cases h3 with
   | @arr _ _ B' cap z' ws _ fz hB hlen h1 hr hf=>
    rcases hγ with hγ | ⟨_,_,hγ⟩|hγ <;> rw[h2] at hγ <;> cases hγ
    refine main _ (.arr B cap _) ws _ fz h2 rfl (fun _=>rfl) rfl hB (by omega) (fun j hj=>frz hf.1 hB hj) (fun i v hi=>fun h=>(h1 i v hi h).1) hr (fun w' ws' a1 a2 a3 a3' a4=> .arr ws' _ fz a1 (by simp;omega) (fun i v hn hi=>⟨a3' i v (by simp at hn;omega) hi,a3 i (by have:=(ag6.1 hi).1;omega)⟩) a4 ?_)
    obtain⟨b1,b3,b4⟩:=hf
    exact⟨by rw[a2];exact b1,by omega,b4⟩
theorem ZA (h:Store M₀ γ σ w){b off:Nat}{e:TypeId}{cs:List D}(hb:σ b=some (.arr e cs)){B cap z:Nat}(hg:γ b=some (.arr B cap z))(zs:List Value)(h1:∀u∈zs,u.oneCell'=true)(hl:off+zs.length≤cap * z)(nv:Value):
  Out M₀ γ σ w ((storeCells ⟨B,off,none⟩ zs >>= fun _=>pure (Next.value nv)).run P w) .junk [(b,.arr e (cs.take off))]:=by
 obtain⟨g,h2,h3⟩:=h.hit hb
 rw[hg] at h2;cases h2
 cases h3 with
 | @arr e0 _ _ _ _ ws _ fz hB hlen ho hr hf=>
  obtain⟨hff,hws,hcm⟩:=hf
  have hfro:∀j,j<ws.size→w.frozen? ⟨B,j,none⟩=false:=fun j hj=>frz hff hB hj
  have hst:=mJ (P:=P) B off e0 fz zs 0 ws w hB (by omega) hfro h1
  simp only[amQ] at hst
  generalize hw':w.setRow B (ws.toList.take off++zs++ws.toList.drop (off+zs.length)).toArray=w' at hst
  have hB':w'.heap[B]?=some (.cells (ws.toList.take off++zs++ws.toList.drop (off+zs.length)).toArray e0 fz):=by rw[← hw'];exact setRow_heap w B ws _ e0 fz hB
  have hother:∀k,k≠B→w'.heap[k]?=w.heap[k]?:=fun k hk=>by rw[← hw'];exact setRow_other w B k _ hk
  have hsize:w'.heap.size=w.heap.size:=by rw[← hw'];simp
  have hM:∀o,aA M₀ γ B o:=fun o=> .inr ⟨b,_,hg,rfl⟩
  have hv:aW (aA M₀ γ) γ w (aA M₀ γ) γ w':=by
   refine⟨by rw[← hw'];rfl,by rw[← hw'];rfl,by rw[← hw'];rfl,by omega,fun B' o u hn hu=>?_,fun _ _ h _=>h,fun _ g h=>⟨g,h,G.le_refl g⟩,fun B' _ hn=>hother B' (fun e=>hn b _ hg (by rw[e];rfl)),fun i gi _ h h' _=>⟨i,gi,h,h'⟩⟩
   have:B'≠B:=fun e=>by subst e;exact hn (hM o)
   rw[World.cell?_of_block (w:=w) (w':=w') (by simpa using hother B' this)];exact hu
  have nO:upd γ b (some (G.arr B cap z))=γ:=by funext i;by_cases hi:i=b <;> simp[upd,hi,hg]
  refine⟨nv,w',γ,.inl ?_,?_,hv,.junk _⟩
  ·simp only[Sem.run_bind,hst,Result.andThen_ok];rfl
  ·have hsz:(ws.toList.take off++zs++ws.toList.drop (off+zs.length)).toArray.size=ws.size:=by simp;omega
   have:=h.change b (.arr e (cs.take off)) (.arr B cap z) w' (by rw[nO];exact hv) (fun i gi B2 hi hgi AA=>hother B2 (fun e=>hi (h.dist i b gi _ B2 hgi hg AA (by rw[e];rfl)))) (fun B' hB'=> .inr ⟨_,hg,hB'⟩) (by
    rw[nO]
    have same:∀(i:Nat) v,i<(cs.take off).length→(ws.toList.take off++zs++ws.toList.drop (off+zs.length)).toArray[i]?=some v→ws[i]?=some v∧i<cs.length:=by
     intro i v hi hv
     have hi':i<off∧i<cs.length:=by rw[adg] at hi;omega
     simp only[amj] at hv
     rw[List.append_assoc,ag2 (by simp;omega),ag3,if_pos hi'.1,akA] at hv
     exact⟨hv,hi'.2⟩
    refine .arr _ e fz hB' (by rw[hsz,adg];omega) (fun i v hi hv'=>?_) (fun i d v hd hv'=>?_) ⟨by rw[hsz];exact hff,by rw[hsz];exact hws,hcm⟩
    ·obtain⟨r1,r2⟩:=same i v hi hv'
     exact⟨(ho i v r2 r1).1,by
      have h9:=(ho i v r2 r1).2
      simp only[World.frozen?,hB] at h9
      simp only[World.frozen?,hB']
      exact h9⟩
    ·have hi:=(acR.1 hd).1
     obtain⟨r1,r2⟩:=same i v hi hv'
     rw[ag3] at hd
     split at hd
     ·exact (hr i d v hd r1).dA hv
     ·cases hd)
   rw[nO] at this
   exact this
end
end Go.Id
namespace Go.Id
open Go
section
variable {P:Program} {M:Nat→Nat→Prop} {γ:Nat→Option G} {w:World}
theorem sW {s:List UInt8}{b:ByteArray}(h:b.data.toList=s):Rep M γ w (.str s) (.string b):=by subst h;exact .str b
theorem aa_ {op:BinOp}{a b:ByteArray}{f:Eff}(h:strD op a.data.toList b.data.toList=some f)(hs:f.side):
  ∃v,(Op.stringOp op a b).run P w= .ok v w∧Rep M γ w f.val v∧f.ws=[]:=by
 unfold strD at h
 split at h <;> simp only[abr,reduceCtorEq] at h <;> subst h <;> simp only[aH] at *
 ·refine⟨.string (a++b),?_,?_⟩
  ·have ha:a.data.toList.length=a.size:=by simp
   have hb:b.data.toList.length=b.size:=by simp
   simp only[Op.stringOp]
   rw[if_neg]
   ·rfl
   ·simp only[IntKind.max,IntKind.signed,IntKind.bits,if_true]
    omega
  ·exact⟨sW (by simp),trivial⟩
 all_goals
  refine⟨_,by simp only[Op.stringOp,ByteArray.toList_eq];rfl,?_,trivial⟩
  exact .bool _
theorem aa' {op:BinOp}{k:IntKind}{a b:Int}{d:D}(h:intD op k a b=some d)(t:TypeId):
  ∃v,(binOp op t (.int k a) (.int k b)).run P w= .ok v w∧Rep M γ w d v:=by
 cases op <;> simp only[intD,abr,reduceCtorEq] at h
 case quo|rem=>
  split at h <;> simp only[abr,reduceCtorEq] at h
  rename_i hb
  subst h
  exact⟨_,by simp only[binOp,Op.intDiv,if_neg hb,ne_eq,not_true,if_false];rfl,.int _ _⟩
 all_goals
  subst h
  first
   |exact⟨_,by simp only[binOp,Op.intArith,Op.intBits,Op.intCmp,ne_eq,not_true,if_false];rfl,.int _ _⟩
   |exact⟨_,by simp only[binOp,Op.intCmp,ne_eq,not_true,if_false];rfl,.bool _⟩
theorem str_inj {s:List UInt8}{v:Value}(h:Rep M γ w (.str s) v):∃b:ByteArray,v= .string b∧b.data.toList=s:=by
 cases h with|str b=>exact⟨b,rfl,rfl⟩
theorem int_inj {k:IntKind}{n:Int}{v:Value}(h:Rep M γ w (.int k n) v):v= .int k n:=by cases h;rfl
theorem pI {b:Bool}{v:Value}(h:Rep M γ w (.bool b) v):v= .bool b:=by cases h;rfl
theorem sZ {t:TypeId}{c:CK}(h:UR P t=some c){xs:Array Value}{off:Nat}{v:Value}(hv:xs[off]?=some v):(part t xs off).run P w= .ok v w:=by
 have ha:(isAgg t).run P w= .ok false w:=by
  unfold UR at h
  simp only[isAgg,underlying,Sem.run_bind,run_program,Result.andThen_ok]
  split at h <;> first|(rename_i he;simp[he];done)|(exfalso;simp at h;done)
 simp[part,ha,hv]
theorem tq:∀(ks ks':List CK) (cs ds:List D) (r:Bool),cZ (ks++ks') cs ds=some r→∃c1 c2 d1 d2 r1 r2,cs=c1++c2∧ds=d1++d2∧cZ ks c1 d1=some r1∧cZ ks' c2 d2=some r2∧r=(r1 && r2)∧c1.length=ks.length∧d1.length=ks.length
 | [],ks',cs,ds,r,h=>⟨[],cs,[],ds,true,r,rfl,rfl,rfl,h,by simp,rfl,rfl⟩
 |k::ks,ks',cs,ds,r,h=>by
  have go:∀(x y:D) (cs' ds':List D) (q:Bool) (r':Bool),(∀(u:List CK) (a b:List D),cZ (k::u) (x::a) (y::b)=(cZ u a b).map fun r=>q && r)→cZ (ks++ks') cs' ds'=some r'→
    ∃c1 c2 d1 d2 r1 r2,x::cs'=c1++c2∧y::ds'=d1++d2∧cZ (k::ks) c1 d1=some r1∧cZ ks' c2 d2=some r2∧(q && r')=(r1 && r2)∧c1.length=(k::ks).length∧d1.length=(k::ks).length:=by
   intro x y cs' ds' q r' hq h'
   obtain⟨c1,c2,d1,d2,r1,r2,rfl,rfl,h1,h2,rfl,h3,h4⟩:=tq ks ks' cs' ds' r' h'
   exact⟨x::c1,c2,y::d1,d2,q && r1,r2,rfl,rfl,by rw[hq,h1];rfl,h2,by simp[Bool.and_assoc],by simp[h3],by simp[h4]⟩
  rw[abS] at h
  cases cs with
  |nil=>cases k <;> simp[cZ] at h
  |cons x cs'=>
   cases ds with
   |nil=>cases k <;> cases x <;> simp[cZ] at h
   |cons y ds'=>
    cases k <;> cases x <;> cases y <;> simp only[cZ,reduceCtorEq] at h
    ·simp only[abR] at h
     obtain⟨r',h',rfl⟩:=h
     exact go _ _ cs' ds' _ r' (fun u a b=>by simp[cZ]) h'
    ·split at h
     rotate_left
     ·cases h
     rename_i hk
     subst hk
     simp only[abR] at h
     obtain⟨r',h',rfl⟩:=h
     exact go _ _ cs' ds' _ r' (fun u a b=>by simp[cZ]) h'
    ·simp only[abR] at h
     obtain⟨r',h',rfl⟩:=h
     exact go _ _ cs' ds' _ r' (fun u a b=>by simp[cZ]) h'
theorem eq_one (n:Nat){t:TypeId}{c:CK}(hc:UR P t=some c){d e:D}{q:Bool}(he:cZ [c] [d] [e]=some q){a b:Value}(ha:Rep M γ w d a)(hb:Rep M γ w e b):(Op.equalIn (n+1) t a b).run P w= .ok q w:=by
 unfold UR at hc
 cases c <;> cases d <;> cases e <;> simp only[cZ,reduceCtorEq] at he
 ·simp only[aiD,Bool.and_true,abr] at he
  subst he
  rw[pI ha,pI hb]
  have ht:P.underlying t=some .bool:=by split at hc <;> first|assumption|(simp at hc)
  exact run_equalIn_bool' w n t _ _ ht
 ·split at he
  rotate_left
  ·cases he
  rename_i hkk
  subst hkk
  simp only[aiD,Bool.and_true,abr] at he
  subst he
  rw[int_inj ha,int_inj hb]
  have ht:∃k',P.underlying t=some (.int k'):=by split at hc <;> first|exact⟨_,by assumption⟩|(simp at hc)
  obtain⟨k',ht⟩:=ht
  exact run_equalIn_int w n t _ k' _ _ ht
 ·simp only[aiD,Bool.and_true,abr] at he
  subst he
  obtain⟨sa,rfl,hsa⟩:=str_inj ha
  obtain⟨sb,rfl,hsb⟩:=str_inj hb
  have ht:P.underlying t=some .string:=by split at hc <;> first|assumption|(simp at hc)
  have hq:=run_equalIn_string (P:=P) w n t sa sb ht
  rw[ByteArray.toList_eq,ByteArray.toList_eq,hsa,hsb] at hq
  exact hq
def At (M:Nat→Nat→Prop)(γ:Nat→Option G)(w:World)(k:Nat)(cs:List D)(xs:Array Value):Prop:=∀(i:Nat) d,cs[i]?=some d→∃v,xs[k+i]?=some v∧Rep M γ w d v
theorem At.left {k:Nat}{a b:List D}{xs:Array Value}(h:At M γ w k (a++b) xs):At M γ w k a xs:=fun i d hd=>h i d (by rw[ag2 (acR.1 hd).1];exact hd)
theorem At.right {k:Nat}{a b:List D}{xs:Array Value}(h:At M γ w k (a++b) xs):At M γ w (k+a.length) b xs:=fun i d hd=>by
 obtain⟨v,h1,h2⟩:=h (a.length+i) d (by rw[ag7 (by omega)];simpa using hd)
 exact⟨v,by rw[aoT];exact h1,h2⟩
theorem OL (n:Nat):∀(fs:List Field) (ks:List CK) (k:Nat) (cs ds:List D) (xs ys:Array Value) (r:Bool),adk P k fs=some ks→cZ ks cs ds=some r→
  At M γ w k cs xs→At M γ w k ds ys→(Op.eqFields (n+1) xs ys fs).run P w= .ok r w:=by
 intro fs
 induction fs with
 |nil=>
  intro ks k cs ds xs ys r hk he hx hy
  simp only[adk,abr] at hk
  subst hk
  cases cs <;> cases ds <;> simp only[cZ,abr,reduceCtorEq] at he
  subst he
  rfl
 |cons f fs ih=>
  intro ks k cs ds xs ys r hk he hx hy
  simp only[adk] at hk
  split at hk
  rotate_left
  ·cases hk
  rename_i hf
  obtain⟨hoff,hname⟩:=hf
  cases hc:UR P f.type with
  |none=>rw[hc] at hk;cases hk
  |some c=>
   rw[hc] at hk
   simp only[adf,abR] at hk
   obtain⟨ks',ako,rfl⟩:=hk
   obtain⟨c1,c2,d1,d2,r1,r2,rfl,rfl,h1,h2,rfl,h3,h4⟩:=tq [c] ks' cs ds r he
   match c1,d1,h3,h4 with
   | [c0],[d0],_,_=>
    obtain⟨va,ha1,ha2⟩:=hx 0 _ rfl
    obtain⟨vb,hb1,hb2⟩:=hy 0 _ rfl
    have hq:=eq_one (P:=P) n hc h1 ha2 hb2
    have:=ih ks' (k+1) c2 d2 xs ys r2 ako h2 hx.right hy.right
    simp only[amQ] at ha1 hb1
    simp only[Op.eqFields,Sem.run_ite]
    rw[if_pos hname]
    simp only[Sem.run_bind,hoff,sZ hc ha1,sZ hc hb1,Result.andThen_ok,hq]
    cases r1
    ·simp
    ·simp[this]
theorem UW {t:TypeId}{gs:Array Field}(h:P.underlying t=some (.struct gs)){sz:Nat}(hs:uP P t=some sz)(xs:Array Value)(off:Nat):(part t xs off).run P w= .ok (.agg (xs.extract off (off+sz))) w:=by
 have ha:(isAgg t).run P w= .ok true w:=by simp[isAgg,underlying,h]
 simp[part,ha,Sz hs]
theorem Kw (n:Nat):∀(fs:List Field) (ks:List CK) (k:Nat) (cs ds:List D) (xs ys:Array Value) (r:Bool),PK P k fs=some ks→cZ ks cs ds=some r→
  At M γ w k cs xs→At M γ w k ds ys→(Op.eqFields (n+2) xs ys fs).run P w= .ok r w:=by
 intro fs
 induction fs with
 |nil=>
  intro ks k cs ds xs ys r hk he hx hy
  simp only[PK,abr] at hk
  subst hk
  cases cs <;> cases ds <;> simp only[cZ,abr,reduceCtorEq] at he
  subst he
  rfl
 |cons f fs ih=>
  intro ks k cs ds xs ys r hk he hx hy
  simp only[PK] at hk
  split at hk
  rotate_left
  ·cases hk
  rename_i hf
  obtain⟨hoff,hname⟩:=hf
  cases hc:UR P f.type with
  |some c=>
   rw[hc] at hk
   simp only[abR] at hk
   obtain⟨ks',ako,rfl⟩:=hk
   obtain⟨c1,c2,d1,d2,r1,r2,rfl,rfl,h1,h2,rfl,h3,h4⟩:=tq [c] ks' cs ds r he
   match c1,d1,h3,h4 with
   | [c0],[d0],_,_=>
    obtain⟨va,ha1,ha2⟩:=hx 0 _ rfl
    obtain⟨vb,hb1,hb2⟩:=hy 0 _ rfl
    have hq:=eq_one (P:=P) (n+1) hc h1 ha2 hb2
    have:=ih ks' (k+1) c2 d2 xs ys r2 ako h2 hx.right hy.right
    simp only[amQ] at ha1 hb1
    simp only[Op.eqFields,Sem.run_ite]
    rw[if_pos hname]
    simp only[Sem.run_bind,hoff,sZ hc ha1,sZ hc hb1,Result.andThen_ok,hq]
    cases r1
    ·simp
    ·simp[this]
  |none=>
   rw[hc] at hk
   simp only at hk
   split at hk
   rotate_left
   ·cases hk
   rename_i gs hg
   split at hk
   ·cases hk
   rename_i hst
   have hst:P.stoodInHeld f.type=false:=by simpa using hst
   simp only[ac9] at hk
   obtain⟨k1,hk1,hk⟩:=hk
   split at hk
   rotate_left
   ·cases hk
   rename_i hsz
   simp only[abR] at hk
   obtain⟨k2,hk2,rfl⟩:=hk
   obtain⟨c1,c2,d1,d2,r1,r2,rfl,rfl,h1,h2,rfl,h3,h4⟩:=tq k1 k2 cs ds r he
   have sub:∀{c:List D} {zs:Array Value},c.length=k1.length→At M γ w k c zs→At M γ w 0 c (zs.extract k (k+k1.length)):=by
    intro c zs hl hz i d hd
    obtain⟨v,q1,q2⟩:=hz i d hd
    have hi:=(acR.1 hd).1
    refine⟨v,?_,q2⟩
    have hk':=(ag6.1 q1).1
    rw[Array.getElem?_extract,if_pos (by omega),ade]
    exact q1
   have hfo:P.fieldsOf f.type=gs:=by simp[Program.fieldsOf,hg]
   have hin:(Op.equalIn (n+2) f.type (.agg (xs.extract k (k+k1.length))) (.agg (ys.extract k (k+k1.length)))).run P w= .ok r1 w:=by
    rw[run_equalIn_struct (P:=P) w (n+1) f.type _ _ (by rw[hfo];exact hg) hst,hfo]
    exact OL n gs.toList k1 0 c1 d1 _ _ r1 hk1 h1 (sub h3 hx.left) (sub h4 hy.left)
   have hx2:=hx.right
   have hy2:=hy.right
   rw[h3] at hx2
   rw[h4] at hy2
   have:=ih k2 (k+k1.length) c2 d2 xs ys r2 hk2 h2 hx2 hy2
   simp only[Op.eqFields,Sem.run_ite]
   rw[if_pos hname]
   simp only[Sem.run_bind,hoff,UW hg hsz,Result.andThen_ok,hin]
   cases r1
   ·simp
   ·simp[this]
theorem SA {cs:List D}{v:Value}(h:Rep M γ w (.agg cs) v):∃vs:Array Value,v= .agg vs∧vs.size=cs.length∧(∀(i:Nat) d,cs[i]?=some d→∃u,vs[i]?=some u∧Rep M γ w d u)∧
  (∀(i:Nat) u,vs[i]?=some u→u.oneCell'=true)∧(∀(i:Nat) d u,cs[i]?=some d→vs[i]?=some u→Rep M γ w d u):=by
 cases h with
 | @agg _ vs hl h1 hr=>
  refine⟨vs,rfl,hl,fun i d hd=>?_,h1,hr⟩
  have:i<vs.size:=by have:=(acR.1 hd).1;omega
  exact⟨vs[i],adr this,hr i d _ hd (adr this)⟩
theorem XK {t:TypeId}{ks:List CK}(hk:EU P t=some ks){cs ds:List D}{r:Bool}(he:cZ ks cs ds=some r){u v:Value}(hu:Rep M γ w (.agg cs) u)(hv:Rep M γ w (.agg ds) v)(x y:Operand){op:BinOp}{e:Bool}(hop:isEq op=some e):
  (do eqGuard op t x y u v;binOp op t u v:Sem Value).run P w= .ok (.bool (if e then r else !r)) w:=by
 obtain⟨us,rfl,_,hu',_⟩:=SA hu
 obtain⟨vs,rfl,_,hv',_⟩:=SA hv
 unfold EU at hk
 split at hk
 rotate_left
 ·cases hk
 rename_i fs hfs
 split at hk
 ·cases hk
 rename_i hno
 have h1:P.stoodInHeld t=false:=by cases h:P.stoodInHeld t <;> simp_all
 have h2:P.eqGuardType P.depth t=false:=by cases h:P.eqGuardType P.depth t <;> simp_all
 have hfo:P.fieldsOf t=fs:=by simp[Program.fieldsOf,hfs]
 have hmain:=Kw (M:=M) (γ:=γ) (w:=w) 9997 fs.toList ks 0 cs ds us vs r hk he (fun i d hd=>by simpa using hu' i d hd) (fun i d hd=>by simpa using hv' i d hd)
 have hst:(Op.equalIn 10000 t (.agg us) (.agg vs)).run P w= .ok r w:=by
  rw[run_equalIn_struct (P:=P) w 9999 t us vs (by rw[hfo];exact hfs) h1,hfo];exact hmain
 cases op <;> simp only[isEq,abr,reduceCtorEq] at hop <;> subst hop
 ·simp only[Sem.run_bind,run_eqGuard_agg w _ t x y us vs h2,Result.andThen_ok,run_eql_struct,hst];rfl
 ·simp only[Sem.run_bind,run_eqGuard_agg w _ t x y us vs h2,Result.andThen_ok,run_neq_struct,hst];rfl
end
end Go.Id
