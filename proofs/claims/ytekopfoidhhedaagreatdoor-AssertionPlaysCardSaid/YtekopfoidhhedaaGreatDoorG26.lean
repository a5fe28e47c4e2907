import Derived.Test.YtekopfoidhhedaaGreatDoorG25
import Derived.Test.YtekopfoidhhedaaGreatDoorG15
import Derived.Test.YtekopfoidhhedaaGreatDoorG08
import Derived.Test.YtekopfoidhhedaaGreatDoorG13
set_option linter.unusedVariables false
set_option linter.unusedSimpArgs false
set_option linter.unnecessarySimpa false
namespace Go.Proofs
open Go Go.Id Go.Shelf Go.Sort
abbrev Row:=List UInt8 × Nat × Nat
def Row.cs (r:Row):List D:=[.str r.1,.arr r.2.1 1 r.2.2]
def jC (rs:List Row):List D:=(rs.map Row.cs).flatten
theorem Ad (rs:List Row):∀x∈rs.map Row.cs,x.length=2:=by
 intro x hx
 obtain⟨r,_,rfl⟩:=List.mem_map.1 hx;rfl
theorem nD (rs:List Row):(jC rs).length=rs.length * 2:=by rw[jC,kL _ (Ad rs),ac']
abbrev RV:=Row × {v:Value // v.oneCell'=true}
instance:Inhabited RV:=⟨([],0,0),⟨.int .i64 0,rfl⟩⟩
def encR (x:RV):List Value:=[encStr x.1.1,x.2.1]
def YK (x y:RV):Int:=if Op.bytesLess x.1.1 y.1.1=true then -1 else 1
theorem ltR (x y:RV):ltOf YK x y=Op.bytesLess x.1.1 y.1.1:=by
 unfold ltOf YK
 cases Op.bytesLess x.1.1 y.1.1 <;> rfl
theorem apO:SWO (ltOf YK) where
 irrefl x:=by rw[ltR];exact oP _
 trans x y z h k:=by rw[ltR] at *;exact nY _ _ _ h k
 ntrans x y z h k:=by
  rw[ltR] at *
  cases q:Op.bytesLess x.1.1 z.1.1
  ·rfl
  ·rcases rY y.1.1 z.1.1 with p|p|p
   ·rw[k] at p;cases p
   ·rw[← p,h] at q;cases q
   ·have:=nY _ _ _ q p;rw[h] at this;cases this
set_option maxHeartbeats 1000000 in
theorem afe (x y:RV)(W:World):Calls Tryz.prog 160 #[.agg (encR x).toArray,.agg (encR y).toArray] W fun e w'=>e= .returned (.int .i64 (YK x y))∧∃q os',w'=grow (W.drewN q) os':=by
 unfold YK encR
 cases h:Op.bytesLess x.1.1 y.1.1
 all_goals
  go_enter Tryz.func160,Tryz.ntmps160
  go_wp2
  go_ret
  exact⟨rfl,0,_,by rw[alloc_eq_grow,alloc_eq_grow,grow_grow];rfl⟩
def vT (rs:List Row):List Row:=rs.mergeSort fun x y=>!Op.bytesLess y.1 x.1
theorem rE (rs:List Row):(vT rs).length=rs.length:=List.length_mergeSort rs
theorem Ce (rs:List Row):(vT rs).Perm rs:=List.mergeSort_perm rs _
theorem ab5 (rs:List Row):(vT rs).Pairwise fun x y=>Op.bytesLess y.1 x.1=false:=by
 have:(vT rs).Pairwise fun x y=>(!Op.bytesLess y.1 x.1)=true:=by
  refine List.pairwise_mergeSort (fun a b c h k=>?_) (fun a b=>?_) rs
  ·rw[adh] at h k ⊢
   cases hca:Op.bytesLess c.1 a.1
   ·rfl
   ·rcases rY b.1 c.1 with q|q|q
    ·have:=nY _ _ _ q hca;rw[h] at this;cases this
    ·rw[q] at h;rw[h] at hca;cases hca
    ·rw[k] at q;cases q
  ·cases hba:Op.bytesLess b.1 a.1
   ·rfl
   ·rw[rZ _ _ hba];rfl
 exact this.imp fun h=>by simpa using h
theorem aff {rs L:List Row}(hp:L.Perm rs)(hs:L.Pairwise fun x y=>Op.bytesLess y.1 x.1=false)(hn:(rs.map (·.1)).Nodup):L=vT rs:=by
 refine List.Perm.eq_of_pairwise (le:=fun x y:Row=>Op.bytesLess y.1 x.1=false) (fun a b ha hb h k=>?_) hs (ab5 rs) (hp.trans (Ce rs).symm)
 have ha':=hp.mem_iff.1 ha
 have hb':=(Ce rs).mem_iff.1 hb
 have he:a.1=b.1:=by
  rcases rY a.1 b.1 with q|q|q
  ·rw[k] at q;cases q
  ·exact q
  ·rw[h] at q;cases q
 obtain⟨i,hi,rfl⟩:=aja.1 ha'
 obtain⟨j,hj,rfl⟩:=aja.1 hb'
 have:=(apb (h₀:=by simpa using hi) (h₁:=by simpa using hj) hn).1 (by simpa using he)
 subst this;rfl
def vOf (us:Array Value)(j:Nat):{v:Value // v.oneCell'=true}:=if h:((us[j * 2+1]?).getD (.int .i64 0)).oneCell'=true then ⟨_,h⟩ else ⟨.int .i64 0,rfl⟩
def Nz (us:Array Value)(rs:List Row):List RV:=rs.mapIdx fun j r=>(r,vOf us j)
theorem pq (us:Array Value)(rs:List Row):(Nz us rs).length=rs.length:=by simp[Nz]
theorem afg (us:Array Value)(rs:List Row)(j:Nat)(h:j<rs.length):(Nz us rs)[j]'(by rw[pq];exact h)=(rs[j],vOf us j):=by simp[Nz]
theorem aio (us:Array Value)(rs:List Row):(Nz us rs).map (·.1)=rs:=by
 refine List.ext_getElem (by simp[Nz]) fun j h1 h2=>?_
 simp[Nz]
theorem afh {us:Array Value}{j:Nat}{u:Value}(h:us[j * 2+1]?=some u)(h1:u.oneCell'=true):(vOf us j).1=u:=by
 unfold vOf
 rw[h];simp[h1]
theorem afi {us:Array Value}{rs:List Row}(hn:(rs.map (·.1)).Nodup){d':Array RV}(hp:PermIn 0 (Nz us rs).toArray.size (Nz us rs).toArray d')(hs:SortedIn (ltOf YK) 0 (Nz us rs).toArray.size d'):d'.size=rs.length∧d'.toList.map (·.1)=vT rs∧∀x∈d'.toList,∃(j:Nat) (h:j<rs.length),x=(rs[j],vOf us j):=by
 obtain⟨h1,_,h3⟩:=hp
 have hsz:(Nz us rs).toArray.size=rs.length:=by simp[pq]
 have hd:d'.size=rs.length:=h1.trans hsz
 have hpm:d'.toList.Perm (Nz us rs):=by
  have e1:d'.extract 0 (Nz us rs).toArray.size=d':=by rw[← h1];exact Array.extract_size
  have e2:(Nz us rs).toArray.extract 0 (Nz us rs).toArray.size=(Nz us rs).toArray:=Array.extract_size
  rw[e1,e2] at h3;exact h3
 refine⟨hd,?_,fun x hx=>?_⟩
 ·refine aff ?_ ?_ hn
  ·have:=hpm.map (·.1)
   rwa [aio] at this
  ·rw[List.pairwise_map,List.pairwise_iff_getElem]
   intro i j hi hj hij
   have:=hs i j (ada _) hij (by rw[hsz,← hd];simpa using hj)
   rw[ltR,getElem!_pos d' j (by simpa using hj),getElem!_pos d' i (by simpa using hi)] at this
   simpa using this
 ·obtain⟨j,hj,rfl⟩:=aja.1 (hpm.mem_iff.1 hx)
  rw[pq] at hj
  exact⟨j,hj,afg us rs j hj⟩
theorem zf (rs:List Row)(t:Nat)(ht:t<rs.length * 2):(jC rs)[t]?=(rs[t / 2]'(by omega)).cs[t % 2]?:=by
 have hk:t / 2<rs.length:=by omega
 have h:=zM (rs.map Row.cs) (t / 2) (Ad rs)
 have hk2:t / 2<(rs.map Row.cs).length:=by simpa using hk
 rw[bZ hk2,amb] at h
 have e:(jC rs)[t]?=((jC rs).drop (t / 2 * 2))[t % 2]?:=by rw[ahz];congr 1;omega
 rw[e,jC,h,ag2 (by rw[Ad rs _ (adb _)];omega)]
 simp
theorem NC (d:Array RV)(t:Nat)(ht:t<d.size * 2):(Sort.flatK encR 2 d)[t]! = (encR (d[t / 2]'(by omega)))[t % 2]! := by
 rw[Sort.get_flatK _ _ _ _ ht,getElem!_pos d (t / 2) (by omega)]
theorem ab6 (d:Array RV)(t:Nat)(ht:t<d.size * 2):((Sort.flatK encR 2 d)[t]!).oneCell'=true:=by
 rw[NC d t ht]
 rcases Nat.mod_two_eq_zero_or_one t with h|h <;> rw[h]
 ·rfl
 ·exact (d[t / 2]'(by omega)).2.2
theorem alA {M:Nat→Nat→Prop}{γ:Nat→Option G}{w:World}{f:Fn}{v:Value}(h:Rep M γ w (.fn f [] []) v):v= .func f #[] #[]:=by
 cases h with
 |fn hf hk _ _=>
  have h1:=aoJ (by simpa using hf)
  have h2:=aoJ (by simpa using hk)
  subst h1;subst h2;rfl
theorem aip (rs:List Row)(rest:List (Nat × bf))(hn:rs.length≤1099511627776)(hnd:(rs.map (·.1)).Nodup):aF Pr 159 [.arr 2 2 rs.length,.fn (.func 160) [] []] ((2,.arr 75 (jC rs))::rest) (.aQ []) ((2,.arr 75 (jC (vT rs)))::rest):=by
 refine aF.rows (by rw[nD,nD,rE]) (dH Tryz.func159 (by kernel_rfl) (by kernel_rfl)) fun M γ w vs B cap z us hst hl hr hγ hB hsz hle h1 hrr=>?_
 match vs,hl with
 | [v0,v1],_=>
  have q1:=alA (hr 1 _ _ rfl rfl)
  subst q1
  have q0:=hr 0 _ _ rfl rfl
  generalize hv0:v0=v0' at q0
  cases q0 with
  | @arr _ B' _ n cap' hγ' hn'=>
   rw[hγ] at hγ'
   cases hγ'
   subst hv0
   rw[nD] at hle h1
   have hus:∀t (ht:t<rs.length * 2),us[t]?=some (Sort.flatK encR 2 (Nz us rs).toArray)[t]! := by
    intro t ht
    have hk:t / 2<rs.length:=by omega
    have hu:=adr (show t<us.size by omega)
    rw[NC _ t (by simpa [pq] using ht)]
    have hd:(Nz us rs).toArray[t / 2]'(by simpa [pq] using hk)=(rs[t / 2],vOf us (t / 2)):=by simpa using afg us rs (t / 2) hk
    rw[hd,hu]
    have hc:=zf rs t ht
    rcases Nat.mod_two_eq_zero_or_one t with h|h <;> rw[h] at hc ⊢
    ·have h3:=hrr t _ _ hc hu
     obtain⟨s,hs,e⟩:=str_inj h3
     show some us[t]=some (encStr _)
     rw[hs,encStr,← e]
    ·have ht2:t / 2 * 2+1=t:=by omega
     show some us[t]=some (vOf us (t / 2)).1
     rw[afh (by rw[ht2];exact hu) (h1 t _ ht hu).1]
   have hH:HoldsK encR 2 w B 0 (Nz us rs).toArray:=by
    intro t ht
    rw[size_flatK] at ht
    have ht':t<rs.length * 2:=by simpa [pq] using ht
    have hu:=hus t ht'
    refine⟨?_,?_⟩
    ·rw[cell_of_row w B (0+t) us 75 _ hB,ade,hu];rfl
    ·rw[ade];exact (h1 t _ ht' hu).2
   have hblk:B<w.heap.size:=(ag6.1 hB).1
   have eg:∀args w,(callFunc 160 args).run Tryz.prog w= .ok (.enter 160 args) w:=enters_of Tryz.func160 (by kernel_rfl) rfl
   have hcon:=AnyQ.slices_SortFunc Tryz.sortAt 2 Tryz.isAgg75 Tryz.sizeOf75 encR (fun _=>rfl) (fun x v hv=>by simp[encR] at hv;rcases hv with rfl|rfl;rfl;exact x.2.2) YK apO 160 #[] B 0 cap (Nz us rs).toArray w eg (fun _ _ _ _ x y=>afe x y _) hH hblk (by simp[pq];omega)
   change Calls Tryz.prog 159 _ _ _ at hcon
   rw[show (Nz us rs).toArray.size=rs.length by simp[pq]] at hcon
   refine hcon.mono ?_
   rintro e w' ⟨rfl,d',m,os,hpm,hso,rfl⟩
   obtain⟨hds,hdf,hde⟩:=afi hnd (by rw[show (Nz us rs).toArray.size=rs.length by simp[pq]];exact hpm) (by rw[show (Nz us rs).toArray.size=rs.length by simp[pq]];exact hso)
   have hwB:(sortWorldK encR 2 w B 0 m d' os).heap[B]?=some (.cells (putCells id 0 (Sort.flatK encR 2 d') us) 75 (0,0)):=by
    unfold sortWorldK
    rw[heap_grow_old _ _ (by rw[size_putRowK];exact hblk)]
    simp only[putRowK,putRow,mapBlock,Sort.ahead,amk,if_true,hB,aiD,onCells]
   have hat:∀t,t<rs.length * 2→(putCells id 0 (Sort.flatK encR 2 d') us)[t]?=some (Sort.flatK encR 2 d')[t]! := by
    intro t ht
    have hlt:t<us.size:=by omega
    simp only[putCells,Array.getElem?_mapIdx,adr hlt,aiD,size_flatK,ade,ada,true_and,Nat.sub_zero,id]
    rw[if_pos (by rw[hds];exact ht)]
   refine⟨_,putCells id 0 (Sort.flatK encR 2 d') us,rfl,by simp[putCells],hwB,fun k hk hkB=>?_,?_,⟨rfl,rfl,rfl⟩,fun i v hi hv=>?_,fun i d v hd hv=>?_,.aQ rfl (by simp)⟩
   ·unfold sortWorldK
    rw[heap_grow_old _ _ (by rw[size_putRowK];exact hk)]
    simp only[putRowK,putRow,mapBlock,Sort.ahead,amk,if_neg (Ne.symm hkB)]
   ·exact size_sortWorldK_c encR 2 w B 0 m d' os
   ·rw[nD] at hi
    rw[hat i hi] at hv
    cases hv
    exact ab6 _ _ (by rw[hds];exact hi)
   ·have hi:i<rs.length * 2:=by
     have:=(acR.1 hd).1
     rw[nD,rE] at this;exact this
    rw[hat i hi] at hv
    cases hv
    have hk:i / 2<d'.size:=by omega
    rw[NC d' i (by rw[hds];exact hi)]
    rw[zf _ i (by rw[rE];exact hi)] at hd
    obtain⟨j,hj,hx⟩:=hde d'[i / 2] (by simp)
    have hrow:(vT rs)[i / 2]'(by rw[rE];omega)=rs[j]:=by
     have:(d'.toList.map (·.1))[i / 2]'(by simpa using hk)=rs[j]:=by
      rw[List.getElem_map]
      have:d'.toList[i / 2]'(by simpa using hk)=d'[i / 2]:=by simp
      rw[this,hx]
     rw[← this];congr 1;exact hdf.symm
    rw[hrow] at hd
    rw[hx]
    rcases Nat.mod_two_eq_zero_or_one i with h|h <;> rw[h] at hd ⊢
    ·cases hd;exact sW rfl
    ·cases hd
     have ht:j * 2+1<rs.length * 2:=by omega
     have hc:=zf rs (j * 2+1) ht
     have e1:(j * 2+1) / 2=j:=by omega
     have e2:(j * 2+1) % 2=1:=by omega
     simp only[e1,e2] at hc
     have hu:=adr (show j * 2+1<us.size by omega)
     have:=hrr _ _ _ hc hu
     show Rep _ _ _ _ (vOf us j).1
     rw[afh hu (h1 _ _ ht hu).1];exact this
end Go.Proofs
set_option maxRecDepth 10000
namespace Go.Proofs
open Go Go.Id
theorem Ub (a:Nat)(vs:List (List UInt8))(hn:vs.length≤1099511627776)(hne:∀(j:Nat) (h:j+1<vs.length),(vs[j+1] == vs[j])=false):aF Pr 158 [.arr a 1 vs.length] [(a,.arr 9 (vs.map .str))] (.arr a 1 vs.length) [(a,.arr 9 (vs.map .str))]:=by
 obtain⟨f,g,h1,h2⟩:=lg [a] (by simp)
 have:=aF.rename h1 (ab4 vs hn hne)
 have f0:f 0=a:=h2 0 a rfl
 simpa [kC,lU,bK,iG,aan,f0] using this
theorem aj.aj1 {P:dF}{fo:D}{args:List D}{σ:List (Nat × bf)}{K:D→Rec→Prop}{k:FuncId}{first cap ds:List D}{rest:List (Nat × bf)}{b:Nat}{x y:bf}{val:D}(h:aF P k ds ((b,x)::rest) val ((b,y)::rest))(hfo:fo= .fn (.func k) first cap)(has:ds=(first++args++cap).map fg)
  (hin:∀p∈((b,x)::rest),lk σ p.1=some p.2∧aB (fun i=>(lk ((b,x)::rest) i).isSome=true) p.2) (hcl:∀d∈ds,bY (fun i=>(lk ((b,x)::rest) i).isSome=true) d) (hk:∀ws BH,(∀c,laid (lk σ) ws c=if c=b then some y else lk σ c)→K val ⟨BH,ws⟩):aj P fo args σ K:=by
 have hr:∀p∈rest,(lk rest p.1).isSome=true:=fun p hp=>by
  have:∀(l:List (Nat × bf)),p∈l→(lk l p.1).isSome=true:=fun l=>by
   induction l with
   |nil=>intro h;cases h
   |cons q l ih=>
    intro h
    obtain⟨c,z⟩:=q
    simp only[lk]
    split
    ·rfl
    ·rename_i hne
     rcases ael.1 h with rfl|h
     ·exact absurd rfl hne
     ·exact ih h
  exact this rest hp
 refine aj.imp h hfo has hin (fun p hp=> .inl ?_) hcl (hk _ _ fun c=>?_)
 ·simp only[ael] at hp
  rcases hp with rfl|hp
  ·simp[lk]
  ·simp only[lk];split
   ·rfl
   ·exact hr p hp
 ·simp only[laid]
  by_cases hc:c=b
  ·simp[lk,hc]
  ·simp only[lk,if_neg hc]
   have h2:∀p∈rest,p.1≠b→lk σ p.1=some p.2:=fun p hp _=>(hin p (by simp[hp])).1
   cases hl:lk rest c with
   |none=>rfl
   |some z=>exact (h2 _ (iZ _ _ _ hl) (by exact hc)).symm
theorem aiq (F:List (Nat × D))(σ:List (Nat × bf))(ws:List (Nat × bf))(t:Nat)(d:D):((⟨F,σ⟩:St).lay ws).put (some t) d=⟨((⟨F,[]⟩:St).put (some t) d).F,((⟨F,σ⟩:St).lay ws).σ⟩:=by
 cases ws <;> rfl
theorem Weak.apP {ent:List Nat}{st st':St}{F:List (Nat × D)}{ws:List (Nat × bf)}{b:Nat}{y:bf}(hw:∀c,laid (lk st.σ) ws c=if c=b then some y else lk st.σ c)(hF:∀p∈st'.F,Le ((⟨F,[]⟩:St).get p.1) p.2)(hσ:∀c,lk st'.σ c=if c=b then some y else lk st.σ c):Weak ent ⟨F,(st.lay ws).σ⟩ st':=
 Weak.rP hF fun c=>by rw[hσ c,lay_σ,hw c]
def kV:Nat→List At→List Row
 | _,[]=>[]
 |i,a::l=>(bG a.name,3 * i+5,a.vals.length)::kV (i+1) l
def jD:Nat→List (List (List UInt8))→List (Nat × bf)
 | _,[]=>[]
 |i,v::vs=>(3 * i+5,.arr 9 (v.map .str))::jD (i+1) vs
theorem iJ:∀(i:Nat) (l:List At),(kV i l).length=l.length
 | _,[]=>rfl
 |i,a::l=>by simp[kV,iJ (i+1) l]
theorem En:∀(i:Nat) (l:List At) (j:Nat) (h:j<l.length),(kV i l)[j]?=some (bG l[j].name,3 * (i+j)+5,l[j].vals.length)
 | _,[],j,h=>by simp at h
 |i,a::l,0,h=>by simp[kV]
 |i,a::l,j+1,h=>by
  have:=En (i+1) l j (by simpa using h)
  rw[kV,amG,this,show i+1+j=i+(j+1) by omega];rfl
theorem WB:∀(i:Nat) (l:List At),(kV i l).map (·.1)=l.map fun a=>bG a.name
 | _,[]=>rfl
 |i,a::l=>by simp[kV,WB (i+1) l]
theorem Ci:∀(i:Nat) (vs:List (List (List UInt8))) (b:Nat),(∀j,j<vs.length→b≠3 * (i+j)+5)→lk (jD i vs) b=none
 | _,[],_,_=>rfl
 |i,v::vs,b,h=>by
  simp only[jD,lk]
  rw[if_neg (by have:=h 0 (by simp);simpa using this)]
  exact Ci (i+1) vs b fun j hj=>by have:=h (j+1) (by simpa using hj);rw[show i+1+j=i+(j+1) by omega];exact this
theorem Eo:∀(i:Nat) (vs:List (List (List UInt8))) (j:Nat) (h:j<vs.length),lk (jD i vs) (3 * (i+j)+5)=some (.arr 9 (vs[j].map .str))
 | _,[],j,h=>by simp at h
 |i,v::vs,0,h=>by simp[jD,lk]
 |i,v::vs,j+1,h=>by
  have:=Eo (i+1) vs j (by simpa using h)
  rw[show i+1+j=i+(j+1) by omega] at this
  simp only[jD,lk,List.getElem_cons_succ]
  rw[if_neg (by omega)];exact this
theorem F8:∀(i:Nat) (vs:List (List (List UInt8))) (p:Nat × bf),p∈jD i vs→∃(j:Nat) (h:j<vs.length),p=(3 * (i+j)+5,.arr 9 (vs[j].map .str))
 | _,[],p,h=>by simp[jD] at h
 |i,v::vs,p,h=>by
  simp only[jD,ael] at h
  rcases h with rfl|h
  ·exact⟨0,by simp,by simp⟩
  ·obtain⟨j,hj,rfl⟩:=F8 (i+1) vs p h
   exact⟨j+1,by simpa using hj,by rw[show i+(j+1)=i+1+j by omega];rfl⟩
theorem ab7 (l:List At){st:St}(hσ0:st.σ=(2,.arr 75 (cO 0 l).flatten)::gy 0 l){F':List (Nat × D)}(hF:∀p∈F',∃n,p.2= .arr 2 2 n∧st.get p.1=p.2):Weak [] st ⟨F',(2,.arr 75 (jC (kV 0 l)))::jD 0 (l.map (·.vals))⟩:=by
 have h2:lk st.σ 2=some (.arr 75 (cO 0 l).flatten):=by rw[hσ0];simp[lk]
 have hlk:∀j (h:j<l.length),lk st.σ (3 * j+5)=some (.aI 9 1 l[j].vals.length):=fun j h=>by
  rw[hσ0];simp only[lk];rw[if_neg (by omega)]
  have:=yY 0 l j h
  rwa [ade] at this
 have anH:∀j (h:j<l.length),lk ((2,bf.arr 75 (jC (kV 0 l)))::jD 0 (l.map (·.vals))) (3 * j+5)=some (.arr 9 (l[j].vals.map .str)):=fun j h=>by
  simp only[lk];rw[if_neg (by omega)]
  have:=Eo 0 (l.map (·.vals)) j (by simpa using h)
  rw[ade] at this;rw[this];simp
 refine Weak.ahy 2 75 9 2 (cO 0 l).flatten (jC (kV 0 l)) h2 (by simp[lk]) (by rw[nD,iJ,wX]) (fun t d d' hd hd'=>?_) hF (fun i hi=>?_)
 ·have htl:t<l.length * 2:=by rw[← wX 0 l];exact (acR.1 hd).1
  have hk:t / 2<l.length:=by omega
  obtain⟨x,hx,hxd⟩:=wC (cO 0 l) (Ac 0 l) t d hd
  rw[Ei 0 l (t / 2) hk] at hx
  cases hx
  have hr:=zf (kV 0 l) t (by rw[iJ];exact htl)
  rw[hd'] at hr
  have hra:=En 0 l (t / 2) hk
  rw[abt (by rw[iJ];exact hk)] at hra
  rw[al6 hra] at hr
  rcases Nat.mod_two_eq_zero_or_one t with h|h <;> rw[h] at hr hxd
  ·cases hr;cases hxd;exact .inl ⟨_,rfl,rfl⟩
  ·cases hr;cases hxd
   rw[ade]
   exact .inr ⟨_,l[t / 2].vals,by simp[Ua],rfl,hlk _ hk,anH _ hk⟩
 ·by_cases h:∃j,j<l.length∧i=3 * j+5
  ·obtain⟨j,hj,rfl⟩:=h
   refine .inr ⟨l[j].vals,j * 2+1,hlk j hj,anH j hj,?_⟩
   have:=Cb 0 l hj
   have e:(cO 0 l).flatten[j * 2+1]?=((cO 0 l).flatten.drop (j * 2))[1]?:=by rw[ahz]
   rw[e,this,ade];rfl
  ·refine .inl ⟨?_,?_⟩
   ·rw[hσ0];simp only[lk];rw[if_neg hi]
    exact Nv 0 l i fun j hj e=>h ⟨j,hj,by rw[ade] at e;exact e⟩
   ·simp only[lk];rw[if_neg hi]
    exact Ci 0 _ i fun j hj e=>h ⟨j,by simpa using hj,by rw[ade] at e;exact e⟩
def Jp (l:List At)(k:Nat):List (List (List UInt8)):=(l.take k).map (fun a=>bU a.vals)++(l.drop k).map (·.vals)
theorem anI (l:List At):Jp l 0=l.map (·.vals):=by simp[Jp]
theorem Uc (l:List At)(k:Nat):(Jp l k).length=l.length:=by simp[Jp];omega
theorem F9 {l:List At}{k j:Nat}(hj:j<l.length):(Jp l k)[j]?=some (if j<k then bU l[j].vals else l[j].vals):=by
 unfold Jp
 by_cases h:j<k
 ·rw[ag2 (by simp;omega),if_pos h]
  simp[ag3,h,abt hj]
 ·rw[ag7 (by simp;omega),if_neg h]
  simp only[ac',adg,adw,ahz]
  rw[show k+(j - min k l.length)=j by omega,abt hj];rfl
theorem zh (l:List At)(k:Nat)(c:Nat):lk (jD 0 (Jp l k)) c=if h:∃j,j<l.length∧c=3 * j+5 then (Jp l k)[(c - 5) / 3]?.map fun v=> .arr 9 (v.map .str) else none:=by
 split
 ·rename_i h
  obtain⟨j,hj,rfl⟩:=h
  have:=Eo 0 (Jp l k) j (by rw[Uc];exact hj)
  rw[ade] at this
  rw[this,show (3 * j+5 - 5) / 3=j by omega,abt (by rw[Uc];exact hj)];rfl
 ·rename_i h
  exact Ci 0 _ c fun j hj e=>h ⟨j,by rw[Uc] at hj;exact hj,by rw[ade] at e;exact e⟩
theorem ND {l:List At}{k:Nat}(hk:k<l.length)(c:Nat):lk (jD 0 (Jp l (k+1))) c=if c=3 * k+5 then some (.arr 9 ((bU l[k].vals).map .str)) else lk (jD 0 (Jp l k)) c:=by
 rw[zh,zh]
 by_cases hc:c=3 * k+5
 ·rw[if_pos hc,dif_pos ⟨k,hk,hc⟩,hc,show (3 * k+5 - 5) / 3=k by omega,F9 hk,if_pos (by omega)];rfl
 ·rw[if_neg hc]
  split
  ·rename_i h
   obtain⟨j,hj,rfl⟩:=h
   rw[show (3 * j+5 - 5) / 3=j by omega,F9 hj,F9 hj]
   have:j≠k:=fun e=>hc (by rw[e])
   by_cases hjk:j<k
   ·rw[if_pos hjk,if_pos (by omega)]
   ·rw[if_neg hjk,if_neg (by omega)]
  ·rfl
theorem ab8 {l:List At}{k:Nat}(hk:k<l.length):lk (jD 0 (Jp l k)) (3 * k+5)=some (.arr 9 (l[k].vals.map .str)):=by
 rw[zh,dif_pos ⟨k,hk,rfl⟩,show (3 * k+5 - 5) / 3=k by omega,F9 hk,if_neg (by omega)];rfl
theorem YL {l:List At}{k:Nat}(hk:k<l.length):lk (jD 0 (Jp l (k+1))) (3 * k+5)=some (.arr 9 ((bU l[k].vals).map .str)):=by
 rw[ND hk,if_pos rfl]
theorem NG {l:List At}{k:Nat}(hk:k<l.length):(jC (kV 0 l)).drop (k * 2+1)= .arr (3 * k+5) 1 l[k].vals.length::(jC (kV 0 l)).drop (k * 2+1+1):=by
 have hl:k * 2+1<(jC (kV 0 l)).length:=by rw[nD,iJ];omega
 rw[bZ hl]
 have:=zf (kV 0 l) (k * 2+1) (by rw[iJ];omega)
 have hr:=En 0 l k hk
 rw[abt (by rw[iJ];exact hk)] at hr
 rw[abt hl] at this
 have e1:(k * 2+1) / 2=k:=by omega
 have e2:(k * 2+1) % 2=1:=by omega
 simp only[e1,e2,al6 hr,Row.cs] at this
 rw[al6 this,ade]
theorem WC {l:List At}{k:Nat}(hk:k<l.length):(jC (kV 0 l)).take (k * 2+1)++[D.arr (3 * k+5) 1 l[k].vals.length]++(jC (kV 0 l)).drop (k * 2+1+1)=jC (kV 0 l):=by
 rw[List.append_assoc,aoj,← NG hk,aki]
theorem ab9 {l:List (List UInt8)}(h:l.Nodup)(j:Nat)(hj:j+1<(bU l).length):((bU l)[j+1] == (bU l)[j])=false:=by
 have hn:(bU l).Nodup:=(BU l).nodup_iff.2 h
 refine beq_eq_false_iff_ne.2 fun e=>?_
 have:=(apb hn).1 e
 omega
theorem ab_ {l:List At}(h:(l.map fun a=>bG a.name).Nodup)(k:Nat)(hk:k<l.length):∀a∈l.take k,(bG a.name == bG l[k].name)=false:=by
 intro a ha
 obtain⟨j,hj,rfl⟩:=aja.1 ha
 have hjk:j<k:=by rw[adg] at hj;omega
 have hjl:j<l.length:=by omega
 rw[aoQ]
 refine beq_eq_false_iff_ne.2 fun e=>?_
 have:=(apb (h₀:=by simpa using hjl) (h₁:=by simpa using hk) h).1 (by simpa using e)
 omega
def XH (a:At):At:=⟨bG a.name,false,bU a.vals⟩
def leA (x y:At):Bool:=!Op.bytesLess y.name x.name
def jh (l:List At):List At:=(l.map XH).mergeSort leA
theorem Ae (l:List At):(jh l).length=l.length:=by simp[jh]
def gR (l:List At)(r:Row):At:=match l[(r.2.1 - 5) / 3]? with
 |some a=>XH a
 |none=>⟨r.1,false,[]⟩
theorem Ep {l:List At}{r:Row}(h:r∈kV 0 l):∃(j:Nat) (hj:j<l.length),r=(bG l[j].name,3 * j+5,l[j].vals.length):=by
 obtain⟨j,hj,rfl⟩:=aja.1 h
 rw[iJ] at hj
 have:=En 0 l j hj
 rw[abt (by rw[iJ];exact hj)] at this
 exact⟨j,hj,by rw[al6 this,ade]⟩
theorem aat {l:List At}{j:Nat}(hj:j<l.length)(n:Nat)(s:List UInt8):gR l (s,3 * j+5,n)=XH l[j]:=by
 unfold gR
 simp only
 rw[show (3 * j+5 - 5) / 3=j by omega,abt hj]
theorem acd (l:List At):(vT (kV 0 l)).map (gR l)=jh l:=by
 unfold vT jh
 rw[List.map_mergeSort (s:=leA)]
 ·congr 1
  refine List.ext_getElem (by simp[iJ]) fun j h1 h2=>?_
  rw[List.getElem_map,List.getElem_map]
  have hj:j<l.length:=by simpa using h2
  have:=En 0 l j hj
  rw[abt (by rw[iJ];exact hj)] at this
  rw[al6 this,ade,aat hj]
 ·intro a ha b hb
  obtain⟨i,hi,rfl⟩:=Ep ha
  obtain⟨j,hj,rfl⟩:=Ep hb
  rw[aat hi,aat hj];rfl
theorem Rl (ls:List (List UInt8)):ls.map D.str=(pU ls).flatten:=by
 induction ls with
 |nil=>rfl
 |cons a l ih=>simp only[pU,ag1,amb,aoj] at ih ⊢;rw[ih]
theorem YM (l:List At){st:St}(hσ:∀c,lk st.σ c=lk ((2,bf.arr 75 (jC (vT (kV 0 l))))::jD 0 (Jp l l.length)) c)(h3:st.get 3= .arr 2 2 l.length):Weak [] st ⟨[(3,.slice 2 false ((jh l).map At.cs) none)],[]⟩:=by
 refine Weak.thaw rfl ?_
 simp only[ad1,forall_eq]
 rw[h3]
 have hl:l.length=((vT (kV 0 l)).map Row.cs).length:=by rw[ac',rE,iJ]
 rw[hl]
 refine .arr (es:=(vT (kV 0 l)).map Row.cs) (rest:=[]) (by rw[hσ];simp only[lk,↓reduceIte,akz];rfl) (Ad _) (by simp[Ae,rE,iJ]) (fun x hx=>by obtain⟨a,_,rfl⟩:=List.mem_map.1 hx;rfl) (by decide) (fun i j x y d d' hx hy hd hd'=>?_)
 rw[adw,abR] at hx
 obtain⟨r,hr,rfl⟩:=hx
 rw[← acd,List.map_map,adw,hr] at hy
 obtain⟨k,hk,rfl⟩:=Ep ((Ce _).mem_iff.1 (ac8 hr))
 simp only[aiD,Function.comp,aat hk,abr] at hy
 subst hy
 have hb:lk st.σ (3 * k+5)=some (.arr 9 ((bU l[k].vals).map .str)):=by
  rw[hσ];simp only[lk];rw[if_neg (by omega)]
  rw[zh,dif_pos ⟨k,hk,rfl⟩,show (3 * k+5 - 5) / 3=k by omega,F9 hk,if_pos hk];rfl
 match j with
 | 0=>cases hd;cases hd';exact .str _
 | 1=>
  cases hd;cases hd'
  have hn:l[k].vals.length=(pU (bU l[k].vals)).length:=by rw[rQ,dL]
  show JE _ (.arr (3 * k+5) 1 l[k].vals.length) (.slice 1 false (pU (bU l[k].vals)) none)
  rw[hn]
  refine .arr (rest:=[]) (by rw[hb,akz];congr 2;exact Rl _) (fun x hx=>by obtain⟨s,_,rfl⟩:=List.mem_map.1 hx;rfl) rfl (fun x hx=>by obtain⟨s,_,rfl⟩:=List.mem_map.1 hx;rfl) (by decide) (fun i j x y d d' hx hy hd hd'=>?_)
  rw[hx] at hy;cases hy
  rw[hd] at hd';cases hd'
  obtain⟨s,_,rfl⟩:=List.mem_map.1 (ac8 hx)
  have:=ac8 hd
  simp only[ad1] at this
  subst this;exact .str _
 |j+2=>simp[Row.cs] at hd
theorem ace (l:List At)(k:Nat){S:Nat→Prop}:∀p∈jD 0 (Jp l k),aB S p.2:=by
 intro p hp
 obtain⟨j,hj,rfl⟩:=F8 0 _ p hp
 intro d hd
 obtain⟨s,_,rfl⟩:=List.mem_map.1 hd
 exact .str _
theorem acf {l:List At}{rs:List Row}(hr:∀r∈rs,r∈kV 0 l)(k:Nat)(x:bf):∀d∈jC rs,bY (fun i=>(lk ((2,x)::jD 0 (Jp l k)) i).isSome=true) d:=by
 intro d hd
 obtain⟨y,hy,hd⟩:=List.mem_flatten.1 hd
 obtain⟨r,hr',rfl⟩:=List.mem_map.1 hy
 obtain⟨j,hj,rfl⟩:=Ep (hr r hr')
 simp only[Row.cs,ael,akg,or_false] at hd
 rcases hd with rfl|rfl
 ·exact .str _
 ·refine .arr ?_
  simp only[lk];rw[if_neg (by omega),zh,dif_pos ⟨j,hj,rfl⟩,show (3 * j+5 - 5) / 3=j by omega,F9 hj];rfl
theorem acg (l:List At)(k:Nat):∀p∈((2,bf.arr 75 (jC (kV 0 l)))::jD 0 (Jp l k)),lk ((2,bf.arr 75 (jC (kV 0 l)))::jD 0 (Jp l k)) p.1=some p.2∧aB (fun i=>(lk ((2,bf.arr 75 (jC (kV 0 l)))::jD 0 (Jp l k)) i).isSome=true) p.2:=by
 intro p hp
 simp only[ael] at hp
 rcases hp with rfl|hp
 ·exact⟨by simp[lk],acf (fun r h=>h) k _⟩
 ·refine⟨?_,ace l k p hp⟩
  obtain⟨j,hj,rfl⟩:=F8 0 _ p hp
  simp only[lk];rw[if_neg (by omega)]
  exact Eo 0 _ j hj
set_option maxRecDepth 10000
set_option maxHeartbeats 4000000
theorem Ud (l:List At)(nl:Bool)(hn:l.length≤1099511627776)(hnl:nl=true→l=[])(hl:∀a∈l,a.ok)(h0:l≠[])(hval:∀a∈l,a.vals≠[])(hdup:∀a∈l,a.vals.Nodup)(hnd:(l.map fun a=>bG a.name).Nodup):ay Pr 96 [.slice 2 nl (l.map At.cs) none] (.slice 2 false ((jh l).map At.cs) none):=by
 have hnew:∀(k:Nat) (hk:k<l.length),∀a∈l.take k,(bG a.name == bG l[k].name)=false:=ab_ hnd
 have hl0:0<l.length:=akT.2 h0
 refine ay.of_wp Tryz.func96 rfl (by kernel_rfl) Tryz.ntmps96 (by simp) ?_
 simp only[aT]
 refine aG 1 [0] ?_
 refine aG 2 [0,3] ?_
 refine aG 2 [3,9,10,11] ?_
 refine WP.lp [9,10] (X:={k:Nat // k≤l.length}) (fun x=>match x with| ⟨(k),_⟩=>[(3,Cc k),(11,.int .i64 k)]) (fun x=>match x with| ⟨(k),_⟩=>(outT (l.take k))) (fun x=>match x with| ⟨(k),_⟩=>l.length - k) (by simp +decide only[W,↓reduceIte];rfl) ?_ ⟨(0),ada _⟩ ?_
 rotate_left
 · refine Weak.trans (Weak.ghost 2 75 2 (F':=[(11,.int .i64 0),(10,.int .i64 l.length),(9,.slice 2 nl (l.map At.cs) none),(3,.slice 2 true [] (some 2))]) (σ':=[]) (by simp[lk]) (by simp[keep,ins,zO,wJ]) (by simp[BK])) ?_;exact Weak.store (by simp[St.get,lk,Le.refl,Cc]) (by simp[lk,outT]) (by simp[lk,outT,Cc,W]) (by simp[aB,lk,outT]) (by simp[lk])
 rintro ⟨k,hk⟩
 dsimp only
 simp only[abS,abT]
 refine aG 2 [3,9,10,11,12] ?_
 refine WP.cond (b:=_) rfl (fun q1=>?_) (fun q1=>?_)
 ·
  have hlt:=aO q1
  have hg:(l.map At.cs)[k]?=some [.str l[k].name,.slice 1 l[k].nl (l[k].vals.map fun x=>[.str x]) none]:=getM hlt
  have hnf:=aX hnl hlt
  have hok:=Jo (hl _ (adb hlt))
  have hpl:(l.take k).length=k:=by rw[adg];omega
  obtain⟨A,hA⟩:∃A,A=3 * k+3:=⟨_,rfl⟩
  have hfr:fresh (outT (l.take k))=A:=by rw[YI,hpl,hA]
  have mx1:max (A+1) A=A+1:=by omega
  have hdA:dl (outT (l.take k)) A=outT (l.take k):=aas _ _ (by omega) (by rw[hpl];omega)
  have hdB:dl (outT (l.take k)) (A+1)=outT (l.take k):=aas _ _ (by omega) (by rw[hpl];omega)
  have hk1:(k<k+1)=True:=eq_true (by omega)
  have hRl:(cO 0 (l.take k)).flatten.length=k * 2:=by rw[wX,hpl]
  have hd1:((cO 0 (l.take k)).flatten++[D.str (bG l[k].name),.slice 0 true [] none]).drop (k * 2+1)=[.slice 0 true [] none]:=ae8 hRl _ _
  have apQ:=(hl _ (adb hlt)).2.1
  have hve:(l[k].vals.map (fun x=>[D.str x])=[])=False:=eq_false (by simp;exact hval _ (adb hlt))
  have apR:max (2+1) (max (A+1+1) (max (A+1) (fresh (gy 0 (l.take k)))))=A+1+1:=by rw[yZ,hpl];split <;> omega
  have hdC:dl (gy 0 (l.take k)) (A+1+1)=gy 0 (l.take k):=Ej _ _ _ fun j hj=>by rw[hpl] at hj;omega
  have hd2:((cO 0 (l.take k)).flatten++[D.str (bG l[k].name),.slice 0 true [] none]).drop (k * 2+1+1)=[]:=ae9 hRl _ _
  have ht1:((cO 0 (l.take k)).flatten++[D.str (bG l[k].name),.slice 0 true [] none]).take (k * 2+1)=(cO 0 (l.take k)).flatten++[D.str (bG l[k].name)]:=ae_ hRl _ _
  have hL2:(k * 2+1+1≤((cO 0 (l.take k)).flatten++[D.str (bG l[k].name),.slice 0 true [] none]).length)=True:=eq_true (by rw[abf,hRl];simp)
  have hset:(cO 0 (l.take k)).flatten++[D.str (bG l[k].name)]++[D.slice 1 false (l[k].vals.map fun x=>[D.str x]) (some (A+1+1))]++[]=(cO 0 (l.take (k+1))).flatten:=by rw[YJ hlt];simp[Ua,pU,hA]
  have hdT:=Ej 0 (l.take k) 2 (fun j _=>by omega)
  have ne0:(A+1=A)=False:=eq_false (by omega)
  have ne1:(A=A+1)=False:=eq_false (by omega)
  have ne2:(2=A)=False:=eq_false (by omega)
  have ne3:(A=2)=False:=eq_false (by omega)
  have ne4:(2=A+1)=False:=eq_false (by omega)
  have ne5:(A+1=2)=False:=eq_false (by omega)
  have ne6:(A+1+1=2)=False:=eq_false (by omega)
  have ne7:(2=A+1+1)=False:=eq_false (by omega)
  have ne8:(A+1+1=A+1)=False:=eq_false (by omega)
  have ne9:(A+1=A+1+1)=False:=eq_false (by omega)
  have apU:(A+1+1=A)=False:=eq_false (by omega)
  have arP:(A=A+1+1)=False:=eq_false (by omega)
  refine zG6 4 [3,5,9,10,11] q1 hg hnf hfr mx1 hdA ?_
  refine OY 1 [3,5,6,9,10,11] (TV l[k].name hok.1) hfr mx1 hdB ne0 ?_
  refine WP.meet (⟨[(7,.int .i64 (-1)),(3,Cc k),(5,.ref A 0),(6,.ref (A+1) 0),(9,.slice 2 nl (l.map At.cs) none),(10,.int .i64 l.length),(11,.int .i64 k)],(A+1,.box 9 [.str (bG l[k].name)])::(A,.box 75 [.str l[k].name,.slice 1 l[k].nl (l[k].vals.map fun x=>[.str x]) none])::outT (l.take k)⟩) ?_ ?_
  ·
   refine WP.region (by kernel_rfl) fun K hK=>?_
   simp +decide only[TF,hfr,mx1,↓reduceIte]
   refine aj.keep (anG (l.take k) (A+1) (bG l[k].name) (by rw[hpl,hA]) (hnew k hlt) (by rw[hpl];omega) (afd _ _)) rfl (by rw[hpl];rfl) (fun p hp=>⟨aly (l.take k) (A+1) (by rw[hpl,hA]) _ A _ (by rw[hpl,hA]) p hp,ain (l.take k) (A+1) (bG l[k].name) (by rw[hpl,hA]) p hp⟩) (afc _ _ _ (by rw[hpl,hA])) ?_
   intro ws BH hws
   simp +decide only[TF,oZ,↓reduceIte]
   refine hK _ _ ?_
   show Weak _ _ _
   exact Weak.lay hws (by simp[St.get,lk,W,Wy,Le.refl,hnf]) (fun _=>rfl)
  ·
   refine oC 2 [3,5,6,7,9,10,11,22] hnf hfr mx1 ?_
   refine WP.cond (b:=true) (by rfl) (fun _=>?_) nofun
   refine WP.meet (⟨[(7,.int .i64 k),(3,Cc k),(5,.ref A 0),(6,.ref (A+1) 0),(9,.slice 2 nl (l.map At.cs) none),(10,.int .i64 l.length),(11,.int .i64 k)],(A+1,.box 9 [.str (bG l[k].name)])::(A,.box 75 [.str l[k].name,.slice 1 l[k].nl (l[k].vals.map fun x=>[.str x]) none])::outT (l.take k)⟩) ?_ ?_
   ·
    rcases aik k with⟨hk0,hov⟩|hov
    ·
     refine WP.region (by kernel_rfl) fun K hK=>?_
     simp +decide only[TF,hfr,mx1,hov,↓reduceIte]
     refine hK _ _ ?_
     show Weak _ _ _
     exact Weak.rP (by simp[St.get,lk,Le.refl,hnf,hov];try (rw[hk0];exact Le.refl _)) (fun _=>rfl)
    ·
     refine WP.region (by kernel_rfl) fun K hK=>?_
     simp +decide only[TF,hfr,mx1,hov,↓reduceIte]
     refine hK _ _ ?_
     show Weak _ _ _
     exact Weak.rP (by simp[St.get,lk,Le.refl,hnf,hov];try (rw[hk0];exact Le.refl _)) (fun _=>rfl)
   ·
    refine WP.amC (⟨[(7,.int .i64 k),(3,.arr 2 2 (k+1)),(5,.ref A 0),(9,.slice 2 nl (l.map At.cs) none),(10,.int .i64 l.length),(11,.int .i64 k)],(2,.arr 75 ((cO 0 (l.take k)).flatten++[.str (bG l[k].name),.slice 0 true [] none]))::((A+1,.box 9 [.str (bG l[k].name)])::(A,.box 75 [.str l[k].name,.slice 1 l[k].nl (l[k].vals.map fun x=>[.str x]) none])::gy 0 (l.take k))⟩) ?_ ?_
    ·
     refine WP.X_ 4 (by kernel_rfl) rfl rfl rfl fun K hK=>?_
     simp +decide only[TF,hnf,hfr,mx1,↓reduceIte]
     have hcs:∀d∈(cO 0 (l.take k)).flatten,bY (fun i=>i≠2) d:=Ri _ _ fun j _=>by omega
     refine hK _ _ ⟨75,2,40,2,k,(cO 0 (l.take k)).flatten,2,false,[[.str (bG l[k].name),.slice 0 true [] none]],_,[(7,.int .i64 k),(5,.ref A 0),(9,.slice 2 nl (l.map At.cs) none),(10,.int .i64 l.length),(11,.int .i64 k)],BL,xZ,?_,rfl,nofun,rfl,by decide,by simp;omega,by simp;omega,by simp,hcs,by simp,ab2 _ _ _ _ l[k],?_,?_⟩
     · exact ab3 (by have:=afa (l.take k);rw[hpl] at this;exact this) (by simp[lk,ne2,ne4])
     · simp[St.get,lk,hnf,ne3]
     ·
      intro K2 hK2
      simp +decide only[TF,hnf,ne2,ne4,↓reduceIte]
      refine hK2 _ _ ?_
      show Weak _ _ _
      exact Weak.rP (by simp[St.get,lk,Le.refl,hnf]) (fun j=>by simp[lk,afb])
    ·
     show WP _ _ _ _ _ _
     refine WP.drawn (by kernel_rfl) (by kernel_rfl) fun K hK=>?_
     simp +decide only[TF,hnf,hk1,hd1,hve,apR,ne1,ne2,ne3,ne4,ne6,ne7,ne8,apU,hdC,hd2,ht1,hL2,hset,hdT,↓reduceIte]
     refine⟨⟨by omega,by omega⟩,?_⟩
     refine hK _ _ (X8 [2,A,A+1+1] (by simp;omega) [([],[]),([],[]),([],[]),([],[]),([],[]),([],[]),([0],[]),([],[]),([1],[]),([2],[2]),([],[]),([],[]),([0],[0])] (by kernel_rfl) (fun f hf=>by have e0:=hf 0 _ rfl;have e1:=hf 1 _ rfl;have e2:=hf 2 _ rfl;(simp only[ag1,aj9,KO,e0,e1,e2]) <;> rfl)) ?_
     clear hK K
     show WP _ _ _ _ _ _
     refine aG 1 [] ?_
     show ∃y,_∧Weak _ _ _
     refine⟨⟨k+1,by omega⟩,?_,?_⟩
     · dsimp only;omega
     ·
      refine Weak.store (by simp[St.get,lk,Le.refl,hnf,Cc,aU hlt (show l.length≤140737488355328 by omega)]) (ab1 hlt (by simp[lk]) (by rw[show 3 * k+5=A+1+1 by omega];simp[lk,ne6]) (fun j hj=>by simp only[lk];rw[if_neg (by omega),if_neg (by omega),if_neg (by omega),if_neg (by omega)])) ?_ (Rj _) (by simp)
      have:=Ny (l:=l.take (k+1)) (by simp;exact h0)
      simp[Cc,this,lk]
 ·
  have hge:=aP q1
  have hkl:k=l.length:=by omega
  subst hkl
  simp only[ajy,Ny h0,ae' hl0]
  refine aG 1 [] ?_
  refine WP.meet (⟨[(3,.arr 2 2 l.length)],(2,.arr 75 (cO 0 l).flatten)::gy 0 l⟩) ?_ ?_
  ·
   refine WP.region (by kernel_rfl) fun K hK=>?_
   simp +decide only[TF,q1,↓reduceIte]
   refine aj.keep (alz l hval (by omega)) rfl rfl (kR l 2 [] (by simp) (by omega)) (by simp[lk]) ?_
   intro ws BH hws
   simp +decide only[TF,oZ,↓reduceIte]
   refine hK _ _ ?_
   show Weak _ _ _
   exact Weak.lay hws (by simp[St.get,lk,W,Wy,Le.refl]) (fun _=>rfl)
  refine WP.weak (ab7 l rfl (F':=[(3,.arr 2 2 l.length)]) (by simp[St.get,lk])) ?_
  rw[← anI]
  ·
   refine aG 3 [3,46,47] ?_
   refine WP.lp [3,46] (X:={k:Nat // k≤l.length}) (fun x=>match x with| ⟨(k),_⟩=>[(47,.int .i64 k)]) (fun x=>match x with| ⟨(k),_⟩=>((2,.arr 75 (jC (kV 0 l)))::jD 0 (Jp l k))) (fun x=>match x with| ⟨(k),_⟩=>l.length - k) (by simp +decide only[W,↓reduceIte];rfl) ?_ ⟨(0),ada _⟩ ?_
   rotate_left
   · exact Weak.rP (by simp[St.get,lk,W,Le.refl]) (fun _=>rfl)
   rintro ⟨k,hk⟩
   dsimp only
   simp only[abS,abT]
   refine aG 2 [3,46,47,48] ?_
   refine WP.cond (b:=_) rfl (fun q2=>?_) (fun q2=>?_)
   ·
    have hlt:=aO q2
    have hld:=NG hlt
    have hst:=WC hlt
    have hcur:=ab8 hlt
    have hk1:(k<l.length)=True:=eq_true hlt
    have hL2:(k * 2+1+1≤(jC (kV 0 l)).length)=True:=eq_true (by rw[nD,iJ];omega)
    have anJ:(3 * k+5=2)=False:=eq_false (by omega)
    have apQ:=(hl _ (adb hlt)).2.1
    refine aJ 4 [3,8,46,47] q2 ?_
    refine WP.meet (⟨[(3,.arr 2 2 l.length),(8,.int .i64 k),(46,.int .i64 l.length),(47,.int .i64 k)],(2,.arr 75 (jC (kV 0 l)))::jD 0 (Jp l (k+1))⟩) ?_ ?_
    ·
     refine WP.region (by kernel_rfl) fun K hK=>?_
     simp +decide only[TF,hld,hk1,↓reduceIte]
     refine aj.aj1 (rest:=[]) (Nl (3 * k+5) l[k].vals (by omega)) rfl rfl ?_ (by simp[lk]) ?_
     · simp[lk,aB,hcur,anJ]
     intro ws BH hws
     simp +decide only[TF,↓reduceIte]
     refine hK _ _ ?_
     show Weak _ _ _
     refine Weak.apP hws (by simp[St.get,lk,W,Wy,Le.refl]) (fun c=>?_)
     simp only[lk,ND hlt]
     by_cases h2:c=2
     · rw[if_pos h2,if_neg (by omega),if_pos h2]
     · rw[if_neg h2,if_neg h2]
    ·
     refine WP.amD (⟨[(3,.arr 2 2 l.length),(46,.int .i64 l.length),(47,.int .i64 k)],(2,.arr 75 (jC (kV 0 l)))::jD 0 (Jp l (k+1))⟩) ?_ (fun st' hw=>WP.weak hw ?_)
     ·
      refine WP.region (by kernel_rfl) fun K hK=>?_
      simp +decide only[TF,hld,hk1,↓reduceIte]
      refine aj.keep (Ub (3 * k+5) (bU l[k].vals) (by rw[dL];omega) (ab9 (hdup _ (adb hlt)))) rfl (by rw[dL];rfl) ?_ (by simp[lk]) ?_
      · simp[lk,aB,YL hlt,anJ]
      intro ws BH hws
      have hwl:∀F c,lk ((⟨F,(2,.arr 75 (jC (kV 0 l)))::jD 0 (Jp l (k+1))⟩:St).lay ws).σ c=lk ((2,.arr 75 (jC (kV 0 l)))::jD 0 (Jp l (k+1))) c:=fun F c=>WA ⟨F,(2,.arr 75 (jC (kV 0 l)))::jD 0 (Jp l (k+1))⟩ ws hws c
      simp +decide only[TF,oZ,aiq,hwl,dL,hst,hL2,hk1,↓reduceIte]
      refine hK _ _ ⟨rfl,?_⟩
      show Weak _ _ _
      refine Weak.rP (by simp[St.get,lk,Le.refl]) (fun c=>?_)
      simp only[lk,PS,hwl]
      by_cases h2:c=2
      · simp[h2]
      · simp[h2]
     ·
      show WP _ _ _ _ _ _
      refine aG 1 [] ?_
      show ∃y,_∧Weak _ _ _
      refine⟨⟨k+1,by omega⟩,?_,?_⟩
      · dsimp only;omega
      · exact Weak.rP (by simp[St.get,lk,Le.refl,aU hlt (show l.length≤140737488355328 by omega)]) (fun _=>rfl)
   ·
    have hge:=aP q2
    have hkl:k=l.length:=by omega
    subst hkl
    refine aG 1 [] ?_
    refine WP.meet (⟨[(3,.slice 2 false ((jh l).map At.cs) none)],[]⟩) ?_ ?_
    ·
     refine WP.region (by kernel_rfl) fun K hK=>?_
     simp +decide only[TF,q1,↓reduceIte]
     refine aj.aj1 (by have:=aip (kV 0 l) (jD 0 (Jp l l.length)) (by rw[iJ];omega) (by rw[WB];exact hnd);rw[iJ] at this;exact this) rfl rfl (acg l l.length) (by simp[lk,fg]) ?_
     intro ws BH hws
     simp +decide only[TF,↓reduceIte]
     refine hK _ _ ?_
     show Weak _ _ _
     exact YM l (fun c=>by rw[lay_σ,hws];simp only[lk];split <;> simp_all) (by simp[St.get,lk,W,Wy])
    ·
     refine aG 1 [2] ?_
     refine WP.ret ?_
     exact Ends.pure (.inr rfl) rfl (Le.of_eq (by simp +decide only[St.get,W,↓reduceIte])) (by simp)
theorem afj:ay Pr 136 [.int .u64 0] (.int .i64 0):=aF.same (dH Tryz.func136 (by kernel_rfl) (by kernel_rfl)) fun M γ w vs hst hl hr=>by
 match vs,hl with
 | [v0],_=>
  have q0:=hr 0 _ _ rfl rfl
  cases q0
  refine (Tryz.bits_Len 0 w (by omega) (by omega)).mono ?_
  rintro e w' ⟨rfl,rfl⟩
  exact⟨_,rfl,rfl,.int _ _⟩
theorem alC:ay Pr 239 [.slice 0 true [] none,.int .i64 0,.int .i64 0,.fn (.func 160) [] []] (.aQ []):=by
 refine gK Tryz.func239 Tryz.ntmps239 ?_
 refine aG 2 [0,1,2,3,8] ?_
 refine WP.lp [0,1,2,3] (X:={z:Nat // z=0}) (fun x=>match x with| ⟨(z),_⟩=>[(8,.int .i64 1)]) (fun x=>match x with| ⟨(z),_⟩=>[]) (fun x=>match x with| ⟨(z),_⟩=>1) (by simp +decide only[W,↓reduceIte];rfl) ?_ ⟨(0),rfl⟩ ?_
 rotate_left
 · exact zZ1 (show IntKind.wrap .i64 1=1 from by decide)
 rintro ⟨z,hz⟩
 dsimp only
 simp only[abS,abT]
 subst hz
 refine aG 2 [0,1,2,3,8,14] ?_
 refine WP.cond (b:=false) (by rfl) nofun (fun _=>?_)
 refine WP.exit ?_
 exact Ends.pure (.inl rfl) rfl (Le.of_eq (by simp +decide only[St.get])) (by simp)
theorem air:ay Pr 211 [.slice 0 true [] none,.int .i64 0,.int .i64 0,.int .i64 0,.fn (.func 160) [] []] (.aQ []):=by
 refine gK Tryz.func211 Tryz.ntmps211 ?_
 refine aG 3 [0,1,2,3,4,10,11] ?_
 refine WP.lp [0,4] (X:={z:Nat // z=0}) (fun x=>match x with| ⟨(z),_⟩=>[(1,.int .i64 0),(2,.int .i64 0),(3,.int .i64 0),(10,.bool true),(11,.bool true)]) (fun x=>match x with| ⟨(z),_⟩=>[]) (fun x=>match x with| ⟨(z),_⟩=>1) (by simp +decide only[W,↓reduceIte];rfl) ?_ ⟨(0),rfl⟩ ?_
 rotate_left
 · exact OC
 rintro ⟨z,hz⟩
 dsimp only
 simp only[abS,abT]
 subst hz
 refine aG 4 [0,1,2,3,4,10,11,12,25] ?_
 refine WP.cond (b:=true) (by rfl) (fun _=>?_) nofun
 refine aJ 1 [] (alC) ?_
 refine WP.ret ?_
 exact Ends.pure (.inr rfl) rfl (Le.of_eq (by simp +decide only[St.get])) (by simp)
theorem afk:ay Pr 159 [.slice 0 true [] none,.fn (.func 160) [] []] (.aQ []):=by
 refine gK Tryz.func159 Tryz.ntmps159 ?_
 refine jd 2 [0,1,4] (afj) (air) ?_
 exact Ends.P rfl (Le.of_eq (by simp +decide only[St.get]))
theorem ach:ay Pr 154 [.slice 0 true [] none,.fn (.func 157) [] []] (.int .i64 (-1)):=by
 refine gK Tryz.func154 Tryz.ntmps154 ?_
 refine aG 4 [0,1,7,8] ?_
 refine WP.lp [0,1,7] (X:={z:Nat // z=0}) (fun x=>match x with| ⟨(z),_⟩=>[(8,.int .i64 0)]) (fun x=>match x with| ⟨(z),_⟩=>[]) (fun x=>match x with| ⟨(z),_⟩=>1) (by simp +decide only[W,↓reduceIte];rfl) ?_ ⟨(0),rfl⟩ ?_
 rotate_left
 · exact OC
 rintro ⟨z,hz⟩
 dsimp only
 simp only[abS,abT]
 subst hz
 refine aG 2 [0,1,7,8,9] ?_
 refine WP.cond (b:=false) (by rfl) nofun (fun _=>?_)
 refine aG 2 [4] ?_
 refine WP.ret ?_
 exact Ends.pure (.inr rfl) rfl (Le.of_eq (by simp +decide only[St.get,W,↓reduceIte])) (by simp)
theorem ais:ay Pr 156 [.slice 0 true [] none,.fn (.func 157) [] []] (.slice 0 true [] none):=by
 refine gK Tryz.func156 Tryz.ntmps156 ?_
 refine aJ 6 [0,1,4,5,12] (ach) ?_
 apply WP.ret
 exact Ya
theorem Ue (nl:Bool):ay Pr 96 [.slice 2 nl [] none] (.slice 0 true [] none):=by
 refine gK Tryz.func96 Tryz.ntmps96 ?_
 refine aG 5 [0,3,9,10,11] ?_
 refine WP.lp [9,10] (X:={z:Nat // z=0}) (fun x=>match x with| ⟨(z),_⟩=>[(3,.slice 0 true [] none),(11,.int .i64 0)]) (fun x=>match x with| ⟨(z),_⟩=>[]) (fun x=>match x with| ⟨(z),_⟩=>1) (by simp +decide only[W,↓reduceIte];rfl) ?_ ⟨(0),rfl⟩ ?_
 rotate_left
 · exact OC
 rintro ⟨z,hz⟩
 dsimp only
 simp only[abS,abT]
 subst hz
 refine aG 2 [3,9,10,11,12] ?_
 refine WP.cond (b:=false) (by rfl) nofun (fun _=>?_)
 refine aJ 5 [3,46,47] (ais) ?_
 refine WP.lp [3,46] (X:={z:Nat // z=0}) (fun x=>match x with| ⟨(z),_⟩=>[(47,.int .i64 0)]) (fun x=>match x with| ⟨(z),_⟩=>[]) (fun x=>match x with| ⟨(z),_⟩=>1) (by simp +decide only[W,↓reduceIte];rfl) ?_ ⟨(0),rfl⟩ ?_
 rotate_left
 · exact OC
 rintro ⟨z,hz⟩
 dsimp only
 simp only[abS,abT]
 subst hz
 refine aG 2 [3,46,47,48] ?_
 refine WP.cond (b:=false) (by rfl) nofun (fun _=>?_)
 refine aJ 3 [2,3] (afk) ?_
 refine WP.ret ?_
 exact Ends.pure (.inr rfl) rfl (by simp +decide only[St.get,W,↓reduceIte];first|exact Le.refl _|exact Le.nil _ _ _|exact Le.fg _) (by simp)
structure CkA (l:List At):Prop where
 val:∀a∈l,a.vals≠[]
 dup:∀a∈l,a.vals.Nodup
 names:(l.map fun a=>bG a.name).Nodup
 len:l.length≤32
 v16:∀a∈l,a.vals.length≤16
theorem Uf:jh []=[]:=by simp[jh]
theorem WE (l:List At)(nl:Bool)(hn:l.length≤1099511627776)(hnl:nl=true→l=[])(hl:∀a∈l,a.ok)(hc:CkA l):ay Pr 96 [.slice 2 nl (l.map At.cs) none] (.slice (if l=[] then 0 else 2) l.isEmpty ((jh l).map At.cs) none):=by
 by_cases h:l=[]
 · subst h;rw[Uf];exact Ue nl
 ·
  have:=Ud l nl hn hnl hl h hc.val hc.dup hc.names
  rw[if_neg h,show l.isEmpty=false by cases l <;> simp_all];exact this
end Go.Proofs
