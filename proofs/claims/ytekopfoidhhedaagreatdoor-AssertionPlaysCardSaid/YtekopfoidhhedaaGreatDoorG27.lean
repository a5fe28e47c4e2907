import Derived.Test.YtekopfoidhhedaaGreatDoorG26
import Derived.Test.YtekopfoidhhedaaGreatDoorG13
set_option linter.unusedVariables false
set_option linter.unusedSimpArgs false
set_option linter.unnecessarySimpa false
set_option maxRecDepth 10000
namespace Go.Proofs
open Go Go.Id
theorem NH:∀(pre l:List (List UInt8)),wW pre l=0→l.Nodup∧∀v∈l,v ∉ pre
 |pre,[],_=>⟨List.nodup_nil,by simp⟩
 |pre,v::l,h=>by
  simp only[wW] at h
  split at h
  ·cases h
  split at h
  ·cases h
  rename_i h1 h2
  obtain⟨q1,q2⟩:=NH (pre++[v]) l h
  refine⟨anE.2 ⟨fun hm=>q2 v hm (by simp),q1⟩,fun x hx=>?_⟩
  rcases ael.1 hx with rfl|hx
  ·intro hp;exact h2 (by simpa using hp)
  ·intro hp;exact q2 x hx (by simp[hp])
theorem afl {pre:List At}{a:At}(h:atE pre a=0):(∀b∈pre,bG a.name≠bG b.name)∧a.vals≠[]∧a.vals.length≤16∧a.vals.Nodup:=by
 unfold atE at h
 split at h
 ·cases h
 split at h
 ·cases h
 split at h
 ·cases h
 split at h
 ·cases h
 rename_i h1 h2 h3 h4
 refine⟨fun b hb e=>h2 (List.any_eq_true.2 ⟨b,hb,by simpa using e⟩),fun e=>h3 (by rw[e];rfl),by simp at h4;omega,(NH [] _ h).1⟩
theorem Af:∀(pre l:List At),AP pre l=0→(l.map fun a=>bG a.name).Nodup∧∀a∈l,(∀b∈pre,bG a.name≠bG b.name)∧a.vals≠[]∧a.vals.length≤16∧a.vals.Nodup
 |pre,[],_=>⟨by simp,by simp⟩
 |pre,a::l,h=>by
  simp only[AP] at h
  split at h
  ·rename_i h1;exact absurd h h1
  rename_i h1
  have ha:=afl (Decidable.not_not.1 h1)
  obtain⟨q1,q2⟩:=Af (pre++[a]) l h
  refine⟨?_,fun b hb=>?_⟩
  ·rw[ag1,anE]
   refine⟨fun hm=>?_,q1⟩
   obtain⟨b,hb,e⟩:=List.mem_map.1 hm
   exact (q2 b hb).1 a (by simp) e
  ·rcases ael.1 hb with rfl|hb
   ·exact ha
   ·exact⟨fun c hc=>(q2 b hb).1 c (by simp[hc]),(q2 b hb).2⟩
theorem Gf {l:List At}(h:eP l=0):CkA l:=by
 unfold eP at h
 split at h
 ·cases h
 rename_i h1
 obtain⟨q1,q2⟩:=Af [] l h
 exact⟨fun a ha=>(q2 a ha).2.1,fun a ha=>(q2 a ha).2.2.2,q1,by simp at h1;omega,fun a ha=>(q2 a ha).2.2.1⟩
def Jq (p:List (List UInt8))(a:At):List (List UInt8):=if decide ((a.vals.length:Int)>0)=true then lY p (bG a.name) else p
def gY (l:List At):List (List UInt8):=l.foldl Jq []
def zi (s:List UInt8)(vs:List (List UInt8))(a:At):List (List UInt8):=if (bG a.name == s)=true then a.vals.foldl lY vs else vs
def Jr (s:List UInt8)(l:List At):List (List UInt8):=l.foldl (zi s) []
def aci (l:List At)(s:List UInt8):At:=⟨s,(Jr s l).isEmpty,Jr s l⟩
def Es (l:List At):List At:=(gY l).map (aci l)
theorem Gg:∀(l o:List (List UInt8)),Asc o→Asc (l.foldl lY o)
 | [],o,h=>h
 |x::l,o,h=>Gg l _ (Wq x h)
theorem Ag:∀(l o:List (List UInt8)),Asc o→∀x,x∈l.foldl lY o↔x∈l∨x∈o
 | [],o,h,x=>by simp
 |y::l,o,h,x=>by
  rw[akk,Ag l _ (Wq y h),ae1 h,ael]
  constructor
  ·rintro (h|h|h)
   ·exact .inl (.inr h)
   ·exact .inl (.inl h)
   ·exact .inr h
  ·rintro ((h|h)|h)
   ·exact .inr (.inl h)
   ·exact .inl h
   ·exact .inr (.inr h)
theorem Cj {l:List (List UInt8)}(h:l.Nodup):l.foldl lY []=bU l:=(vK h (Gg l [] List.Pairwise.nil) fun x=>by rw[Ag l [] List.Pairwise.nil];simp).symm
theorem acj {a:At}(h:a.vals≠[])(p:List (List UInt8)):Jq p a=lY p (bG a.name):=by
 unfold Jq
 rw[if_pos (by simp;exact akT.2 h)]
theorem Gh:∀(l:List At) (p:List (List UInt8)),(∀a∈l,a.vals≠[])→l.foldl Jq p=(l.map fun a=>bG a.name).foldl lY p
 | [],p,_=>rfl
 |a::l,p,h=>by rw[akk,acj (h a (by simp)),ag1,akk,Gh l _ fun b hb=>h b (by simp[hb])]
theorem NI (s:List UInt8):∀(l:List At) (vs:List (List UInt8)),(∀a∈l,(bG a.name == s)=false)→l.foldl (zi s) vs=vs
 | [],vs,_=>rfl
 |a::l,vs,h=>by
  rw[akk]
  have:zi s vs a=vs:=by unfold zi;rw[h a (by simp)];rfl
  rw[this];exact NI s l vs fun b hb=>h b (by simp[hb])
theorem NJ:∀(l:List At),(l.map fun a=>bG a.name).Nodup→∀a∈l,Jr (bG a.name) l=a.vals.foldl lY []
 | [],_,a,ha=>by simp at ha
 |b::l,hn,a,ha=>by
  rw[ag1,anE] at hn
  unfold Jr
  rw[akk]
  by_cases h:bG b.name=bG a.name
  ·have hab:a=b:=by
    rcases ael.1 ha with q|q
    ·exact q
    ·exact absurd (List.mem_map.2 ⟨a,q,h.symm⟩) hn.1
   subst hab
   have:zi (bG a.name) [] a=a.vals.foldl lY []:=by unfold zi;rw[if_pos (by simp)]
   rw[this]
   exact NI _ l _ fun c hc=>beq_eq_false_iff_ne.2 fun e=>hn.1 (List.mem_map.2 ⟨c,hc,e⟩)
  ·have:zi (bG a.name) [] b=[]:=by unfold zi;rw[if_neg (by simpa using h)]
   rw[this]
   rcases ael.1 ha with q|q
   ·exact absurd (by rw[q]) h
   ·exact NJ l hn.2 a q
theorem vV (l:List At):(jh l).Perm (l.map XH):=List.mergeSort_perm _ _
theorem Rn {l:List At}(hn:(l.map fun a=>bG a.name).Nodup):Asc ((jh l).map (·.name)):=by
 have hp:((jh l).map (·.name)).Perm (l.map fun a=>bG a.name):=by
  have:=(vV l).map (·.name)
  rwa [List.map_map] at this
 have hs:(jh l).Pairwise fun x y=>leA x y=true:=by
  refine List.pairwise_mergeSort (fun a b c h k=>?_) (fun a b=>?_) _
  ·unfold leA at *
   rw[adh] at h k ⊢
   cases hca:Op.bytesLess c.name a.name
   ·rfl
   ·rcases rY b.name c.name with q|q|q
    ·have:=nY _ _ _ q hca;rw[h] at this;cases this
    ·rw[q] at h;rw[h] at hca;cases hca
    ·rw[k] at q;cases q
  ·unfold leA
   cases hba:Op.bytesLess b.name a.name
   ·rfl
   ·rw[rZ _ _ hba];rfl
 have hnd:((jh l).map (·.name)).Nodup:=hp.nodup_iff.2 hn
 show List.Pairwise _ _
 rw[List.pairwise_map]
 rw[List.Nodup,List.pairwise_map] at hnd
 refine List.Pairwise.imp₂ (fun a b h1 h2=>?_) hs hnd
 unfold leA at h1
 rw[adh] at h1
 rcases rY a.name b.name with q|q|q
 ·exact q
 ·exact absurd q h2
 ·rw[h1] at q;cases q
theorem NK {l:List At}(hc:CkA l):Es l=jh l:=by
 have hN:gY l=(jh l).map (·.name):=by
  unfold gY
  rw[Gh l [] hc.val]
  refine TR (Gg _ [] List.Pairwise.nil) (Rn hc.names) fun x=>?_
  rw[Ag _ [] List.Pairwise.nil,((vV l).map (·.name)).mem_iff,List.map_map]
  simp[Function.comp,XH]
 unfold Es
 rw[hN,List.map_map]
 conv=>rhs;rw[← amE (jh l)]
 refine ajb fun a ha=>?_
 obtain⟨b,hb,rfl⟩:=List.mem_map.1 ((vV l).mem_iff.1 ha)
 simp only[Function.comp,id,aci,XH]
 rw[NJ l hc.names b hb,Cj (hc.dup b hb)]
 congr 1
 cases hv:b.vals with
 |nil=>exact absurd hv (hc.val b hb)
 |cons x y=>exact aeU
def WG (vs:List (List UInt8)):D:= .slice (if vs=[] then 0 else 1) vs.isEmpty (vs.map fun x=>[.str x]) none
theorem aiu:D.slice 0 true [] none=WG []:=by simp[WG]
theorem alD (vs:List (List UInt8)):Le (WG vs) (.slice 1 vs.isEmpty (vs.map fun x=>[.str x]) none):=by
 unfold WG
 cases vs with
 |nil=>exact Le.nil _ _ _
 |cons a l=>exact Le.refl _
theorem NM (s:List UInt8):∀(l o:List (List UInt8)) (d:Bool),(d=true→o≠[])→(l.foldl (dw s) (o,d)).2=true→(l.foldl (dw s) (o,d)).1≠[]
 | [],o,d,h,k=>h k
 |x::l,o,d,h,k=>by
  rw[akk] at k ⊢
  refine NM s l _ _ ?_ k
  intro hd
  cases d
  ·cases hb:Op.bytesLess x s <;> simp[dw,hb] at hd ⊢
   split <;> simp
  ·simp[dw] at hd ⊢
   split
   ·exact h rfl
   ·simp
theorem aiv (l:List (List UInt8))(s:List UInt8):lY l s≠[]:=by
 unfold lY
 split
 ·exact NM s l [] false nofun ‹_›
 ·simp
theorem aiw (l:List (List UInt8))(s:List UInt8):D.slice 1 (lY l s).isEmpty ((lY l s).map fun x=>[.str x]) none=WG (lY l s):=by unfold WG;rw[if_neg (aiv l s)]
theorem alE {vs:List (List UInt8)}(h:vs≠[]):WG vs= .slice 1 vs.isEmpty (vs.map fun x=>[.str x]) none:=by unfold WG;rw[if_neg h]
@[simp] theorem aoU {S:Nat→Prop}(vs:List (List UInt8)):bY S (WG vs)↔True:=by
 simp only[iff_true]
 exact .slice ((Wv vs).2 trivial) (by simp)
@[simp] theorem apV (vs:List (List UInt8)):fg (WG vs)=WG vs:=by
 unfold WG;rfl
theorem afm {l:List At}(hc:CkA l){s:List UInt8}(hs:s∈gY l):Jr s l≠[]:=by
 unfold gY at hs
 rw[Gh l [] hc.val,Ag _ [] List.Pairwise.nil] at hs
 obtain⟨a,ha,rfl⟩:=List.mem_map.1 (hs.resolve_right (by simp))
 rw[NJ l hc.names a ha,Cj (hc.dup a ha)]
 intro e
 have h1:=dL a.vals
 rw[e] at h1
 exact hc.val a ha (List.length_eq_zero_iff.1 h1.symm)
theorem aix {l:List At}(hc:CkA l){s:List UInt8}(hs:s∈gY l):(aci l s).cs=[.str s,WG (Jr s l)]:=by
 rw[alE (afm hc hs)];rfl
theorem YN {l:List At}(hc:CkA l):(gY l).length≤32:=by
 have h:=congrArg List.length (NK hc)
 rw[Ae] at h
 simp only[Es,ac'] at h
 rw[h];exact hc.len
theorem fV {S:Nat→Prop}(l:List At):(∀e∈l.map At.cs,∀d∈e,bY S d)↔True:=by
 simp only[iff_true]
 intro e he d hd
 obtain⟨a,_,rfl⟩:=List.mem_map.1 he
 exact Eh a d hd
theorem aiy {S:Nat→Prop}(a:At):(∀d∈a.cs,bY S d)↔True:=by
 simp only[iff_true]
 exact Eh a
set_option maxRecDepth 10000
set_option maxHeartbeats 4000000
abbrev kJ:List Nat:=[0,2,3,4,5,6,7,8,9,13,22,34,45,68]
theorem NP (l:List At)(nl:Bool)(hn:l.length≤1099511627776)(hnl:nl=true→l=[])(hl:∀a∈l,a.ok)(hc:CkA l):ay Pr 33 [.slice 2 nl (l.map At.cs) none] (.slice 2 (jh l).isEmpty ((jh l).map At.cs) none):=by
 have arQ:=hc.len
 have hn32:=YN hc
 refine ay.W Tryz.func33 Tryz.ntmps33 ?_
 simp only[aT]
 refine aG 3 kJ ?_
 refine aG 2 [0,3,4] ?_
 refine WP.lp [0] (X:={x:(Nat) × (List (List UInt8)) // match x with|(k,p)=>k≤l.length∧p.length≤k∧l.foldl Jq []=(l.drop k).foldl Jq p}) (fun x=>match x with| ⟨(k,p),_⟩=>[(3,.slice 1 p.isEmpty (p.map fun x=>[.str x]) none),(4,.int .i64 k)]) (fun x=>match x with| ⟨(k,p),_⟩=>[]) (fun x=>match x with| ⟨(k,p),_⟩=>l.length - k) (by simp +decide only[W,↓reduceIte];rfl) ?_ ⟨(0,[]),⟨ada _,ada _,by simp⟩⟩ ?_
 rotate_left
 ·exact Weak.store (by simp[St.get,lk,W,Le.refl,Le.nil,-List.append_assoc,W]) (by simp[lk,-List.append_assoc]) (by simp[lk,fV,-List.mem_append,-List.mem_map,-List.append_assoc]) (by simp[aB,lk]) (by simp[lk])
 rintro ⟨⟨k,p⟩,hk,hr,hI⟩
 dsimp only
 simp only[abS,abT]
 refine aG 2 kJ ?_
 refine WP.cond rfl (fun q1=>?_) (fun q1=>?_)
 ·have hlt:=aO q1
  have hg:(l.map At.cs)[k]?=some [.str l[k].name,.slice 1 l[k].nl (l[k].vals.map fun x=>[.str x]) none]:=getM hlt
  have hnf:=aX hnl hlt
  rw[bZ hlt] at hI
  simp only[akk] at hI
  have hok:=Jo (hl _ (adb hlt))
  have hvz:=TY l[k].vals
  refine oC 4 kJ q1 hg hnf ?_
  refine WP.cond rfl (fun q2=>?_) (fun q2=>?_)
  ·have hA:=q2
   refine WP.R fun _ z=>?_
   simp +decide only[TF,hg,q2,↓reduceIte]
   refine aj.P (Aa l[k].name (hl _ (adb hlt)).1) rfl rfl ?_
   simp +decide only[TF,↓reduceIte]
   refine aj.P (B_ p p.isEmpty (bG l[k].name) (by omega) (fun h=>by simpa using h)) rfl rfl ?_
   simp +decide only[TF,↓reduceIte]
   apply z;clear z
   show WP ..
   refine aG 1 [] ?_
   show ∃y,_∧Weak _ _ _
   have hlen:=Nr p (bG l[k].name)
   simp only[Jq,hA,↓reduceIte] at hI
   refine⟨⟨(k+1,lY p (bG l[k].name)),?_⟩,?_,?_⟩
   ·exact⟨by dsimp only;omega,by simp;omega,hI⟩
   ·dsimp only;omega
   exact Weak.store (by simp[St.get,lk,Le.refl,-List.append_assoc,hnf,aU hlt (show l.length≤140737488355328 by omega)]) (by simp[lk,-List.append_assoc]) (by simp[lk,fH,fV,-List.mem_append,-List.mem_map,-List.append_assoc]) (by simp[aB,lk]) (by simp[lk])
  have hB:=q2
  refine aJ 2 [] q2 ?_
  show ∃y,_∧Weak _ _ _
  simp only[Jq,hB,↓reduceIte,ag8] at hI
  refine⟨⟨(k+1,p),?_⟩,?_,?_⟩
  ·exact⟨by dsimp only;omega,by simp;omega,hI⟩
  ·dsimp only;omega
  exact Weak.store (by simp[St.get,lk,Le.refl,-List.append_assoc,hnf,aU hlt (show l.length≤140737488355328 by omega)]) (by simp[lk,-List.append_assoc]) (by simp[lk,fH,fV,-List.mem_append,-List.mem_map,-List.append_assoc]) (by simp[aB,lk]) (by simp[lk])
 have hge:=aP q1
 rw[dR hge] at hI
 simp only[apF] at hI
 have hN:gY l=p:=hI
 subst hN
 refine aJ 3 kJ q1 ?_
 refine aG 2 [0,3,5,6] ?_
 refine WP.lp [0,3] (X:={x:(Nat) × (List At) // match x with|(u,o)=>u≤(gY l).length∧o.length=u∧o++((gY l).drop u).map (aci l)=Es l}) (fun x=>match x with| ⟨(u,o),_⟩=>[(5,.slice 2 o.isEmpty (o.map At.cs) (some 0)),(6,.int .i64 u)]) (fun x=>match x with| ⟨(u,o),_⟩=>[(0,.aI 75 2 o.length)]) (fun x=>match x with| ⟨(u,o),_⟩=>(gY l).length - u) (by simp +decide only[W,↓reduceIte];rfl) ?_ ⟨(0,[]),⟨ada _,rfl,by simp[Es]⟩⟩ ?_
 rotate_left
 ·refine Weak.trans (Weak.ghost 0 75 2 (F':=[(6,.int .i64 0),(5,.slice 2 true [] (some 0)),(3,.slice 1 (gY l).isEmpty ((gY l).map fun x=>[.str x]) none),(0,.slice 2 nl (l.map At.cs) none)]) (σ':=[]) (by simp[lk]) (by simp[keep,ins,zO,wJ]) (by simp[BK])) ?_;exact Weak.store (by simp[St.get,lk,Le.refl]) (by simp[lk]) (by simp[lk]) (by simp[aB,lk]) (by simp[lk])
 rintro ⟨⟨u,o⟩,hk,hr,hO⟩
 dsimp only
 simp only[abS,abT]
 refine aG 2 kJ ?_
 refine WP.cond rfl (fun q3=>?_) (fun q3=>?_)
 ·have hlt:=aO q3
  have hg:((gY l).map fun x=>[D.str x])[u]?=some [.str (gY l)[u]]:=getM hlt
  have hnf:=aX (nl:=(gY l).isEmpty) (fun h=>by simpa using h) hlt
  refine oC 5 kJ q3 hg hnf ?_
  refine aG 2 [0,3,5,6,7,8] ?_
  refine WP.lp [0,3,5,6,7] (X:={x:(Nat) × (List (List UInt8)) // match x with|(j,vs)=>j≤l.length∧vs.length≤16 * j∧Jr (gY l)[u] l=(l.drop j).foldl (zi (gY l)[u]) vs}) (fun x=>match x with| ⟨(j,vs),_⟩=>[(8,.int .i64 j)]) (fun x=>match x with| ⟨(j,vs),_⟩=>[(1,.box 75 [.str (gY l)[u],WG vs]),(0,.aI 75 2 o.length)]) (fun x=>match x with| ⟨(j,vs),_⟩=>l.length - j) (by simp +decide only[W,↓reduceIte];rfl) ?_ ⟨(0,[]),⟨ada _,ada _,by simp[Jr]⟩⟩ ?_
  rotate_left
  ·exact Weak.store (by simp[St.get,lk,W,Le.refl,-List.append_assoc]) (by simp[lk,-List.append_assoc,aiu]) (by simp[lk,fH,fV,-List.mem_append,-List.mem_map,-List.append_assoc]) (by simp[aB,lk]) (by simp[lk])
  rintro ⟨⟨j,vs⟩,hj,hr2,hV⟩
  dsimp only
  simp only[abS,abT]
  refine aG 2 kJ ?_
  refine WP.cond rfl (fun q4=>?_) (fun q4=>?_)
  ·have hjl:=aO q4
   have hgj:(l.map At.cs)[j]?=some [.str l[j].name,.slice 1 l[j].nl (l[j].vals.map fun x=>[.str x]) none]:=getM hjl
   have alF:=aX hnl hjl
   rw[bZ hjl] at hV
   simp only[akk] at hV
   have arR:=hc.v16 _ (adb hjl)
   have aii:=Jo (hl _ (adb hjl))
   refine jd 5 [0,3,5,6,7,8,9] q4 alF ?_
   refine WP.lp [0,3,5,6,7,8] (X:={x:(Nat) × (List (List UInt8)) // match x with|(i,ws)=>i≤l[j].vals.length∧ws.length≤16 * j+i∧zi (gY l)[u] vs l[j]=(if (bG l[j].name == (gY l)[u])=true then (l[j].vals.drop i).foldl lY ws else ws)}) (fun x=>match x with| ⟨(i,ws),_⟩=>[(9,.int .i64 i)]) (fun x=>match x with| ⟨(i,ws),_⟩=>[(1,.box 75 [.str (gY l)[u],WG ws]),(0,.aI 75 2 o.length)]) (fun x=>match x with| ⟨(i,ws),_⟩=>l[j].vals.length - i) (by simp +decide only[W,↓reduceIte];rfl) ?_ ⟨(0,vs),⟨ada _,by omega,by simp[zi]⟩⟩ ?_
   rotate_left
   ·exact Weak.store (by simp[St.get,lk,W,Le.refl,-List.append_assoc]) (by simp[lk,-List.append_assoc]) (by simp[lk,fH,fV,-List.mem_append,-List.mem_map,-List.append_assoc]) (by simp[aB,lk]) (by simp[lk])
   rintro ⟨⟨i,ws⟩,hi,hr3,hW⟩
   dsimp only
   simp only[abS,abT]
   apply WP.seq
   refine WP.D kJ fun _ z=>?_
   simp +decide only[TF,hgj,↓reduceIte]
   refine aj.P (Aa l[j].name (hl _ (adb hjl)).1) rfl rfl ?_
   refine ah.take 6 fun J hJ=>?_
   simp +decide only[TF,hg,↓reduceIte]
   refine hJ _ _ ?_;clear hJ J
   refine ah.part 59 rfl (fun q5=>?_) (fun q5=>?_)
   ·have hE:=q5
    simp +decide only[TF,hgj,q5,↓reduceIte]
    refine z _ _ (by kernel_rfl) ?_;clear z
    refine WP.cond rfl (fun q6=>?_) (fun q6=>?_)
    ·have hil:i<l[j].vals.length:=by have:=of_decide_eq_true q6;omega
     have hgi:(l[j].vals.map fun x=>[D.str x])[i]?=some [.str l[j].vals[i]]:=getM hil
     have apW:=aX aii.2.2.1 hil
     refine aG 3 [] ?_
     refine WP.E fun _ z=>?_
     simp +decide only[TF,hgj,q6,hgi,apW,↓reduceIte]
     refine aj.adH (B_ ws ws.isEmpty l[j].vals[i] (by omega) (fun h=>by simpa using h)) rfl ⟨by simpa using alD ws,Le.refl _,trivial⟩ (by simp[fg,WG]) ?_
     simp +decide only[TF,↓reduceIte]
     refine z _ _ (by kernel_rfl) ?_;clear z
     show WP ..
     refine aG 1 [] ?_
     show ∃y,_∧Weak _ _ _
     rw[if_pos hE,anO hil,akk] at hW
     have hlen:=Nr ws l[j].vals[i]
     refine⟨⟨(i+1,lY ws l[j].vals[i]),?_⟩,?_,?_⟩
     ·exact⟨hil,by dsimp only;omega,by rw[hW,if_pos hE]⟩
     ·dsimp only;omega
     exact Weak.store (by simp[St.get,lk,Le.refl,-List.append_assoc,aU hil (show l[j].vals.length≤140737488355328 by omega)]) (by simp[lk,-List.append_assoc,aiw]) (by simp[lk,fH,fV,-List.mem_append,-List.mem_map,-List.append_assoc]) (by simp[aB,lk]) (by simp[lk])
    refine aJ 2 [] q6 ?_
    show ∃y,_∧Weak _ _ _
    have hig:l[j].vals.length≤i:=by have:=of_decide_eq_false q6;omega
    rw[if_pos hE,akV hig,apF] at hW
    rw[hW] at hV
    refine⟨⟨(j+1,ws),?_⟩,?_,?_⟩
    ·exact⟨hjl,by dsimp only;omega,hV⟩
    ·dsimp only;omega
    exact Weak.store (by simp[St.get,lk,Le.refl,-List.append_assoc,alF,aU hjl (show l.length≤140737488355328 by omega)]) (by simp[lk,-List.append_assoc]) (by simp[lk,fH,fV,-List.mem_append,-List.mem_map,-List.append_assoc]) (by simp[aB,lk]) (by simp[lk])
   have hF:=q5
   simp +decide only[TF,q5,↓reduceIte]
   refine z _ _ (by kernel_rfl) ?_;clear z
   refine aG 3 [] ?_
   show ∃y,_∧Weak _ _ _
   rw[if_neg (by rw[hF];decide)] at hW
   rw[hW] at hV
   refine⟨⟨(j+1,ws),?_⟩,?_,?_⟩
   ·exact⟨hjl,by dsimp only;omega,hV⟩
   ·dsimp only;omega
   exact Weak.store (by simp[St.get,lk,Le.refl,-List.append_assoc,alF,aU hjl (show l.length≤140737488355328 by omega)]) (by simp[lk,-List.append_assoc]) (by simp[lk,fH,fV,-List.mem_append,-List.mem_map,-List.append_assoc]) (by simp[aB,lk]) (by simp[lk])
  have hjg:=aP q4
  rw[dR hjg] at hV
  simp only[apF] at hV
  refine aG 1 [] ?_
  refine WP.R fun _ z=>?_
  simp +decide only[TF,q4,↓reduceIte]
  refine⟨⟨by simp only[abf,ac',abN,acS];omega,by simp only[abf,ac',abN,acS];omega⟩,?_⟩
  apply z;clear z
  show WP ..
  refine aG 1 [] ?_
  show ∃y,_∧Weak _ _ _
  have hcs:[D.str (gY l)[u],WG vs]=(aci l (gY l)[u]).cs:=by rw[aix hc (adb hlt),hV]
  rw[anO hlt,ag1] at hO
  refine⟨⟨(u+1,o++[aci l (gY l)[u]]),?_⟩,?_,?_⟩
  ·exact⟨hlt,by simp;omega,by rw[← hO];simp⟩
  ·dsimp only;omega
  exact Weak.store (by simp[St.get,lk,Le.refl,JM,-List.append_assoc,hnf,hcs,aU hlt (show (gY l).length≤140737488355328 by omega)]) (by simp[lk,-List.append_assoc,hcs]) (by simp[lk,yX,fH,fV,aiy,-List.mem_append,-List.mem_map,-List.append_assoc]) (by simp[aB,lk]) (by simp[lk])
 have hge:=aP q3
 have hZ:o=jh l:=by rw[← NK hc,← hO,akV hge];simp
 subst hZ
 refine aJ 2 kJ q3 ?_
 apply WP.ret
 exact Ends.P rfl ((by simp +decide only[St.get,W,↓reduceIte];exact Le.fg _))
theorem inter_snoc (t:List UInt8):∀(l:List (List UInt8)) (x:List UInt8),l≠[]→Lib.join (l++[x]) t=Lib.join l t++t++x
 | [],x,h=>absurd rfl h
 | [a],x,_=>by simp[Lib.join,List.intercalate]
 |a::b::l,x,_=>by
  have:=inter_snoc t (b::l) x (by simp)
  simp only[Lib.join,List.intercalate,abS,List.intersperse_cons_cons,amb] at this ⊢
  rw[this];simp
theorem acn {ls:List (List UInt8)}(t:List UInt8){k:Nat}(hk:k<ls.length):Lib.join (ls.take (k+1)) t=if decide ((k:Int)>0)=true then Lib.join (ls.take k) t++t++ls[k] else Lib.join (ls.take k) t++ls[k]:=by
 have e:ls.take (k+1)=ls.take k++[ls[k]]:=by rw[aow,abt hk];rfl
 rw[e]
 split
 ·rename_i h
  have h0:0<k:=by have:=of_decide_eq_true h;omega
  exact inter_snoc t _ _ (by intro h;have:=congrArg List.length h;rw[adg] at this;simp only[acS] at this;omega)
 ·rename_i h
  have:k=0:=by simp at h;omega
  subst this;simp[Lib.join,List.intercalate]
theorem Gi (t:List UInt8):∀(l m:List (List UInt8)),l≠[]→m≠[]→Lib.join (l++m) t=Lib.join l t++t++Lib.join m t
 | [],m,h,_=>absurd rfl h
 | [a],b::m,_,_=>by simp[Lib.join,List.intercalate]
 |a::b::l,m,_,hm=>by
  have:=Gi t (b::l) m (by simp) hm
  simp only[Lib.join,List.intercalate,abS,List.intersperse_cons_cons,amb] at this ⊢
  rw[this];simp
theorem aco (t:List UInt8)(ls:List (List UInt8))(k:Nat):(Lib.join (ls.take k) t).length≤(Lib.join ls t).length:=by
 by_cases h1:ls.take k=[]
 ·rw[h1];simp[Lib.join_nil]
 by_cases h2:ls.drop k=[]
 ·rw[show ls.take k=ls by rw[List.drop_eq_nil_iff] at h2;exact ajr h2];exact ag4 _
 ·have:=Gi t _ _ h1 h2
  rw[aki] at this
  rw[this];simp only[abf];omega
def oU (ls:List (List UInt8)):List UInt8:=if ((ls.length:Int) == 0)=true then [45] else if ls=[[45]] then [37,50,68] else Lib.join (ls.map aC) [124]
theorem afn {ls:List (List UInt8)}(h:((ls.length:Int) == 0)=true):oU ls=[45]:=by unfold oU;rw[if_pos h]
theorem afo {ls:List (List UInt8)}(h0:0<ls.length)(h:((ls.length:Int) == 1)=true)(h2:(ls[0] == [45])=true):oU ls=[37,50,68]:=by
 match ls,h0 with
 | [x],_=>simp at h2;subst h2;rfl
 |a::b::l,_=>simp at h;omega
theorem afp {ls:List (List UInt8)}(h:((ls.length:Int) == 0)=false)(h1:((ls.length:Int) == 1)=false):oU ls=Lib.join (ls.map aC) [124]:=by
 unfold oU
 rw[if_neg (by rw[h];decide),if_neg]
 intro e;rw[e] at h1;cases h1
theorem afq {ls:List (List UInt8)}(h:((ls.length:Int) == 0)=false)(h0:0<ls.length)(h2:(ls[0] == [45])=false):oU ls=Lib.join (ls.map aC) [124]:=by
 unfold oU
 rw[if_neg (by rw[h];decide),if_neg]
 intro e;subst e;simp at h2
theorem WH {ls:List (List UInt8)}(h:((ls.length:Int) == 0)=false):0<ls.length:=by
 cases ls with
 |nil=>simp at h
 |cons a l=>simp
abbrev Et:List Nat:=[0,1,4,5,6,10,14]
theorem WJ (ls:List (List UInt8))(nl:Bool)(t:List UInt8)(hn:ls.length≤140737488355328)(hnl:nl=true→ls=[])(hj:(Lib.join ls t).length≤140737488355328):ay Pr 100 [.slice 1 nl (ls.map fun x=>[.str x]) none,.str t] (.str (Lib.join ls t)):=by
 refine gK Tryz.func100 Tryz.ntmps100 ?_
 refine aG 5 Et ?_
 refine WP.lp [0,1] (X:={k:Nat // k≤ls.length}) (fun x=>match x with| ⟨(k),_⟩=>[(5,.str (Lib.join (ls.take k) t)),(6,.int .i64 k)]) (fun x=>match x with| ⟨(k),_⟩=>[]) (fun x=>match x with| ⟨(k),_⟩=>ls.length - k) (by simp +decide only[W,↓reduceIte];rfl) ?_ ⟨(0),ada _⟩ ?_
 rotate_left
 ·exact zZ1 @Lib.join_nil
 rintro ⟨k,hk⟩
 dsimp only
 simp only[abS,abT]
 refine aG 2 Et ?_
 refine WP.cond rfl (fun q1=>?_) (fun q1=>?_)
 ·have hlt:=aO q1
  have hg:(ls.map fun x=>[D.str x])[k]?=some [.str ls[k]]:=getM hlt
  have hnf:=aX hnl hlt
  have hjt:=acn t hlt
  have hjl:=aco t ls (k+1)
  refine jd 5 Et q1 hnf ?_
  refine WP.cond rfl (fun q2=>?_) (fun q2=>?_)
  ·have hA:=q2
   refine WP.R fun _ z=>?_
   simp +decide only[TF,q2,↓reduceIte]
   refine⟨by have hx:=congrArg List.length hjt;rw[if_pos hA] at hx;simp only[abf] at hx ⊢;omega,?_⟩
   apply z;clear z
   show WP ..
   refine WP.R fun _ z=>?_
   simp +decide only[TF,hg,↓reduceIte]
   refine⟨by have hx:=congrArg List.length hjt;rw[if_pos hA] at hx;simp only[abf] at hx ⊢;omega,?_⟩
   apply z;clear z
   show WP ..
   refine aG 1 [] ?_
   show ∃y,_∧Weak _ _ _
   rw[if_pos hA] at hjt
   refine⟨⟨k+1,hlt⟩,?_,?_⟩
   ·dsimp only;omega
   exact zZ3 hjt hnf (aU hlt (show ls.length≤140737488355328 by omega))
  have hB:=q2
  refine aG 1 [] ?_
  refine WP.R fun _ z=>?_
  simp +decide only[TF,hg,q2,↓reduceIte]
  refine⟨by have hx:=congrArg List.length hjt;rw[if_neg (by rw[hB];decide)] at hx;simp only[abf] at hx ⊢;omega,?_⟩
  apply z;clear z
  show WP ..
  refine aG 1 [] ?_
  show ∃y,_∧Weak _ _ _
  rw[if_neg (by rw[hB];decide)] at hjt
  refine⟨⟨k+1,hlt⟩,?_,?_⟩
  ·dsimp only;omega
  exact zZ3 hjt hnf (aU hlt (show ls.length≤140737488355328 by omega))
 have hge:=aP q1
 obtain rfl:k=ls.length:=by omega
 rw[ajy]
 refine aJ 2 Et q1 ?_
 apply WP.ret
 exact Ends.P rfl (Le.of_eq (by simp_all[St.get,W]))
abbrev lZ:List Nat:=[0,2,3,4,7,16,20]
theorem afr (ls:List (List UInt8))(nl:Bool)(hn:ls.length≤1099511627776)(hnl:nl=true→ls=[])(hls:∀x∈ls,x.length≤1099511627776)(hj:(Lib.join (ls.map aC) [124]).length≤140737488355328):ay Pr 47 [.slice 1 nl (ls.map fun x=>[.str x]) none] (.str (oU ls)):=by
 refine ay.W Tryz.func47 Tryz.ntmps47 ?_
 simp only[aT]
 refine aG 3 lZ ?_
 refine WP.cond rfl (fun q1=>?_) (fun q1=>?_)
 ·have hX:=afn q1
  refine aJ 1 lZ q1 ?_
  apply WP.ret
  exact Ends.P rfl (Le.of_eq (by simp +decide only[St.get,W,hX,↓reduceIte]))
 have h0:=q1
 have hp:=WH h0
 have hnf:=aX hnl hp
 have hg0:(ls.map fun x=>[D.str x])[0]?=some [.str ls[0]]:=getM hp
 refine aG 2 [] ?_
 refine WP.S lZ fun _ z=>?_
 refine ah.take 4 fun J hJ=>?_
 simp +decide only[TF,q1,hnf,↓reduceIte]
 refine hJ _ _ ?_;clear hJ J
 refine ah.part 11 rfl (fun q2=>?_) (fun q2=>?_)
 ·have h1:=q2
  simp +decide only[TF,hg0,q2,↓reduceIte]
  apply z;clear z
  refine WP.cond rfl (fun q3=>?_) (fun q3=>?_)
  ·have hX:=afo hp h1 q3
   refine aJ 1 lZ q3 ?_
   apply WP.ret
   exact Ends.P rfl (Le.of_eq (by simp +decide only[St.get,W,hX,↓reduceIte]))
  have hX:=afq h0 hp q3
  refine aJ 3 lZ q3 ?_
  refine aG 2 [0,3,4] ?_
  refine WP.lp [0] (X:={k:Nat // k≤ls.length}) (fun x=>match x with| ⟨(k),_⟩=>[(3,.slice 1 ((ls.take k).map aC).isEmpty (((ls.take k).map aC).map fun x=>[.str x]) (some 0)),(4,.int .i64 k)]) (fun x=>match x with| ⟨(k),_⟩=>[(0,.aI 9 1 k)]) (fun x=>match x with| ⟨(k),_⟩=>ls.length - k) (by simp +decide only[W,↓reduceIte];rfl) ?_ ⟨(0),ada _⟩ ?_
  rotate_left
  ·refine Weak.trans (Weak.ghost 0 9 1 (F':=[(4,.int .i64 0),(3,.slice 1 true [] (some 0)),(0,.slice 1 false (ls.map fun x=>[.str x]) none)]) (σ':=[]) (by simp[lk]) (by simp[keep,ins,zO,wJ]) (by simp[BK])) ?_;exact Weak.store (by simp[St.get,lk,Le.refl]) (by simp[lk]) (by simp[lk]) (by simp[aB,lk]) (by simp[lk])
  rintro ⟨k,hk⟩
  dsimp only
  simp only[abS,abT]
  refine aG 2 lZ ?_
  refine WP.cond rfl (fun q4=>?_) (fun q4=>?_)
  ·have hlt:=aO q4
   have hg:(ls.map fun x=>[D.str x])[k]?=some [.str ls[k]]:=getM hlt
   have hnf:=aX hnl hlt
   have htl:(ls.take k).length=k:=by rw[adg];omega
   have hes:(ls.take (k+1)).map aC=(ls.take k).map aC++[aC ls[k]]:=by rw[aow,abt hlt,List.map_append];rfl
   refine aG 3 [] ?_
   refine WP.R fun _ z=>?_
   simp +decide only[TF,q4,hg,↓reduceIte]
   refine aj.P (lu ls[k] (hls _ (adb hlt))) rfl rfl ?_
   simp +decide only[TF,htl,↓reduceIte]
   refine⟨⟨by simp only[abf,ac',abN,acS];omega,by simp only[abf,ac',abN,acS];omega⟩,?_⟩
   apply z;clear z
   show WP ..
   refine aG 1 [] ?_
   show ∃y,_∧Weak _ _ _
   refine⟨⟨k+1,hlt⟩,?_,?_⟩
   ·dsimp only;omega
   exact Weak.store (by simp[St.get,lk,Le.refl,hes,JM,-List.map_take,aU hlt (show ls.length≤140737488355328 by omega)]) (by simp[lk,hk]) (by simp[lk,hes,fH,yX,-List.mem_append,-List.mem_map,-List.append_assoc,-List.map_take,-List.map_map]) (by simp[aB,lk]) (by simp[lk])
  have hge:=aP q4
  obtain rfl:k=ls.length:=by omega
  rw[ajy]
  refine jd 2 lZ (WJ (ls.map aC) (ls.map aC).isEmpty [124] (by simp;omega) (fun h=>by simpa using h) hj) q4 ?_
  apply WP.ret
  exact Ends.P rfl (Le.of_eq (by simp_all[St.get,W]))
 have hX:=afp h0 q2
 simp +decide only[TF,q2,↓reduceIte]
 apply z;clear z
 refine aG 4 lZ ?_
 refine aG 2 [0,3,4] ?_
 refine WP.lp [0] (X:={k:Nat // k≤ls.length}) (fun x=>match x with| ⟨(k),_⟩=>[(3,.slice 1 ((ls.take k).map aC).isEmpty (((ls.take k).map aC).map fun x=>[.str x]) (some 0)),(4,.int .i64 k)]) (fun x=>match x with| ⟨(k),_⟩=>[(0,.aI 9 1 k)]) (fun x=>match x with| ⟨(k),_⟩=>ls.length - k) (by simp +decide only[W,↓reduceIte];rfl) ?_ ⟨(0),ada _⟩ ?_
 rotate_left
 ·refine Weak.trans (Weak.ghost 0 9 1 (F':=[(4,.int .i64 0),(3,.slice 1 true [] (some 0)),(0,.slice 1 false (ls.map fun x=>[.str x]) none)]) (σ':=[]) (by simp[lk]) (by simp[keep,ins,zO,wJ]) (by simp[BK])) ?_;exact Weak.store (by simp[St.get,lk,Le.refl]) (by simp[lk]) (by simp[lk]) (by simp[aB,lk]) (by simp[lk])
 rintro ⟨k,hk⟩
 dsimp only
 simp only[abS,abT]
 refine aG 2 lZ ?_
 refine WP.cond rfl (fun q5=>?_) (fun q5=>?_)
 ·have hlt:=aO q5
  have hg:(ls.map fun x=>[D.str x])[k]?=some [.str ls[k]]:=getM hlt
  have hnf:=aX hnl hlt
  have htl:(ls.take k).length=k:=by rw[adg];omega
  have hes:(ls.take (k+1)).map aC=(ls.take k).map aC++[aC ls[k]]:=by rw[aow,abt hlt,List.map_append];rfl
  refine aG 3 [] ?_
  refine WP.R fun _ z=>?_
  simp +decide only[TF,q5,hg,↓reduceIte]
  refine aj.P (lu ls[k] (hls _ (adb hlt))) rfl rfl ?_
  simp +decide only[TF,htl,↓reduceIte]
  refine⟨⟨by simp only[abf,ac',abN,acS];omega,by simp only[abf,ac',abN,acS];omega⟩,?_⟩
  apply z;clear z
  show WP ..
  refine aG 1 [] ?_
  show ∃y,_∧Weak _ _ _
  refine⟨⟨k+1,hlt⟩,?_,?_⟩
  ·dsimp only;omega
  exact Weak.store (by simp[St.get,lk,Le.refl,hes,JM,-List.map_take,aU hlt (show ls.length≤140737488355328 by omega)]) (by simp[lk,hk]) (by simp[lk,hes,fH,yX,-List.mem_append,-List.mem_map,-List.append_assoc,-List.map_take,-List.map_map]) (by simp[aB,lk]) (by simp[lk])
 have hge:=aP q5
 obtain rfl:k=ls.length:=by omega
 rw[ajy]
 refine jd 2 lZ (WJ (ls.map aC) (ls.map aC).isEmpty [124] (by simp;omega) (fun h=>by simpa using h) hj) q5 ?_
 apply WP.ret
 exact Ends.P rfl (Le.of_eq (by simp_all[St.get,W]))
def xH (ls:List (List UInt8))(k:Nat):List D:=((ls.take k).map aC).map D.str++List.replicate (ls.length - k) (D.str [])
theorem WL (ls:List (List UInt8)){k:Nat}(hk:k≤ls.length):(xH ls k).length=ls.length:=by simp[xH];omega
theorem Eu {S:Nat→Prop}(ls:List (List UInt8))(k:Nat):(∀d∈xH ls k,bY S d)↔True:=by
 simp only[iff_true,xH,List.mem_append,List.mem_map,List.mem_replicate]
 rintro d (⟨s,_,rfl⟩ | ⟨_,rfl⟩) <;> exact .str _
theorem aau (ls:List (List UInt8)):List.replicate ls.length (D.str [])=xH ls 0:=by simp[xH]
theorem WM (ls:List (List UInt8)):xH ls ls.length=(ls.map aC).map D.str:=by simp[xH]
theorem NQ {ls:List (List UInt8)}{k:Nat}(hk:k<ls.length):(xH ls k).take k++[D.str (aC ls[k])]++(xH ls k).drop (k+1)=xH ls (k+1):=by
 have hA:(((ls.take k).map aC).map D.str).length=k:=by simp;omega
 have e:(ls.take (k+1)).map aC=(ls.take k).map aC++[aC ls[k]]:=by rw[aow,abt hk,List.map_append];rfl
 unfold xH
 rw[e,List.take_left' hA,List.drop_append,akV (by rw[hA];omega),abT,hA,List.drop_replicate,List.map_append,show ls.length - k - (k+1 - k)=ls.length - (k+1) by omega]
 rfl
theorem Gj {σ:Nat→Option bf}{b:Nat}{e:TypeId}{ls:List (List UInt8)}(hb:σ b=some (.arr e (ls.map D.str))):JE σ (.arr b 1 ls.length) (.slice 1 false (ls.map fun x=>[.str x]) none):=by
 have hn:ls.length=(pU ls).length:=by rw[rQ]
 show JE σ (.arr b 1 ls.length) (.slice 1 false (pU ls) none)
 rw[hn]
 refine .arr (rest:=[]) (by rw[hb,akz,Rl]) (fun x hx=>by obtain⟨s,_,rfl⟩:=List.mem_map.1 hx;rfl) rfl (fun x hx=>by obtain⟨s,_,rfl⟩:=List.mem_map.1 hx;rfl) (by decide) (fun i j x y d d' hx hy hd hd'=>?_)
 rw[hx] at hy;cases hy
 rw[hd] at hd';cases hd'
 obtain⟨s,_,rfl⟩:=List.mem_map.1 (ac8 hx)
 have:=ac8 hd
 simp only[ad1] at this
 subst this;exact .str _
theorem alG (ls:List (List UInt8))(nl:Bool)(hn:ls.length≤1099511627776)(hnl:nl=true→ls=[])(hls:∀x∈ls,x.length≤1099511627776)(hj:(Lib.join (ls.map aC) [124]).length≤140737488355328):ay Pr 97 [.slice 1 nl (ls.map fun x=>[.str x]) none] (.str (oU ls)):=by
 refine ay.of_wp Tryz.func97 rfl (by kernel_rfl) Tryz.ntmps97 (by simp) ?_
 simp only[aT]
 refine aG 3 [0,7] ?_
 refine WP.cond (b:=_) rfl (fun q1=>?_) (fun q1=>?_)
 ·
  have hX:=afn q1
  refine aJ 1 [2] q1 ?_
  refine WP.ret ?_
  exact Ends.pure (.inr rfl) rfl (Le.of_eq (by simp +decide only[St.get,W,hX,↓reduceIte])) (by simp)
 ·
  have h0:=q1
  have hp:=WH h0
  have hnf:=aX hnl hp
  have hg0:(ls.map fun x=>[D.str x])[0]?=some [.str ls[0]]:=getM hp
  refine aG 2 [] ?_
  refine WP.sr [0,16] (by kernel_rfl) fun K hK=>?_
  refine ah.take 4 fun J hJ=>?_
  simp +decide only[TF,q1,hnf,↓reduceIte]
  refine hJ _ _ ?_;clear hJ J
  refine ah.part 11 rfl (fun q2=>?_) (fun q2=>?_)
  ·
   have h1:=q2
   simp +decide only[TF,hg0,q2,↓reduceIte]
   refine hK _ _ ?_;clear hK K
   refine WP.cond (b:=_) rfl (fun q3=>?_) (fun q3=>?_)
   ·
    have hX:=afo hp h1 q3
    refine aJ 1 [2] q3 ?_
    refine WP.ret ?_
    exact Ends.pure (.inr rfl) rfl (Le.of_eq (by simp +decide only[St.get,W,hX,↓reduceIte])) (by simp)
   ·
    have hX:=afq h0 hp q3
    refine aG 2 [] ?_
    refine WP.ZK 2 (by kernel_rfl) rfl rfl rfl fun K hK=>?_
    simp +decide only[TF,q3,↓reduceIte]
    refine hK _ _ ?_;clear hK K
    refine⟨9,1,16,ls.length,0,[.str []],.i64,.i64,wL,wM,zU,rfl,rfl,rfl,by omega,by omega,rfl,fun K hK=>?_⟩
    ·
     simp +decide only[TF,↓reduceIte]
     refine hK _ _ ?_;clear hK K
     show WP _ _ _ _ _ _
     refine aG 3 [0,3,21,22] ?_
     refine WP.lp [0,3,21] (X:={k:Nat // k≤ls.length}) (fun x=>match x with| ⟨(k),_⟩=>[(22,.int .i64 k)]) (fun x=>match x with| ⟨(k),_⟩=>[(0,.arr 9 (xH ls k))]) (fun x=>match x with| ⟨(k),_⟩=>ls.length - k) (by simp +decide only[W,↓reduceIte];rfl) ?_ ⟨(0),ada _⟩ ?_
     rotate_left
     · exact Weak.store (by simp[St.get,lk,W,Le.refl]) (by simp[lk,aau]) (by simp[lk]) (by simp[aB,lk,Eu]) (by simp[lk])
     rintro ⟨k,hk⟩
     dsimp only
     simp only[abS,abT]
     refine aG 2 [0,3,21,22,23] ?_
     refine WP.cond (b:=_) rfl (fun q4=>?_) (fun q4=>?_)
     ·
      have hlt:=aO q4
      have hg:(ls.map fun x=>[D.str x])[k]?=some [.str ls[k]]:=getM hlt
      have hnf:=aX hnl hlt
      have hmx:=NQ hlt
      have hk1:(k<ls.length)=True:=eq_true hlt
      have hL:(k+1≤(xH ls k).length)=True:=eq_true (by rw[WL _ hk];exact hlt)
      refine aJ 4 [0,3,4,21,22] q4 ?_
      refine WP.region (by kernel_rfl) fun K hK=>?_
      simp +decide only[TF,hg,↓reduceIte]
      refine aj.pure (rV ls[k] (hls _ (adb hlt))) rfl rfl (by simp[-List.map_take]) ?_
      simp +decide only[TF,hmx,hk1,hL,aos,↓reduceIte]
      refine hK _ _ ?_;clear hK K
      show WP _ _ _ _ _ _
      refine aG 1 [] ?_
      show ∃y,_∧Weak _ _ _
      refine⟨⟨k+1,hlt⟩,?_,?_⟩
      · dsimp only;omega
      · exact Weak.store (by simp[St.get,lk,Le.refl,aU hlt (show ls.length≤140737488355328 by omega)]) (by simp[lk]) (by simp[lk]) (by simp[aB,lk,Eu]) (by simp[lk])
     ·
      have hge:=aP q4
      obtain rfl:k=ls.length:=by omega
      refine WP.weak (st':=⟨[(3,.slice 1 false ((ls.map aC).map fun x=>[.str x]) none)],[]⟩) (Weak.thaw rfl (by simp only[ad1,forall_eq];have:=Gj (σ:=lk [(0,bf.arr 9 (xH ls ls.length))]) (b:=0) (e:=9) (ls:=ls.map aC) (by simp[lk,WM]);rw[ac'] at this;exact this)) ?_
      refine aJ 2 [2] (Vw (ls.map aC) false [124] (by simp;omega) hj) ?_
      refine WP.ret ?_
      exact Ends.pure (.inr rfl) rfl (Le.of_eq (by simp_all[St.get,W])) (by simp)
  ·
   have hX:=afp h0 q2
   simp +decide only[TF,q2,↓reduceIte]
   refine hK _ _ ?_;clear hK K
   refine WP.cond (b:=false) (by rfl) nofun (fun _=>?_)
   refine aG 2 [] ?_
   refine WP.ZK 2 (by kernel_rfl) rfl rfl rfl fun K hK=>?_
   simp +decide only[TF,↓reduceIte]
   refine hK _ _ ?_;clear hK K
   refine⟨9,1,16,ls.length,0,[.str []],.i64,.i64,wL,wM,zU,rfl,rfl,rfl,by omega,by omega,rfl,fun K hK=>?_⟩
   ·
    simp +decide only[TF,↓reduceIte]
    refine hK _ _ ?_;clear hK K
    show WP _ _ _ _ _ _
    refine aG 3 [0,3,21,22] ?_
    refine WP.lp [0,3,21] (X:={k:Nat // k≤ls.length}) (fun x=>match x with| ⟨(k),_⟩=>[(22,.int .i64 k)]) (fun x=>match x with| ⟨(k),_⟩=>[(0,.arr 9 (xH ls k))]) (fun x=>match x with| ⟨(k),_⟩=>ls.length - k) (by simp +decide only[W,↓reduceIte];rfl) ?_ ⟨(0),ada _⟩ ?_
    rotate_left
    · exact Weak.store (by simp[St.get,lk,W,Le.refl]) (by simp[lk,aau]) (by simp[lk]) (by simp[aB,lk,Eu]) (by simp[lk])
    rintro ⟨k,hk⟩
    dsimp only
    simp only[abS,abT]
    refine aG 2 [0,3,21,22,23] ?_
    refine WP.cond (b:=_) rfl (fun q5=>?_) (fun q5=>?_)
    ·
     have hlt:=aO q5
     have hg:(ls.map fun x=>[D.str x])[k]?=some [.str ls[k]]:=getM hlt
     have hnf:=aX hnl hlt
     have hmx:=NQ hlt
     have hk1:(k<ls.length)=True:=eq_true hlt
     have hL:(k+1≤(xH ls k).length)=True:=eq_true (by rw[WL _ hk];exact hlt)
     refine aJ 4 [0,3,4,21,22] q5 ?_
     refine WP.region (by kernel_rfl) fun K hK=>?_
     simp +decide only[TF,hg,↓reduceIte]
     refine aj.pure (rV ls[k] (hls _ (adb hlt))) rfl rfl (by simp[-List.map_take]) ?_
     simp +decide only[TF,hmx,hk1,hL,aos,↓reduceIte]
     refine hK _ _ ?_;clear hK K
     show WP _ _ _ _ _ _
     refine aG 1 [] ?_
     show ∃y,_∧Weak _ _ _
     refine⟨⟨k+1,hlt⟩,?_,?_⟩
     · dsimp only;omega
     · exact Weak.store (by simp[St.get,lk,Le.refl,aU hlt (show ls.length≤140737488355328 by omega)]) (by simp[lk]) (by simp[lk]) (by simp[aB,lk,Eu]) (by simp[lk])
    ·
     have hge:=aP q5
     obtain rfl:k=ls.length:=by omega
     refine WP.weak (st':=⟨[(3,.slice 1 false ((ls.map aC).map fun x=>[.str x]) none)],[]⟩) (Weak.thaw rfl (by simp only[ad1,forall_eq];have:=Gj (σ:=lk [(0,bf.arr 9 (xH ls ls.length))]) (b:=0) (e:=9) (ls:=ls.map aC) (by simp[lk,WM]);rw[ac'] at this;exact this)) ?_
     refine aJ 2 [2] (Vw (ls.map aC) false [124] (by simp;omega) hj) ?_
     refine WP.ret ?_
     exact Ends.pure (.inr rfl) rfl (Le.of_eq (by simp_all[St.get,W])) (by simp)
structure As where
 id:List UInt8
 iw:List UInt8
 jV:List UInt8
 sub:List UInt8
 req:List UInt8
 kK:Int
 fD:Int
 lvl:Int
 nl:Bool
 ats:List At
def As.cs (a:As):List D:=[.str a.id,.str a.iw,.str a.jV,.str a.sub,.str a.req,.int .i64 a.kK,.int .i64 a.fD,.int .i64 a.lvl,.slice 2 a.nl (a.ats.map At.cs) none]
def jo (n:Int):Prop:=-9223372036854775808≤n∧n≤9223372036854775807
def As.ok (a:As):Prop:=(a.id.length≤1099511627776∧a.iw.length≤1099511627776∧a.jV.length≤1099511627776∧a.sub.length≤1099511627776∧a.req.length≤1099511627776)∧(jo a.kK∧jo a.fD∧jo a.lvl)∧a.ats.length≤1099511627776∧(a.nl=true→a.ats=[])∧∀x∈a.ats,x.ok
def bM (a:As):Int:=
 if (!(bg a.id) || !(bg a.iw) || !(bg a.jV) || !(bg a.req) || !(b_ a.sub))=true then 5
 else if (decide (a.kK<0) || decide (a.kK≥a.fD) || decide (a.fD>1099511627776))=true then 2
 else if (decide (a.lvl<0) || decide (a.lvl>3))=true then 27 else eP a.ats
@[simp] theorem apX {S:Nat→Prop}(a:As):(∀d∈a.cs,bY S d)↔True:=by
 simp only[iff_true]
 intro d hd
 simp only[As.cs,ael,akg,or_false] at hd
 rcases hd with rfl|rfl|rfl|rfl|rfl|rfl|rfl|rfl|rfl
 any_goals first|exact .str _|exact .int _ _
 exact .slice ((fV _).2 trivial) (by simp)
abbrev eX:List Nat:=[1,2,30,45,53]
theorem NR (a:As)(ha:a.ok):ay Pr 15 [.agg [.str a.id,.str a.iw,.str a.jV,.str a.sub,.str a.req,.int .i64 a.kK,.int .i64 a.fD,.int .i64 a.lvl,.slice 2 a.nl (a.ats.map At.cs) none]] (.int .i64 (bM a)):=by
 obtain⟨⟨h1,h2,h3,h4,h5⟩,⟨h6,h7,h8⟩,h9,h10,h11⟩:=ha
 refine gK Tryz.func15 Tryz.ntmps15 ?_
 refine aG 2 eX ?_
 refine WP.S eX fun _ z=>?_
 simp +decide only[TF,↓reduceIte]
 refine aj.P (kG a.id (by omega)) rfl rfl ?_
 refine ah.take 2 fun J hJ=>?_
 simp +decide only[TF,↓reduceIte]
 refine hJ _ _ ?_;clear hJ J
 refine ah.part 7 rfl (fun q1=>?_) (fun q1=>?_)
 ·simp only[adh] at q1
  simp +decide only[TF,q1,↓reduceIte]
  apply z;clear z
  refine aG 2 eX ?_
  apply WP.ret
  exact Bv @bM.eq_def q1
 simp only[afE] at q1
 simp +decide only[TF,q1,↓reduceIte]
 refine aj.P (kG a.iw (by omega)) rfl rfl ?_
 refine ah.take 3 fun J hJ=>?_
 simp +decide only[TF,↓reduceIte]
 refine hJ _ _ ?_;clear hJ J
 refine ah.part 13 rfl (fun q2=>?_) (fun q2=>?_)
 ·simp +decide only[TF,q2,↓reduceIte]
  apply z;clear z
  refine aG 2 eX ?_
  apply WP.ret
  exact Md @bM.eq_def q1 q2
 simp +decide only[TF,q2,↓reduceIte]
 refine aj.P (kG a.jV (by omega)) rfl rfl ?_
 refine ah.take 3 fun J hJ=>?_
 simp +decide only[TF,↓reduceIte]
 refine hJ _ _ ?_;clear hJ J
 refine ah.part 19 rfl (fun q3=>?_) (fun q3=>?_)
 ·simp +decide only[TF,q3,↓reduceIte]
  apply z;clear z
  refine aG 2 eX ?_
  apply WP.ret
  exact Yb @bM.eq_def q1 q2 q3
 simp +decide only[TF,q3,↓reduceIte]
 refine aj.P (kG a.req (by omega)) rfl rfl ?_
 refine ah.take 3 fun J hJ=>?_
 simp +decide only[TF,↓reduceIte]
 refine hJ _ _ ?_;clear hJ J
 refine ah.part 25 rfl (fun q4=>?_) (fun q4=>?_)
 ·simp +decide only[TF,q4,↓reduceIte]
  apply z;clear z
  refine aG 2 eX ?_
  apply WP.ret
  exact zP5 @bM.eq_def q1 q2 q3 q4
 simp +decide only[TF,q4,↓reduceIte]
 refine aj.P (Wn a.sub (by omega)) rfl rfl ?_
 simp +decide only[TF,↓reduceIte]
 apply z;clear z
 refine WP.cond rfl (fun q5=>?_) (fun q5=>?_)
 ·refine aJ 1 eX q5 ?_
  apply WP.ret
  exact zP6 @bM.eq_def q1 q2 q3 q4 q5
 refine aG 2 [] ?_
 refine WP.S eX fun _ z=>?_
 refine ah.take 4 fun J hJ=>?_
 simp +decide only[TF,q5,↓reduceIte]
 refine hJ _ _ ?_;clear hJ J
 refine ah.part 34 rfl (fun q6=>?_) (fun q6=>?_)
 ·simp +decide only[TF,q6,↓reduceIte]
  apply z;clear z
  refine aG 2 eX ?_
  apply WP.ret
  exact Ends.P rfl (Le.of_eq (by simp +decide only[St.get,W,bM,q1,q2,q3,q4,q5,q6,↓reduceIte]))
 refine ah.take 7 fun J hJ=>?_
 simp +decide only[TF,q6,↓reduceIte]
 refine hJ _ _ ?_;clear hJ J
 refine ah.part 41 rfl (fun q7=>?_) (fun q7=>?_)
 ·simp +decide only[TF,q7,↓reduceIte]
  apply z;clear z
  refine aG 2 eX ?_
  apply WP.ret
  exact Ends.P rfl (Le.of_eq (by simp +decide only[St.get,W,bM,q1,q2,q3,q4,q5,q6,q7,↓reduceIte]))
 simp +decide only[TF,q7,↓reduceIte]
 apply z;clear z
 refine WP.cond rfl (fun q8=>?_) (fun q8=>?_)
 ·refine aJ 1 eX q8 ?_
  apply WP.ret
  exact Ends.P rfl (Le.of_eq (by simp +decide only[St.get,W,bM,q1,q2,q3,q4,q5,q6,q7,q8,↓reduceIte]))
 refine aG 2 [] ?_
 refine WP.S eX fun _ z=>?_
 refine ah.take 4 fun J hJ=>?_
 simp +decide only[TF,q8,↓reduceIte]
 refine hJ _ _ ?_;clear hJ J
 refine ah.part 49 rfl (fun q9=>?_) (fun q9=>?_)
 ·simp +decide only[TF,q9,↓reduceIte]
  apply z;clear z
  refine aG 2 eX ?_
  apply WP.ret
  exact Ends.P rfl (Le.of_eq (by simp +decide only[St.get,W,bM,q1,q2,q3,q4,q5,q6,q7,q8,q9,↓reduceIte]))
 simp +decide only[TF,q9,↓reduceIte]
 apply z;clear z
 refine WP.cond rfl (fun q10=>?_) (fun q10=>?_)
 ·refine aJ 1 eX q10 ?_
  apply WP.ret
  exact Ends.P rfl (Le.of_eq (by simp +decide only[St.get,W,bM,q1,q2,q3,q4,q5,q6,q7,q8,q9,q10,↓reduceIte]))
 refine jd 2 eX (YH a.ats a.nl h9 h10 h11) q10 ?_
 apply WP.ret
 exact Ends.P rfl (Le.of_eq (by simp +decide only[St.get,W,bM,q1,q2,q3,q4,q5,q6,q7,q8,q9,q10,↓reduceIte]))
abbrev dJ:List Nat:=[1,2,30,45,53]
theorem Ug (a:As)(ha:a.ok):ay Pr 16 [.agg [.str a.id,.str a.iw,.str a.jV,.str a.sub,.str a.req,.int .i64 a.kK,.int .i64 a.fD,.int .i64 a.lvl,.slice 2 a.nl (a.ats.map At.cs) none]] (.int .i64 (bM a)):=by
 obtain⟨⟨h1,h2,h3,h4,h5⟩,⟨h6,h7,h8⟩,h9,h10,h11⟩:=ha
 refine gK Tryz.func16 Tryz.ntmps16 ?_
 refine aG 2 dJ ?_
 refine WP.S dJ fun _ z=>?_
 simp +decide only[TF,↓reduceIte]
 refine aj.P (iI a.id (by omega)) rfl rfl ?_
 refine ah.take 2 fun J hJ=>?_
 simp +decide only[TF,↓reduceIte]
 refine hJ _ _ ?_;clear hJ J
 refine ah.part 7 rfl (fun q1=>?_) (fun q1=>?_)
 ·simp only[adh] at q1
  simp +decide only[TF,q1,↓reduceIte]
  apply z;clear z
  refine aG 2 dJ ?_
  apply WP.ret
  exact Bv @bM.eq_def q1
 simp only[afE] at q1
 simp +decide only[TF,q1,↓reduceIte]
 refine aj.P (iI a.iw (by omega)) rfl rfl ?_
 refine ah.take 3 fun J hJ=>?_
 simp +decide only[TF,↓reduceIte]
 refine hJ _ _ ?_;clear hJ J
 refine ah.part 13 rfl (fun q2=>?_) (fun q2=>?_)
 ·simp +decide only[TF,q2,↓reduceIte]
  apply z;clear z
  refine aG 2 dJ ?_
  apply WP.ret
  exact Md @bM.eq_def q1 q2
 simp +decide only[TF,q2,↓reduceIte]
 refine aj.P (iI a.jV (by omega)) rfl rfl ?_
 refine ah.take 3 fun J hJ=>?_
 simp +decide only[TF,↓reduceIte]
 refine hJ _ _ ?_;clear hJ J
 refine ah.part 19 rfl (fun q3=>?_) (fun q3=>?_)
 ·simp +decide only[TF,q3,↓reduceIte]
  apply z;clear z
  refine aG 2 dJ ?_
  apply WP.ret
  exact Yb @bM.eq_def q1 q2 q3
 simp +decide only[TF,q3,↓reduceIte]
 refine aj.P (iI a.req (by omega)) rfl rfl ?_
 refine ah.take 3 fun J hJ=>?_
 simp +decide only[TF,↓reduceIte]
 refine hJ _ _ ?_;clear hJ J
 refine ah.part 25 rfl (fun q4=>?_) (fun q4=>?_)
 ·simp +decide only[TF,q4,↓reduceIte]
  apply z;clear z
  refine aG 2 dJ ?_
  apply WP.ret
  exact zP5 @bM.eq_def q1 q2 q3 q4
 simp +decide only[TF,q4,↓reduceIte]
 refine aj.P (zW a.sub (by omega)) rfl rfl ?_
 simp +decide only[TF,↓reduceIte]
 apply z;clear z
 refine WP.cond rfl (fun q5=>?_) (fun q5=>?_)
 ·refine aJ 1 dJ q5 ?_
  apply WP.ret
  exact zP6 @bM.eq_def q1 q2 q3 q4 q5
 refine aG 2 [] ?_
 refine WP.S dJ fun _ z=>?_
 refine ah.take 4 fun J hJ=>?_
 simp +decide only[TF,q5,↓reduceIte]
 refine hJ _ _ ?_;clear hJ J
 refine ah.part 34 rfl (fun q6=>?_) (fun q6=>?_)
 ·simp +decide only[TF,q6,↓reduceIte]
  apply z;clear z
  refine aG 2 dJ ?_
  apply WP.ret
  exact Ends.P rfl (Le.of_eq (by simp +decide only[St.get,W,bM,q1,q2,q3,q4,q5,q6,↓reduceIte]))
 refine ah.take 7 fun J hJ=>?_
 simp +decide only[TF,q6,↓reduceIte]
 refine hJ _ _ ?_;clear hJ J
 refine ah.part 41 rfl (fun q7=>?_) (fun q7=>?_)
 ·simp +decide only[TF,q7,↓reduceIte]
  apply z;clear z
  refine aG 2 dJ ?_
  apply WP.ret
  exact Ends.P rfl (Le.of_eq (by simp +decide only[St.get,W,bM,q1,q2,q3,q4,q5,q6,q7,↓reduceIte]))
 simp +decide only[TF,q7,↓reduceIte]
 apply z;clear z
 refine WP.cond rfl (fun q8=>?_) (fun q8=>?_)
 ·refine aJ 1 dJ q8 ?_
  apply WP.ret
  exact Ends.P rfl (Le.of_eq (by simp +decide only[St.get,W,bM,q1,q2,q3,q4,q5,q6,q7,q8,↓reduceIte]))
 refine aG 2 [] ?_
 refine WP.S dJ fun _ z=>?_
 refine ah.take 4 fun J hJ=>?_
 simp +decide only[TF,q8,↓reduceIte]
 refine hJ _ _ ?_;clear hJ J
 refine ah.part 49 rfl (fun q9=>?_) (fun q9=>?_)
 ·simp +decide only[TF,q9,↓reduceIte]
  apply z;clear z
  refine aG 2 dJ ?_
  apply WP.ret
  exact Ends.P rfl (Le.of_eq (by simp +decide only[St.get,W,bM,q1,q2,q3,q4,q5,q6,q7,q8,q9,↓reduceIte]))
 simp +decide only[TF,q9,↓reduceIte]
 apply z;clear z
 refine WP.cond rfl (fun q10=>?_) (fun q10=>?_)
 ·refine aJ 1 dJ q10 ?_
  apply WP.ret
  exact Ends.P rfl (Le.of_eq (by simp +decide only[St.get,W,bM,q1,q2,q3,q4,q5,q6,q7,q8,q9,q10,↓reduceIte]))
 refine jd 2 dJ (T_ a.ats a.nl h9 h10 h11) q10 ?_
 apply WP.ret
 exact Ends.P rfl (Le.of_eq (by simp +decide only[St.get,W,bM,q1,q2,q3,q4,q5,q6,q7,q8,q9,q10,↓reduceIte]))
end Go.Proofs
