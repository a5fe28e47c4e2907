import Derived.Test.YtekopfoidhhedaaGreatDoorG27
import Derived.Test.YtekopfoidhhedaaGreatDoorG22
import Derived.Test.YtekopfoidhhedaaGreatDoorG13
import Derived.Test.YtekopfoidhhedaaGreatDoorG19
import Derived.Test.YtekopfoidhhedaaGreatDoorG11
import Derived.Test.YtekopfoidhhedaaGreatDoorG21
set_option linter.unusedVariables false
set_option linter.unusedSimpArgs false
set_option linter.unnecessarySimpa false
set_option maxRecDepth 10000
namespace Go.Proofs
open Go Go.Id
theorem NT:∀(pre l:List (List UInt8)),wW pre l=0→∀v∈l,b_ v=true
 |pre,[],_,v,hv=>by simp at hv
 |pre,x::l,h,v,hv=>by
  simp only[wW] at h
  split at h
  ·cases h
  split at h
  ·cases h
  rename_i h1 h2
  rcases ael.1 hv with rfl|hv
  ·simpa using h1
  ·exact NT _ l h v hv
theorem Ro:∀(pre l:List At),AP pre l=0→∀a∈l,nameB a.name=true∧∀v∈a.vals,b_ v=true
 |pre,[],_,a,ha=>by simp at ha
 |pre,x::l,h,a,ha=>by
  simp only[AP] at h
  split at h
  ·rename_i h1;exact absurd h h1
  rename_i h1
  rcases ael.1 ha with rfl|ha
  ·have h2:=Decidable.not_not.1 h1
   unfold atE at h2
   split at h2
   ·cases h2
   split at h2
   ·cases h2
   split at h2
   ·cases h2
   split at h2
   ·cases h2
   rename_i q1 q2 q3 q4
   exact⟨by simpa using q1,NT [] _ h2⟩
  ·exact Ro _ l h a ha
theorem Js {l:List At}(h:eP l=0):∀a∈l,nameB a.name=true∧∀v∈a.vals,b_ v=true:=by
 unfold eP at h
 split at h
 ·cases h
 exact Ro [] l h
theorem jE {a:As}(h:bM a=0):(bg a.id=true∧bg a.iw=true∧bg a.jV=true∧bg a.req=true∧b_ a.sub=true)∧(0≤a.kK∧a.kK<a.fD∧a.fD≤1099511627776)∧(0≤a.lvl∧a.lvl≤3)∧eP a.ats=0:=by
 unfold bM at h
 split at h
 ·cases h
 split at h
 ·cases h
 split at h
 ·cases h
 rename_i h1 h2 h3
 simp only[Bool.or_eq_true,adh,not_or,Bool.not_eq_false,decide_eq_true_eq] at h1 h2 h3
 obtain⟨⟨⟨⟨q1,q2⟩,q3⟩,q4⟩,q5⟩:=h1
 exact⟨⟨q1,q2,q3,q4,q5⟩,by omega,by omega,h⟩
def bW (k v:List UInt8):List UInt8:=k++[61]++v++[10]
def nM:List UInt8:=[105,100]
def gJ:List UInt8:=[105,115,115,117,101,114]
def iy:List UInt8:=[97,117,100,105,101,110,99,101]
def ji:List UInt8:=[115,117,98,106,101,99,116]
def jT:List UInt8:=[114,101,113,117,101,115,116]
def kW:List UInt8:=[105,115,115,117,101,100]
def mQ:List UInt8:=[117,110,116,105,108]
def ql:List UInt8:=[108,101,118,101,108]
def mV:List UInt8:=[97,116,116,114]
def nG (a:As):List UInt8:=bW nM (aC a.id)++bW gJ (aC a.iw)++bW iy (aC a.jV)++bW ji (aC a.sub)++bW jT (aC a.req)++bW kW (Lib.itoa a.kK)++bW mQ (Lib.itoa a.fD)++bW ql (Lib.itoa a.lvl)
def JO (x:At):List UInt8:=bW mV (oU (x.name::x.vals))
def lF (a:As)(k:Nat):List UInt8:=nG a++(((jh a.ats).take k).map JO).flatten
def iL (a:As):List UInt8:=nG a++((jh a.ats).map JO).flatten
theorem NU (a:As):lF a 0=nG a:=by simp[lF]
theorem wY (a:As):lF a (jh a.ats).length=iL a:=by simp[lF,iL]
theorem zk (a:As){k:Nat}(hk:k<(jh a.ats).length):lF a (k+1)=lF a k++JO (jh a.ats)[k]:=by
 unfold lF
 rw[aow,abt hk,List.map_append,apL];simp[-List.map_take]
theorem gX (k v:List UInt8):(bW k v).length=k.length+v.length+2:=by simp[bW];omega
theorem YO {ls:List (List UInt8)}{t:List UInt8}{n:Nat}(h:∀x∈ls,x.length≤n):(Lib.join ls t).length≤ls.length * (n+t.length):=by
 induction ls with
 |nil=>simp[Lib.join_nil]
 |cons a l ih=>
  have h1:=ih fun x hx=>h x (by simp[hx])
  have ha:=h a (by simp)
  cases l with
  |nil=>rw[Lib.join_one];simp;omega
  |cons b l=>
   have:=Gi t [a] (b::l) (by simp) (by simp)
   rw[aoj] at this
   rw[this,Lib.join_one]
   simp only[abf,abN] at h1 ⊢
   rw[Nat.succ_mul];omega
theorem qm {l:List At}(hc:eP l=0){x:At}(hx:x∈jh l):x.name.length≤256∧x.nl=false∧x.vals≠[]∧x.vals.length≤16∧∀v∈x.vals,v.length≤256:=by
 obtain⟨a,ha,rfl⟩:=List.mem_map.1 ((vV l).mem_iff.1 hx)
 obtain⟨q1,q2⟩:=Js hc a ha
 have hk:=Gf hc
 refine⟨?_,rfl,?_,?_,fun v hv=>FW (q2 v ((oQ _ _).1 hv))⟩
 ·show (bG a.name).length≤256
  rw[vO]
  have:=q1
  simp only[nameB,r_,ait,decide_eq_true_eq] at this
  omega
 ·intro e
  have:=dL a.vals
  rw[show bU a.vals=[] from e] at this
  exact hk.val a ha (List.length_eq_zero_iff.1 this.symm)
 ·show (bU a.vals).length≤16
  rw[dL];exact hk.v16 a ha
theorem aiz {ls:List (List UInt8)}(h:∀x∈ls,x.length≤256):∀x∈ls.map aC,x.length≤768:=by
 intro x hx
 obtain⟨y,hy,rfl⟩:=List.mem_map.1 hx
 have:=qc y
 have:=h y hy
 omega
theorem NV {ls:List (List UInt8)}(h:∀x∈ls,x.length≤256):(Lib.join (ls.map aC) [124]).length≤ls.length * 769:=by
 have:=YO (t:=[124]) (aiz h)
 simpa using this
theorem afs {ls:List (List UInt8)}(h:∀x∈ls,x.length≤256):(oU ls).length≤ls.length * 769+3:=by
 unfold oU
 split
 ·simp
 split
 ·simp
 ·have:=NV h;omega
theorem NW {l:List At}(hc:eP l=0){x:At}(hx:x∈jh l):∀s∈x.name::x.vals,s.length≤256:=by
 obtain⟨h1,_,_,_,h5⟩:=qm hc hx
 intro s hs
 rcases ael.1 hs with rfl|hs
 ·exact h1
 ·exact h5 s hs
theorem NY {l:List At}(hc:eP l=0){x:At}(hx:x∈jh l):(JO x).length≤14000:=by
 obtain⟨h1,_,_,h4,h5⟩:=qm hc hx
 have:=afs (NW hc hx)
 unfold JO
 rw[gX]
 simp only[abN] at this
 have hk:mV.length=4:=rfl
 omega
theorem jU {a:As}(hc:bM a=0):(nG a).length≤3000:=by
 obtain⟨⟨q1,q2,q3,q4,q5⟩,⟨q6,q7,q8⟩,⟨q9,q10⟩,_⟩:=jE hc
 have a1:=mF q1;have a2:=mF q2;have a3:=mF q3;have a4:=mF q4;have a5:=FW q5
 have b1:=qc a.id;have b2:=qc a.iw;have b3:=qc a.jV;have b4:=qc a.req;have b5:=qc a.sub
 have c1:=D9 (n:=a.kK) ⟨q6,by omega⟩;have c2:=D9 (n:=a.fD) ⟨by omega,q8⟩;have c3:=D9 (n:=a.lvl) ⟨q9,by omega⟩
 simp only[nG,abf,gX,nM,gJ,iy,ji,jT,kW,mQ,ql,abN,acS]
 omega
theorem NZ {a:As}(hc:bM a=0)(k:Nat):(lF a k).length≤3000+k * 14000:=by
 induction k with
 |zero=>rw[NU];have:=jU hc;omega
 |succ k ih=>
  rcases apG k (jh a.ats).length with hk|hk
  ·rw[zk a hk,abf]
   have:=NY (jE hc).2.2.2 (adb hk)
   omega
  ·have:lF a (k+1)=lF a k:=by
    unfold lF
    rw[ajr hk,ajr (by omega)]
   have h2:=congrArg List.length this
   omega
theorem aiA (l m:List UInt8):(l++m).isEmpty=(l.isEmpty && m.isEmpty):=by cases l <;> simp
set_option maxRecDepth 10000
set_option maxHeartbeats 4000000
theorem aiB (a:Bool)(l k v:List UInt8)(hl:l.length+(bW k v).length≤140737488355328):aF Pr 92 [.str k,.str v,.ref 0 0] [(0,.box 144 [pY a 0,.slice 1 l.isEmpty (fK l) (some 1)]),(1,.aI 5 1 l.length)] (.aQ []) [(0,.box 144 [.ref 0 0,.slice 1 (l++bW k v).isEmpty (fK (l++bW k v)) (some 1)]),(1,.aI 5 1 (l++bW k v).length)]:=by
 have hll:=gX k v
 refine qX Tryz.func92 Tryz.ntmps92 ?_
 refine WP.R fun _ z=>?_
 simp +decide only[TF,↓reduceIte]
 refine⟨by first|omega|(simp only[abf,abN,acS];omega),by simp only[abf,abN,acS];omega,by simp only[abf,abN,acS];omega,?_⟩
 show aj Pr _ [.ref 0 0,.str (bW k v)] _ _
 refine aj.imp (akX 0 1 (by decide) a l.isEmpty l (bW k v) hl) rfl rfl (by cases a <;> simp[lk,aB,fZ,pY]) (by simp[lk]) (by simp[lk]) ?_
 simp +decide only[TF,↓reduceIte]
 apply z;clear z
 refine Ends.imp (.inl rfl) rfl (Le.of_eq (by simp +decide only[St.get])) ?_ ?_ ?_
 ·simp
 ·simp[lk,aB,fZ,aiA]
 simp[lk]
theorem Uh (l:List At)(nl:Bool)(hn:l.length≤1099511627776)(hnl:nl=true→l=[])(hl:∀a∈l,a.ok)(hc:CkA l):ay Pr 96 [.slice 2 nl (l.map At.cs) none] (.slice 2 l.isEmpty ((jh l).map At.cs) none):=by
 refine aF.weak (WE l nl hn hnl hl hc) ⟨Le.refl _,trivial⟩ ?_
 by_cases h:l=[]
 · subst h;rw[Uf];exact Le.nil _ _ _
 · rw[if_neg h];exact Le.refl _
theorem qQ (b t:Nat)(h:b≠t)(a:Bool)(l k v:List UInt8)(hl:l.length+(bW k v).length≤140737488355328):aF Pr 92 [.str k,.str v,.ref b 0] [(b,.box 144 [pY a b,.slice 1 l.isEmpty (fK l) (some t)]),(t,.aI 5 1 l.length)] (.aQ [])
  [(b,.box 144 [.ref b 0,.slice 1 (l++bW k v).isEmpty (fK (l++bW k v)) (some t)]),(t,.aI 5 1 (l++bW k v).length)]:=by
 obtain⟨f,g,h1,h2⟩:=lg [b,t] (by simp[h])
 have:=aF.rename h1 (aiB a l k v hl)
 have f0:f 0=b:=h2 0 b rfl
 have f1:f 1=t:=h2 1 t rfl
 simpa [kC,lU,bK,iG,Td,f0,f1,Tf] using this
theorem YP (a:As)(ha:a.ok)(hc:bM a=0):ay Pr 43 [.agg [.str a.id,.str a.iw,.str a.jV,.str a.sub,.str a.req,.int .i64 a.kK,.int .i64 a.fD,.int .i64 a.lvl,.slice 2 a.nl (a.ats.map At.cs) none]] (.str (iL a)):=by
 obtain⟨⟨q1,q2,q3,q4,q5⟩,⟨q6,q7,q8⟩,⟨q9,q10⟩,hca⟩:=jE hc
 have hck:=Gf hca
 have hhl:=jU hc
 obtain⟨⟨h1,h2,h3,h4,h5⟩,⟨h6,h7,h8⟩,h9,h10,h11⟩:=ha
 have hnA:(jh a.ats).length≤32:=by rw[Ae];exact hck.len
 refine gK Tryz.func43 Tryz.ntmps43 ?_
 refine aG 2 [1,3] ?_
 refine WP.weak (st':=⟨[(1,.ref 0 0),(3,.ref 1 0)],[(0,.box 24 [.str a.id,.str a.iw,.str a.jV,.str a.sub,.str a.req,.int .i64 a.kK,.int .i64 a.fD,.int .i64 a.lvl,.slice 2 a.nl (a.ats.map At.cs) none]),(1,.box 144 [pY true 1,.slice 1 (([]:List UInt8)).isEmpty (fK (([]:List UInt8))) (some 2)]),(2,.aI 5 1 (([]:List UInt8)).length)]⟩) (Weak.trans (Weak.ghost 2 5 1 (F':=[(3,.ref 1 0),(1,.ref 0 0)]) (σ':=[(1,.box 144 [.aV,.slice 1 true [] (some 2)]),(0,.box 24 [.str a.id,.str a.iw,.str a.jV,.str a.sub,.str a.req,.int .i64 a.kK,.int .i64 a.fD,.int .i64 a.lvl,.slice 2 a.nl (a.ats.map At.cs) none])]) (by simp[lk]) (by simp[keep,ins,zO,wJ]) (by simp[BK,OT,PV,wJ])) (Weak.store (by simp[St.get,lk,Le.refl]) (by simp[lk,pY,fK]) (by simp[lk]) (by simp[aB,lk,fZ,pY]) (by simp))) ?_
 refine aG 1 [1,3,4] ?_
 refine WP.meet (⟨[(4,.fn (.func 92) [] [.ref 1 0]),(1,.ref 0 0),(3,.ref 1 0)],[(0,.box 24 [.str a.id,.str a.iw,.str a.jV,.str a.sub,.str a.req,.int .i64 a.kK,.int .i64 a.fD,.int .i64 a.lvl,.slice 2 a.nl (a.ats.map At.cs) none]),(1,.box 144 [pY false 1,.slice 1 (bW nM (aC a.id)).isEmpty (fK (bW nM (aC a.id))) (some 2)]),(2,.aI 5 1 (bW nM (aC a.id)).length)]⟩) ?_ ?_
 ·
  refine WP.region (by kernel_rfl) fun K hK=>?_
  simp +decide only[TF,↓reduceIte]
  refine aj.pure (rV a.id (by omega)) rfl rfl (by simp) ?_
  simp +decide only[TF,↓reduceIte]
  refine aj.imp (qQ 1 2 (by decide) true (([]:List UInt8)) nM (aC a.id) (by rw[gX];have:=jU hc;simp only[nG,abf,gX,nM,gJ,iy,ji,jT,kW,mQ,ql,abN,acS] at this ⊢;omega)) rfl rfl (by simp[lk,aB,fZ,pY]) (by simp[lk]) (by simp[lk]) ?_
  simp +decide only[TF,↓reduceIte]
  refine hK _ _ ?_
  show Weak _ _ _
  exact CP @pY.eq_def @fZ
 ·
  refine WP.meet (⟨[(4,.fn (.func 92) [] [.ref 1 0]),(1,.ref 0 0),(3,.ref 1 0)],[(0,.box 24 [.str a.id,.str a.iw,.str a.jV,.str a.sub,.str a.req,.int .i64 a.kK,.int .i64 a.fD,.int .i64 a.lvl,.slice 2 a.nl (a.ats.map At.cs) none]),(1,.box 144 [pY false 1,.slice 1 (bW nM (aC a.id)++bW gJ (aC a.iw)).isEmpty (fK (bW nM (aC a.id)++bW gJ (aC a.iw))) (some 2)]),(2,.aI 5 1 (bW nM (aC a.id)++bW gJ (aC a.iw)).length)]⟩) ?_ ?_
  ·
   refine WP.region (by kernel_rfl) fun K hK=>?_
   simp +decide only[TF,↓reduceIte]
   refine aj.pure (rV a.iw (by omega)) rfl rfl (by simp) ?_
   simp +decide only[TF,↓reduceIte]
   refine aj.imp (qQ 1 2 (by decide) false (bW nM (aC a.id)) gJ (aC a.iw) (by rw[gX];have:=jU hc;simp only[nG,abf,gX,nM,gJ,iy,ji,jT,kW,mQ,ql,abN,acS] at this ⊢;omega)) rfl rfl (by simp[lk,aB,fZ,pY]) (by simp[lk]) (by simp[lk]) ?_
   simp +decide only[TF,↓reduceIte]
   refine hK _ _ ?_
   show Weak _ _ _
   exact CP @pY.eq_def @fZ
  ·
   refine WP.meet (⟨[(4,.fn (.func 92) [] [.ref 1 0]),(1,.ref 0 0),(3,.ref 1 0)],[(0,.box 24 [.str a.id,.str a.iw,.str a.jV,.str a.sub,.str a.req,.int .i64 a.kK,.int .i64 a.fD,.int .i64 a.lvl,.slice 2 a.nl (a.ats.map At.cs) none]),(1,.box 144 [pY false 1,.slice 1 (bW nM (aC a.id)++bW gJ (aC a.iw)++bW iy (aC a.jV)).isEmpty (fK (bW nM (aC a.id)++bW gJ (aC a.iw)++bW iy (aC a.jV))) (some 2)]),(2,.aI 5 1 (bW nM (aC a.id)++bW gJ (aC a.iw)++bW iy (aC a.jV)).length)]⟩) ?_ ?_
   ·
    refine WP.region (by kernel_rfl) fun K hK=>?_
    simp +decide only[TF,↓reduceIte]
    refine aj.pure (rV a.jV (by omega)) rfl rfl (by simp) ?_
    simp +decide only[TF,↓reduceIte]
    refine aj.imp (qQ 1 2 (by decide) false (bW nM (aC a.id)++bW gJ (aC a.iw)) iy (aC a.jV) (by rw[gX];have:=jU hc;simp only[nG,abf,gX,nM,gJ,iy,ji,jT,kW,mQ,ql,abN,acS] at this ⊢;omega)) rfl rfl (by simp[lk,aB,fZ,pY]) (by simp[lk]) (by simp[lk]) ?_
    simp +decide only[TF,↓reduceIte]
    refine hK _ _ ?_
    show Weak _ _ _
    exact CP @pY.eq_def @fZ
   ·
    refine WP.meet (⟨[(4,.fn (.func 92) [] [.ref 1 0]),(1,.ref 0 0),(3,.ref 1 0)],[(0,.box 24 [.str a.id,.str a.iw,.str a.jV,.str a.sub,.str a.req,.int .i64 a.kK,.int .i64 a.fD,.int .i64 a.lvl,.slice 2 a.nl (a.ats.map At.cs) none]),(1,.box 144 [pY false 1,.slice 1 (bW nM (aC a.id)++bW gJ (aC a.iw)++bW iy (aC a.jV)++bW ji (aC a.sub)).isEmpty (fK (bW nM (aC a.id)++bW gJ (aC a.iw)++bW iy (aC a.jV)++bW ji (aC a.sub))) (some 2)]),(2,.aI 5 1 (bW nM (aC a.id)++bW gJ (aC a.iw)++bW iy (aC a.jV)++bW ji (aC a.sub)).length)]⟩) ?_ ?_
    ·
     refine WP.region (by kernel_rfl) fun K hK=>?_
     simp +decide only[TF,↓reduceIte]
     refine aj.pure (rV a.sub (by omega)) rfl rfl (by simp) ?_
     simp +decide only[TF,↓reduceIte]
     refine aj.imp (qQ 1 2 (by decide) false (bW nM (aC a.id)++bW gJ (aC a.iw)++bW iy (aC a.jV)) ji (aC a.sub) (by rw[gX];have:=jU hc;simp only[nG,abf,gX,nM,gJ,iy,ji,jT,kW,mQ,ql,abN,acS] at this ⊢;omega)) rfl rfl (by simp[lk,aB,fZ,pY]) (by simp[lk]) (by simp[lk]) ?_
     simp +decide only[TF,↓reduceIte]
     refine hK _ _ ?_
     show Weak _ _ _
     exact CP @pY.eq_def @fZ
    ·
     refine WP.meet (⟨[(4,.fn (.func 92) [] [.ref 1 0]),(1,.ref 0 0),(3,.ref 1 0)],[(0,.box 24 [.str a.id,.str a.iw,.str a.jV,.str a.sub,.str a.req,.int .i64 a.kK,.int .i64 a.fD,.int .i64 a.lvl,.slice 2 a.nl (a.ats.map At.cs) none]),(1,.box 144 [pY false 1,.slice 1 (bW nM (aC a.id)++bW gJ (aC a.iw)++bW iy (aC a.jV)++bW ji (aC a.sub)++bW jT (aC a.req)).isEmpty (fK (bW nM (aC a.id)++bW gJ (aC a.iw)++bW iy (aC a.jV)++bW ji (aC a.sub)++bW jT (aC a.req))) (some 2)]),(2,.aI 5 1 (bW nM (aC a.id)++bW gJ (aC a.iw)++bW iy (aC a.jV)++bW ji (aC a.sub)++bW jT (aC a.req)).length)]⟩) ?_ ?_
     ·
      refine WP.region (by kernel_rfl) fun K hK=>?_
      simp +decide only[TF,↓reduceIte]
      refine aj.pure (rV a.req (by omega)) rfl rfl (by simp) ?_
      simp +decide only[TF,↓reduceIte]
      refine aj.imp (qQ 1 2 (by decide) false (bW nM (aC a.id)++bW gJ (aC a.iw)++bW iy (aC a.jV)++bW ji (aC a.sub)) jT (aC a.req) (by rw[gX];have:=jU hc;simp only[nG,abf,gX,nM,gJ,iy,ji,jT,kW,mQ,ql,abN,acS] at this ⊢;omega)) rfl rfl (by simp[lk,aB,fZ,pY]) (by simp[lk]) (by simp[lk]) ?_
      simp +decide only[TF,↓reduceIte]
      refine hK _ _ ?_
      show Weak _ _ _
      exact CP @pY.eq_def @fZ
     ·
      refine WP.meet (⟨[(4,.fn (.func 92) [] [.ref 1 0]),(1,.ref 0 0),(3,.ref 1 0)],[(0,.box 24 [.str a.id,.str a.iw,.str a.jV,.str a.sub,.str a.req,.int .i64 a.kK,.int .i64 a.fD,.int .i64 a.lvl,.slice 2 a.nl (a.ats.map At.cs) none]),(1,.box 144 [pY false 1,.slice 1 (bW nM (aC a.id)++bW gJ (aC a.iw)++bW iy (aC a.jV)++bW ji (aC a.sub)++bW jT (aC a.req)++bW kW (Lib.itoa a.kK)).isEmpty (fK (bW nM (aC a.id)++bW gJ (aC a.iw)++bW iy (aC a.jV)++bW ji (aC a.sub)++bW jT (aC a.req)++bW kW (Lib.itoa a.kK))) (some 2)]),(2,.aI 5 1 (bW nM (aC a.id)++bW gJ (aC a.iw)++bW iy (aC a.jV)++bW ji (aC a.sub)++bW jT (aC a.req)++bW kW (Lib.itoa a.kK)).length)]⟩) ?_ ?_
      ·
       refine WP.region (by kernel_rfl) fun K hK=>?_
       simp +decide only[TF,↓reduceIte]
       refine aj.pure (aeu a.kK (by omega) (by omega)) rfl rfl (by simp) ?_
       simp +decide only[TF,↓reduceIte]
       refine aj.imp (qQ 1 2 (by decide) false (bW nM (aC a.id)++bW gJ (aC a.iw)++bW iy (aC a.jV)++bW ji (aC a.sub)++bW jT (aC a.req)) kW (Lib.itoa a.kK) (by rw[gX];have:=jU hc;simp only[nG,abf,gX,nM,gJ,iy,ji,jT,kW,mQ,ql,abN,acS] at this ⊢;omega)) rfl rfl (by simp[lk,aB,fZ,pY]) (by simp[lk]) (by simp[lk]) ?_
       simp +decide only[TF,↓reduceIte]
       refine hK _ _ ?_
       show Weak _ _ _
       exact CP @pY.eq_def @fZ
      ·
       refine WP.meet (⟨[(4,.fn (.func 92) [] [.ref 1 0]),(1,.ref 0 0),(3,.ref 1 0)],[(0,.box 24 [.str a.id,.str a.iw,.str a.jV,.str a.sub,.str a.req,.int .i64 a.kK,.int .i64 a.fD,.int .i64 a.lvl,.slice 2 a.nl (a.ats.map At.cs) none]),(1,.box 144 [pY false 1,.slice 1 (bW nM (aC a.id)++bW gJ (aC a.iw)++bW iy (aC a.jV)++bW ji (aC a.sub)++bW jT (aC a.req)++bW kW (Lib.itoa a.kK)++bW mQ (Lib.itoa a.fD)).isEmpty (fK (bW nM (aC a.id)++bW gJ (aC a.iw)++bW iy (aC a.jV)++bW ji (aC a.sub)++bW jT (aC a.req)++bW kW (Lib.itoa a.kK)++bW mQ (Lib.itoa a.fD))) (some 2)]),(2,.aI 5 1 (bW nM (aC a.id)++bW gJ (aC a.iw)++bW iy (aC a.jV)++bW ji (aC a.sub)++bW jT (aC a.req)++bW kW (Lib.itoa a.kK)++bW mQ (Lib.itoa a.fD)).length)]⟩) ?_ ?_
       ·
        refine WP.region (by kernel_rfl) fun K hK=>?_
        simp +decide only[TF,↓reduceIte]
        refine aj.pure (aeu a.fD (by omega) (by omega)) rfl rfl (by simp) ?_
        simp +decide only[TF,↓reduceIte]
        refine aj.imp (qQ 1 2 (by decide) false (bW nM (aC a.id)++bW gJ (aC a.iw)++bW iy (aC a.jV)++bW ji (aC a.sub)++bW jT (aC a.req)++bW kW (Lib.itoa a.kK)) mQ (Lib.itoa a.fD) (by rw[gX];have:=jU hc;simp only[nG,abf,gX,nM,gJ,iy,ji,jT,kW,mQ,ql,abN,acS] at this ⊢;omega)) rfl rfl (by simp[lk,aB,fZ,pY]) (by simp[lk]) (by simp[lk]) ?_
        simp +decide only[TF,↓reduceIte]
        refine hK _ _ ?_
        show Weak _ _ _
        exact CP @pY.eq_def @fZ
       ·
        refine WP.meet (⟨[(4,.fn (.func 92) [] [.ref 1 0]),(1,.ref 0 0),(3,.ref 1 0)],[(0,.box 24 [.str a.id,.str a.iw,.str a.jV,.str a.sub,.str a.req,.int .i64 a.kK,.int .i64 a.fD,.int .i64 a.lvl,.slice 2 a.nl (a.ats.map At.cs) none]),(1,.box 144 [pY false 1,.slice 1 (bW nM (aC a.id)++bW gJ (aC a.iw)++bW iy (aC a.jV)++bW ji (aC a.sub)++bW jT (aC a.req)++bW kW (Lib.itoa a.kK)++bW mQ (Lib.itoa a.fD)++bW ql (Lib.itoa a.lvl)).isEmpty (fK (bW nM (aC a.id)++bW gJ (aC a.iw)++bW iy (aC a.jV)++bW ji (aC a.sub)++bW jT (aC a.req)++bW kW (Lib.itoa a.kK)++bW mQ (Lib.itoa a.fD)++bW ql (Lib.itoa a.lvl))) (some 2)]),(2,.aI 5 1 (bW nM (aC a.id)++bW gJ (aC a.iw)++bW iy (aC a.jV)++bW ji (aC a.sub)++bW jT (aC a.req)++bW kW (Lib.itoa a.kK)++bW mQ (Lib.itoa a.fD)++bW ql (Lib.itoa a.lvl)).length)]⟩) ?_ ?_
        ·
         refine WP.region (by kernel_rfl) fun K hK=>?_
         simp +decide only[TF,↓reduceIte]
         refine aj.pure (aeu a.lvl (by omega) (by omega)) rfl rfl (by simp) ?_
         simp +decide only[TF,↓reduceIte]
         refine aj.imp (qQ 1 2 (by decide) false (bW nM (aC a.id)++bW gJ (aC a.iw)++bW iy (aC a.jV)++bW ji (aC a.sub)++bW jT (aC a.req)++bW kW (Lib.itoa a.kK)++bW mQ (Lib.itoa a.fD)) ql (Lib.itoa a.lvl) (by rw[gX];have:=jU hc;simp only[nG,abf,gX,nM,gJ,iy,ji,jT,kW,mQ,ql,abN,acS] at this ⊢;omega)) rfl rfl (by simp[lk,aB,fZ,pY]) (by simp[lk]) (by simp[lk]) ?_
         simp +decide only[TF,↓reduceIte]
         refine hK _ _ ?_
         show Weak _ _ _
         exact CP @pY.eq_def @fZ
        ·
         refine aJ 3 [3,4,50,51,52] (Uh a.ats a.nl h9 h10 h11 hck) ?_
         refine WP.lp [3,4,50,51] (X:={k:Nat // k≤(jh a.ats).length}) (fun x=>match x with| ⟨(k),_⟩=>[(52,.int .i64 k)]) (fun x=>match x with| ⟨(k),_⟩=>[(0,.box 24 [.str a.id,.str a.iw,.str a.jV,.str a.sub,.str a.req,.int .i64 a.kK,.int .i64 a.fD,.int .i64 a.lvl,.slice 2 a.nl (a.ats.map At.cs) none]),(1,.box 144 [pY false 1,.slice 1 (lF a k).isEmpty (fK (lF a k)) (some 2)]),(2,.aI 5 1 (lF a k).length)]) (fun x=>match x with| ⟨(k),_⟩=>(jh a.ats).length - k) (by simp +decide only[W,↓reduceIte];rfl) ?_ ⟨(0),ada _⟩ ?_
         rotate_left
         · exact zY4 @NU @nG.eq_def @fZ @pY.eq_def
         rintro ⟨k,hk⟩
         dsimp only
         simp only[abS,abT]
         refine aG 2 [3,4,50,51,52,53] ?_
         refine WP.cond (b:=_) rfl (fun q1=>?_) (fun q1=>?_)
         ·
          have hlt:=aO q1
          have hne:a.ats.isEmpty=false:=by cases hx:a.ats with|nil=>rw[hx,Uf] at hlt;simp at hlt|cons=>rfl
          obtain⟨hn1,aft,hn3,hn4,hn5⟩:=qm hca (adb hlt)
          have hg:((jh a.ats).map At.cs)[k]?=some [.str (jh a.ats)[k].name,.slice 1 (jh a.ats)[k].nl ((jh a.ats)[k].vals.map fun x=>[.str x]) none]:=getM hlt
          have hlk:=NZ hc k
          have hln:=zk a hlt
          have hal:=NY hca (adb hlt)
          have hcs:=NW hca (adb hlt)
          have hat:bW mV (oU ((jh a.ats)[k].name::(jh a.ats)[k].vals))=JO (jh a.ats)[k]:=rfl
          refine CO 4 [3,4,6,50,51,52] q1 hg hne aft ?_
          refine WP.region (by kernel_rfl) fun K hK=>?_
          simp +decide only[TF,↓reduceIte]
          refine⟨⟨by omega,by omega⟩,?_⟩
          refine aj.pure (alG ((jh a.ats)[k].name::(jh a.ats)[k].vals) false (by simp;omega) nofun (fun x hx=>by have:=hcs x hx;omega) (by have:=NV hcs;simp only[abN] at this;omega)) rfl rfl (by simp[fH]) ?_
          simp +decide only[TF,↓reduceIte]
          refine aj.imp (qQ 1 2 (by decide) false (lF a k) mV (oU ((jh a.ats)[k].name::(jh a.ats)[k].vals)) (by have h9:(bW mV (oU ((jh a.ats)[k].name::(jh a.ats)[k].vals))).length≤14000:=hal;omega)) rfl rfl (by simp[lk,aB,fZ,pY]) (by simp[lk]) (by simp[lk]) ?_
          simp +decide only[TF,↓reduceIte]
          refine hK _ _ ?_;clear hK K
          show WP _ _ _ _ _ _
          refine aG 1 [] ?_
          show ∃y,_∧Weak _ _ _
          refine⟨⟨k+1,hlt⟩,?_,?_⟩
          · dsimp only;omega
          · exact Weak.store (by simp[St.get,lk,Le.refl,hne,aU hlt (show (jh a.ats).length≤140737488355328 by omega)]) (by simp[lk,hln,hat,pY]) (by simp[lk]) (by simp[aB,lk,fZ,pY]) (by simp)
         ·
          have hge:=aP q1
          obtain rfl:k=(jh a.ats).length:=by omega
          refine CO 2 [2] (Ti 1 2 (by decide) (pY false 1) (lF a (jh a.ats).length)) q1 @fZ @pY.eq_def ?_
          refine WP.ret ?_
          exact Ends.pure (.inr rfl) rfl (Le.of_eq (by simp +decide only[St.get,W,wY,↓reduceIte])) (by simp)
theorem YQ (b:Nat)(s t:List UInt8)(hs:s.length<4294967281)(ht:t≠[]):aF Pr 49 [.str s,.str t] [] (.arr b 1 (oN s t).length) [(b,.arr 9 ((oN s t).map .str))]:=by
 refine⟨dH Tryz.func49 (by kernel_rfl) (by kernel_rfl),fun M γ w vs hst hl hr=>?_⟩
 match vs,hl with
 | [v,v'],_=>
  obtain⟨⟨⟨l⟩⟩,rfl,hb⟩:=tH (hr 0 _ _ rfl rfl)
  obtain⟨⟨⟨k⟩⟩,rfl,hc⟩:=tH (hr 1 _ _ rfl rfl)
  simp only at hb hc
  subst hb
  subst hc
  have h1:1≤(⟨⟨k⟩⟩:ByteArray).size:=akT.2 ht
  obtain⟨⟨m,hm⟩,_⟩:=hst.inv
  refine (Tryz.strings_Split ⟨⟨l⟩⟩ ⟨⟨k⟩⟩ m w hs hm h1).mono ?_
  rintro e w' ⟨rfl,rfl⟩
  have hlen:=Lib.splitB_all ⟨⟨k⟩⟩ h1 0 _ ⟨⟨l⟩⟩ rfl
  have hl2:(oN l k).length=Lib.countB ⟨⟨l⟩⟩ ⟨⟨k⟩⟩+1:=by rw[oN,ac'];exact hlen
  have hn0:lk ([]:List (Nat × bf)) b=none:=rfl
  have hv:=aW.fresh hst hn0 (.arr w.heap.size (Lib.countB ⟨⟨l⟩⟩ ⟨⟨k⟩⟩+1) 1) (w.alloc (.cells ((Lib.splitB ⟨⟨k⟩⟩ 0 (Lib.countB ⟨⟨l⟩⟩ ⟨⟨k⟩⟩) ⟨⟨l⟩⟩).map Value.string).toArray 9)) rfl rfl rfl (by simp) (bP w _) (fun B hB=>by simp[G.block] at hB;omega)
  have hBn:=heap_alloc_new w (.cells ((Lib.splitB ⟨⟨k⟩⟩ 0 (Lib.countB ⟨⟨l⟩⟩ ⟨⟨k⟩⟩) ⟨⟨l⟩⟩).map Value.string).toArray 9)
  have hst2:=hst.change b (.arr 9 ((oN l k).map .str)) (.arr w.heap.size (Lib.countB ⟨⟨l⟩⟩ ⟨⟨k⟩⟩+1) 1) _ hv (fun i gi B hi hg hB=>bP w _ _ (hst.lt hg hB)) (fun B hB=>by simp[G.block] at hB;omega)
   (.arr _ 9 (0,0) hBn (by simp[hl2,hlen]) (fun i v hi hv=>⟨?_,by unfold World.frozen?;rw[hBn];simp⟩) (fun i d v hd hv=>?_) ⟨.inl ⟨rfl,rfl⟩,?_,?_⟩)
  ·refine⟨_,_,rfl,?_,hv,by rw[hl2];exact .arr (upd_same _ _ _) (ag4 _)⟩
   have:lk [(b,bf.arr 9 ((oN l k).map .str))]=Go.Id.upd (lk []) b (some (.arr 9 ((oN l k).map .str))):=by funext j;simp only[lk,Go.Id.upd]
   rw[this];exact hst2
  ·simp only[amj,adw,abR] at hv
   obtain⟨x,_,rfl⟩:=hv;rfl
  ·simp only[amj,adw,abR] at hv
   obtain⟨x,hx,rfl⟩:=hv
   rw[oN,List.map_map,adw,hx] at hd
   cases hd
   exact sW rfl
  ·simp[hlen]
  ·have:=Lib.countB_le ⟨⟨k⟩⟩ h1 _ ⟨⟨l⟩⟩ (ag4 _)
   have h2:(⟨⟨l⟩⟩:ByteArray).size=l.length:=rfl
   show Lib.countB ⟨⟨l⟩⟩ ⟨⟨k⟩⟩+1≤9223372036854775807
   omega
def UO:List (List UInt8)→Option (List (List UInt8))
 | []=>some []
 |x::l=>match sO x with
  |none=>none
  |some y=>(UO l).map (y::·)
theorem N7 {x:List UInt8}{l:List (List UInt8)}(h:sO x=none):UO (x::l)=none:=by simp[UO,h]
theorem Ew {x y:List UInt8}{l:List (List UInt8)}(h:sO x=some y):UO (x::l)=(UO l).map (y::·):=by simp[UO,h]
def qR (s:List UInt8):Option (List (List UInt8)):=if (s == [45])=true then some [] else if (s == [37,50,68])=true then some [[45]] else UO (bH 124 [] s)
def vW (o:Option (List (List UInt8))):D:=
 match o with
 |some l=> .aQ [.slice 1 l.isEmpty (l.map fun x=>[.str x]) none,.int .i64 0]
 |none=> .aQ [.slice 1 true [] none,.int .i64 4]
theorem afu {s:List UInt8}(h:(s == [45])=true):qR s=some []:=by unfold qR;rw[if_pos h]
theorem afv {s:List UInt8}(h0:(s == [45])=false)(h:(s == [37,50,68])=true):qR s=some [[45]]:=by unfold qR;rw[if_neg (by rw[h0];decide),if_pos h]
theorem YR {s:List UInt8}(h0:(s == [45])=false)(h:(s == [37,50,68])=false):qR s=UO (bH 124 [] s):=by unfold qR;rw[if_neg (by rw[h0];decide),if_neg (by rw[h];decide)]
def xI (ls vs:List (List UInt8)):List D:=vs.map D.str++(ls.drop vs.length).map D.str
theorem alH (ls:List (List UInt8)):xI ls []=ls.map D.str:=by simp[xI]
theorem afw (ls vs:List (List UInt8))(h:vs.length≤ls.length):(xI ls vs).length=ls.length:=by simp[xI];omega
theorem WO {S:Nat→Prop}(ls vs:List (List UInt8)):(∀d∈xI ls vs,bY S d)↔True:=by
 simp only[iff_true,xI,List.mem_append,List.mem_map]
 rintro d (⟨s,_,rfl⟩ | ⟨s,_,rfl⟩) <;> exact .str _
theorem aav {ls vs:List (List UInt8)}{k:Nat}(hk:k<ls.length)(hv:vs.length=k):(xI ls vs).drop k= .str ls[k]::(ls.drop (k+1)).map D.str:=by
 unfold xI
 rw[List.drop_append,akV (by simp;omega),abT,hv]
 simp only[ac',hv,Nat.sub_self,aoY]
 rw[bZ hk,ag1]
theorem YS {ls vs:List (List UInt8)}{k:Nat}(hk:k<ls.length)(hv:vs.length=k)(y:List UInt8):(xI ls vs).take k++[D.str y]++(xI ls vs).drop (k+1)=xI ls (vs++[y]):=by
 have e:(xI ls vs).drop (k+1)=(ls.drop (k+1)).map D.str:=by
  have:=aav hk hv
  rw[← alv,this];rfl
 rw[e]
 unfold xI
 rw[List.take_left' (by simpa using hv)]
 simp[hv]
theorem afx {ls vs:List (List UInt8)}(h:vs.length=ls.length):xI ls vs=vs.map D.str:=by unfold xI;rw[akV (by omega)];simp
theorem Le.Ui {a b a' b':D}(h:Le a a')(k:Le b b'):Le (.aQ [a,b]) (.aQ [a',b']):=fun M γ w v hv=>by
 cases hv with
 |aQ hl hr=>
  refine .aQ (by simpa using hl) fun i d x h1 h2=>?_
  match i with
  | 0=>cases h1;exact h _ _ _ _ (hr 0 _ _ rfl h2)
  | 1=>cases h1;exact k _ _ _ _ (hr 1 _ _ rfl h2)
  |i+2=>simp at h1
@[simp] theorem anK {S:Nat→Prop}(o:Option (List (List UInt8))):bY S (vW o):=by
 cases o with
 |none=>simp[vW]
 |some l=>simp[vW,fH]
theorem c_split (s:List UInt8)(hs:s.length≤1048576):ay Pr 52 [.str s] (vW (qR s)):=by
 have hcl:=qg 124 s []
 have hcm:=rW 124 s []
 refine ay.of_wp Tryz.func52 rfl (by kernel_rfl) Tryz.ntmps52 (by simp) ?_
 simp only[aT]
 refine aG 3 [0,10] ?_
 refine WP.cond (b:=_) rfl (fun q1=>?_) (fun q1=>?_)
 ·
  have hX:=afu q1
  refine aJ 1 [2,3] q1 ?_
  refine WP.ret ?_
  exact Ends.pure (d:= .aQ [_,_]) (.inr rfl) rfl ((by rw[hX];simp +decide only[vW,St.get,lk,W,List.isEmpty_nil,↓reduceIte];first|exact Le.refl _|exact Le.Ui (Le.nil _ _ _) (Le.refl _))) (by simp)
 ·
  have h0:=q1
  refine aJ 3 [0,12] q1 ?_
  refine WP.cond (b:=_) rfl (fun q2=>?_) (fun q2=>?_)
  ·
   have hX:=afv h0 q2
   refine aJ 1 [2,3] q2 ?_
   refine WP.ret ?_
   exact Ends.pure (d:= .aQ [_,_]) (.inr rfl) rfl ((by rw[hX];simp +decide only[vW,St.get,lk,W,List.isEmpty_cons,↓reduceIte];first|exact Le.refl _|exact Le.Ui (Le.nil _ _ _) (Le.refl _))) (by simp)
  ·
   have hX2:=YR h0 q2
   refine aG 1 [] ?_
   refine WP.sr [4] (by kernel_rfl) fun K hK=>?_
   simp +decide only[TF,q2,↓reduceIte]
   refine aj.imp (YQ 0 s [124] (by omega) (by simp)) rfl rfl (by simp) (by simp[lk]) (by simp) ?_
   rw[MX]
   simp +decide only[TF,↓reduceIte]
   refine hK _ _ ?_;clear hK K
   refine aG 3 [4,16,17,18] ?_
   refine WP.lp [4,16,17] (X:={x:(Nat) × (List (List UInt8)) // match x with|(k,vs)=>k≤(bH 124 [] s).length∧vs.length=k∧UO (bH 124 [] s)=(UO ((bH 124 [] s).drop k)).map (vs++·)}) (fun x=>match x with| ⟨(k,vs),_⟩=>[(18,.int .i64 k)]) (fun x=>match x with| ⟨(k,vs),_⟩=>[(0,.arr 9 (xI (bH 124 [] s) vs))]) (fun x=>match x with| ⟨(k,vs),_⟩=>(bH 124 [] s).length - k) (by simp +decide only[W,↓reduceIte];rfl) ?_ ⟨(0,[]),⟨ada _,rfl,by simp⟩⟩ ?_
   rotate_left
   · exact Weak.store (by simp[St.get,lk,W,Le.refl]) (by simp[lk,alH]) (by simp[lk]) (by simp[aB,lk,WO]) (by simp)
   rintro ⟨⟨k,vs⟩,hk,hv,hI⟩
   dsimp only
   simp only[abS,abT]
   refine aG 2 [4,16,17,18,19] ?_
   refine WP.cond (b:=_) rfl (fun q3=>?_) (fun q3=>?_)
   ·
    have hlt:=aO q3
    have hat:=aav hlt hv
    have hk1:(k<(bH 124 [] s).length)=True:=eq_true hlt
    rw[bZ hlt] at hI
    refine CO 4 [4,5,6,16,17,18] q3 hat hk1 @aos ?_
    rcases hu:sO (bH 124 [] s)[k] with _|y
    ·
     rw[N7 hu,akn] at hI
     have hX:=hX2.trans hI
     refine WP.sr [4,5,7,8,16,17,18] (by kernel_rfl) fun K hK=>?_
     simp +decide only[TF,↓reduceIte]
     refine aj.pure (wR (bH 124 [] s)[k] (by have:=hcm _ (adb hlt);simp at this;omega)) rfl rfl (by simp[-List.map_take]) ?_
     simp +decide only[TF,hu,GU,↓reduceIte]
     refine hK _ _ ?_;clear hK K
     refine aG 2 [4,5,7,8,16,17,18,29] ?_
     refine WP.cond (b:=true) (by rfl) (fun _=>?_) nofun
     refine aG 1 [2,3] ?_
     refine WP.ret ?_
     exact Ends.pure (d:= .aQ [_,_]) (.inr rfl) rfl ((by rw[hX];simp +decide only[vW,St.get,lk,W,↓reduceIte];first|exact Le.refl _|exact Le.Ui (Le.nil _ _ _) (Le.refl _))) (by simp)
    ·
     rw[Ew hu,Option.map_map] at hI
     have hst:=YS hlt hv y
     have hL:(k+1≤(xI (bH 124 [] s) vs).length)=True:=eq_true (by rw[afw _ _ (by omega)];exact hlt)
     refine WP.sr [4,5,7,8,16,17,18] (by kernel_rfl) fun K hK=>?_
     simp +decide only[TF,↓reduceIte]
     refine aj.pure (wR (bH 124 [] s)[k] (by have:=hcm _ (adb hlt);simp at this;omega)) rfl rfl (by simp[-List.map_take]) ?_
     simp +decide only[TF,hu,GU,↓reduceIte]
     refine hK _ _ ?_;clear hK K
     refine aG 2 [4,5,7,8,16,17,18,29] ?_
     refine WP.cond (b:=false) (by rfl) nofun (fun _=>?_)
     refine CO 3 [] hk1 @aos hst hL ?_
     show ∃y,_∧Weak _ _ _
     refine⟨⟨(k+1,vs++[y]),?_⟩,?_,?_⟩
     · exact⟨hlt,by simp[hv],by rw[hI];congr 1;funext z;simp⟩
     · dsimp only;omega
     · exact Weak.store (by simp[St.get,lk,Le.refl,aU hlt (show (bH 124 [] s).length≤140737488355328 by have:=hcl.1;omega)]) (by simp[lk]) (by simp[lk]) (by simp[aB,lk,WO]) (by simp)
   ·
    have hge:=aP q3
    rw[dR hge] at hI
    have hX:=hX2.trans (hI.trans (b:=(UO []).map (vs++·)) (show _=some vs by simp[UO]))
    have hvl:vs.length=(bH 124 [] s).length:=by omega
    have hne:vs.isEmpty=false:=by cases vs with|nil=>simp at hv;omega|cons=>rfl
    refine WP.weak (st':=⟨[(4,.slice 1 false (vs.map fun x=>[.str x]) none)],[]⟩) (Weak.thaw rfl (by simp only[ad1,forall_eq];have:=Gj (σ:=lk [(0,bf.arr 9 (xI (bH 124 [] s) vs))]) (b:=0) (e:=9) (ls:=vs) (by simp[lk,afx hvl]);rw[hvl] at this;exact this)) ?_
    refine aG 2 [2,3] ?_
    refine WP.ret ?_
    exact Ends.pure (d:= .aQ [_,_]) (.inr rfl) rfl ((by rw[hX];simp +decide only[vW,St.get,lk,W,hne,↓reduceIte];first|exact Le.refl _|exact Le.Ui (Le.nil _ _ _) (Le.refl _))) (by simp)
theorem Ah (s:List UInt8)(hs:s.length≤1048576):ay Pr 109 [.str s] (vW (qR s)):=by
 have hcl:=qg 124 s []
 have hcm:=rW 124 s []
 refine gK Tryz.func109 Tryz.ntmps109 ?_
 refine aG 3 [0,10] ?_
 refine WP.cond (b:=_) rfl (fun q1=>?_) (fun q1=>?_)
 ·
  have hX:=afu q1
  refine aJ 1 [2,3] q1 ?_
  refine WP.ret ?_
  exact Ends.pure (d:= .aQ [_,_]) (.inr rfl) rfl ((by rw[hX];simp +decide only[vW,St.get,lk,W,List.isEmpty_nil,↓reduceIte];first|exact Le.refl _|exact Le.fg _|exact Le.Ui (Le.nil _ _ _) (Le.refl _))) (by simp)
 ·
  have h0:=q1
  refine aJ 3 [0,12] q1 ?_
  refine WP.cond (b:=_) rfl (fun q2=>?_) (fun q2=>?_)
  ·
   have hX:=afv h0 q2
   refine aJ 1 [2,3] q2 ?_
   refine WP.ret ?_
   exact Ends.pure (d:= .aQ [_,_]) (.inr rfl) rfl ((by rw[hX];simp +decide only[vW,St.get,lk,W,List.isEmpty_cons,↓reduceIte];first|exact Le.refl _|exact Le.fg _|exact Le.Ui (Le.nil _ _ _) (Le.refl _))) (by simp)
  ·
   have hX2:=YR h0 q2
   refine jd 6 [4,5,6] (ahR s 124 (by omega)) q2 ?_
   refine WP.lp [4] (X:={x:(Nat) × (List (List UInt8)) // match x with|(k,vs)=>k≤(bH 124 [] s).length∧vs.length=k∧UO (bH 124 [] s)=(UO ((bH 124 [] s).drop k)).map (vs++·)}) (fun x=>match x with| ⟨(k,vs),_⟩=>[(5,.slice 1 vs.isEmpty (vs.map fun x=>[.str x]) (some 0)),(6,.int .i64 k)]) (fun x=>match x with| ⟨(k,vs),_⟩=>[(0,.aI 9 1 vs.length)]) (fun x=>match x with| ⟨(k,vs),_⟩=>(bH 124 [] s).length - k) (by simp +decide only[W,↓reduceIte];rfl) ?_ ⟨(0,[]),⟨ada _,rfl,by simp⟩⟩ ?_
   rotate_left
   · refine Weak.trans (Weak.ghost 0 9 1 (F':=[(6,.int .i64 0),(5,.slice 1 true [] (some 0)),(4,.slice 1 false ((bH 124 [] s).map fun x=>[.str x]) none)]) (σ':=[]) (by simp[lk]) (by simp[keep,ins,zO,wJ]) (by simp[BK])) ?_;exact QB
   rintro ⟨⟨k,vs⟩,hk,hv,hI⟩
   dsimp only
   simp only[abS,abT]
   refine aG 2 [4,5,6,19] ?_
   refine WP.cond (b:=_) rfl (fun q3=>?_) (fun q3=>?_)
   ·
    have hlt:=aO q3
    have hg:((bH 124 [] s).map fun x=>[D.str x])[k]?=some [.str (bH 124 [] s)[k]]:=getM hlt
    rw[bZ hlt] at hI
    refine aG 3 [] ?_
    rcases hu:sO (bH 124 [] s)[k] with _|y
    ·
     rw[N7 hu,akn] at hI
     have hX:=hX2.trans hI
     refine WP.sr [4,5,6,7,8] (by kernel_rfl) fun K hK=>?_
     simp +decide only[TF,q3,hg,↓reduceIte]
     refine aj.pure (wS (bH 124 [] s)[k] (by have:=hcm _ (adb hlt);simp at this;omega)) rfl rfl (by simp[-List.map_take]) ?_
     simp +decide only[TF,hu,GU,↓reduceIte]
     refine hK _ _ ?_;clear hK K
     refine aG 2 [4,5,6,7,8,31] ?_
     refine WP.cond (b:=true) (by rfl) (fun _=>?_) nofun
     refine aG 1 [2,3] ?_
     refine WP.ret ?_
     exact Ends.pure (d:= .aQ [_,_]) (.inr rfl) rfl ((by rw[hX];simp +decide only[vW,St.get,lk,W,↓reduceIte];first|exact Le.refl _|exact Le.fg _|exact Le.Ui (Le.nil _ _ _) (Le.refl _))) (by simp)
    ·
     rw[Ew hu,Option.map_map] at hI
     refine WP.sr [4,5,6,7,8] (by kernel_rfl) fun K hK=>?_
     simp +decide only[TF,q3,hg,↓reduceIte]
     refine aj.pure (wS (bH 124 [] s)[k] (by have:=hcm _ (adb hlt);simp at this;omega)) rfl rfl (by simp[-List.map_take]) ?_
     simp +decide only[TF,hu,GU,↓reduceIte]
     refine hK _ _ ?_;clear hK K
     refine aG 2 [4,5,6,7,8,31] ?_
     refine WP.cond (b:=false) (by rfl) nofun (fun _=>?_)
     refine aG 1 [] ?_
     refine WP.region (by kernel_rfl) fun K hK=>?_
     simp +decide only[TF,↓reduceIte]
     refine⟨⟨by simp only[abf,ac',abN,acS];omega,by simp only[abf,ac',abN,acS];omega⟩,?_⟩
     refine hK _ _ ?_;clear hK K
     show WP _ _ _ _ _ _
     refine aG 1 [] ?_
     show ∃y,_∧Weak _ _ _
     refine⟨⟨(k+1,vs++[y]),?_⟩,?_,?_⟩
     · exact⟨hlt,by simp[hv],by rw[hI];congr 1;funext z;simp⟩
     · dsimp only;omega
     · exact Weak.store (by simp[St.get,lk,Le.refl,JM,aU hlt (show (bH 124 [] s).length≤140737488355328 by have:=hcl.1;omega)]) (by simp[lk]) (by simp[lk,fH,yX,-List.mem_append,-List.mem_map,-List.append_assoc]) (by simp[aB,lk]) (by simp[lk])
   ·
    have hge:=aP q3
    rw[dR hge] at hI
    have hX:=hX2.trans (hI.trans (b:=(UO []).map (vs++·)) (show _=some vs by simp[UO]))
    have hne:vs.isEmpty=false:=by cases vs with|nil=>simp at hv;omega|cons=>rfl
    refine jd 2 [2,3] q3 hne ?_
    refine WP.ret ?_
    exact Ends.pure (d:= .aQ [_,_]) (.inr rfl) rfl ((by rw[hX];simp +decide only[vW,St.get,lk,W,hne,↓reduceIte];first|exact Le.refl _|exact Le.fg _|exact Le.Ui (Le.nil _ _ _) (Le.refl _))) (by simp)
def dX (a:As):List UInt8 × Int:=if (bM a != 0)=true then ([],bM a) else if decide (((iL a).length:Int)>4096)=true then ([],3) else (iL a,0)
theorem afy {a:As}(h:(bM a != 0)=true):dX a=([],bM a):=by unfold dX;rw[if_pos h]
theorem afz {a:As}(h0:(bM a != 0)=false)(h:decide (((iL a).length:Int)>4096)=true):dX a=([],3):=by unfold dX;rw[if_neg (by rw[h0];decide),if_pos h]
theorem YT {a:As}(h0:(bM a != 0)=false)(h:decide (((iL a).length:Int)>4096)=false):dX a=(iL a,0):=by unfold dX;rw[if_neg (by rw[h0];decide),if_neg (by rw[h];decide)]
theorem anL {a:As}(h:(bM a != 0)=false):bM a=0:=by simpa using h
def Rq (a:As):List (List UInt8 × List UInt8):=[(nM,aC a.id),(gJ,aC a.iw),(iy,aC a.jV),(ji,aC a.sub),(jT,aC a.req),(kW,Lib.itoa a.kK),(mQ,Lib.itoa a.fD),(ql,Lib.itoa a.lvl)]
def Ey (a:As)(k:Nat):List UInt8:=(((Rq a).take k).map fun p=>bW p.1 p.2).flatten
theorem aiC (a:As):Ey a 0=[]:=rfl
theorem aaw (a:As):Ey a (Rq a).length=nG a:=by
 unfold Ey nG
 rw[ajy]
 simp[Rq]
theorem YU (a:As){k:Nat}(hk:k<(Rq a).length):Ey a (k+1)=Ey a k++bW (Rq a)[k].1 (Rq a)[k].2:=by
 unfold Ey
 rw[aow,abt hk,List.map_append,apL]
 simp[-List.map_take]
theorem afA (a:As)(k:Nat):(Ey a k).length≤(nG a).length:=by
 rw[← aaw]
 unfold Ey
 rw[ajy]
 have h:=congrArg (fun l=>((l.map fun p:List UInt8 × List UInt8=>bW p.1 p.2).flatten).length) (aki k (Rq a))
 simp only[List.map_append,apL,abf] at h
 omega
abbrev qo:List Nat:=[1,2,3,4,5,9,15]
theorem zl (a:As)(ha:a.ok):ay Pr 11 [.agg [.str a.id,.str a.iw,.str a.jV,.str a.sub,.str a.req,.int .i64 a.kK,.int .i64 a.fD,.int .i64 a.lvl,.slice 2 a.nl (a.ats.map At.cs) none]] (.aQ [.str (dX a).1,.int .i64 (dX a).2]):=by
 have ha0:=ha
 refine gK Tryz.func11 Tryz.ntmps11 ?_
 refine aJ 4 qo (NR a ha) ?_
 refine WP.cond rfl (fun q1=>?_) (fun q1=>?_)
 ·have hX:=afy q1
  refine aJ 1 qo q1 ?_
  apply WP.ret
  exact Ends.P (d:= .aQ [_,_]) rfl ((by rw[hX];simp +decide only[St.get,lk,W,↓reduceIte];exact Le.refl _))
 have h0:=q1
 have hc:=anL h0
 refine jd 4 qo (YP a ha0 hc) q1 ?_
 refine WP.cond rfl (fun q2=>?_) (fun q2=>?_)
 ·have hX:=afz h0 q2
  refine aJ 1 qo q2 ?_
  apply WP.ret
  exact Ends.P (d:= .aQ [_,_]) rfl ((by rw[hX];simp +decide only[St.get,lk,W,↓reduceIte];exact Le.refl _))
 have hX:=YT h0 q2
 refine aJ 2 qo q2 ?_
 apply WP.ret
 exact Ends.P (d:= .aQ [_,_]) rfl ((by rw[hX];simp +decide only[St.get,lk,W,↓reduceIte];exact Le.refl _))
theorem Rt:ay Pr 44 [] (.slice 1 false [[D.str nM],[D.str gJ],[D.str iy],[D.str ji],[D.str jT],[D.str kW],[D.str mQ],[D.str ql]] none):=by
 refine gK Tryz.func44 Tryz.ntmps44 ?_
 refine aG 2 [0] ?_
 apply WP.ret
 exact Ends.P rfl ((Le.refl _))
abbrev fO:List Nat:=[1,2,3,4,5,6,7,8,9,10,14,45,67,89]
theorem BA (a:As)(ha:a.ok):ay Pr 12 [.agg [.str a.id,.str a.iw,.str a.jV,.str a.sub,.str a.req,.int .i64 a.kK,.int .i64 a.fD,.int .i64 a.lvl,.slice 2 a.nl (a.ats.map At.cs) none]] (.aQ [.str (dX a).1,.int .i64 (dX a).2]):=by
 have ha0:=ha
 refine gK Tryz.func12 Tryz.ntmps12 ?_
 refine aJ 4 fO (Ug a ha0) ?_
 refine WP.cond rfl (fun q1=>?_) (fun q1=>?_)
 ·have hX:=afy q1
  refine aJ 1 fO q1 ?_
  apply WP.ret
  exact Ends.P (d:= .aQ [_,_]) rfl ((by rw[hX];simp +decide only[St.get,lk,W,↓reduceIte];exact Le.refl _))
 have h0:=q1
 have hc:=anL h0
 obtain⟨⟨q1,q2,q3,q4,q5⟩,⟨q6,q7,q8⟩,⟨q9,q10⟩,hca⟩:=jE hc
 have hck:=Gf hca
 have hhl:=jU hc
 obtain⟨⟨h1,h2,h3,h4,h5⟩,⟨h6,h7,h8⟩,h9,h10,h11⟩:=ha
 have hnA:(jh a.ats).length≤32:=by rw[Ae];exact hck.len
 refine aJ 2 fO (Rt) ?_
 refine zG8 5 fO (lu a.id (by omega)) (lu a.iw (by omega)) (lu a.jV (by omega)) (lu a.sub (by omega)) (lu a.req (by omega)) (Tn a.kK (by omega) (by omega)) (Tn a.fD (by omega) (by omega)) (Tn a.lvl (by omega) (by omega)) ?_
 refine WP.lp [1,5,6] (X:={k:Nat // k≤(Rq a).length}) (fun x=>match x with| ⟨(k),_⟩=>[(7,.str (Ey a k)),(8,.int .i64 k)]) (fun x=>match x with| ⟨(k),_⟩=>[(0,.box 24 [.str a.id,.str a.iw,.str a.jV,.str a.sub,.str a.req,.int .i64 a.kK,.int .i64 a.fD,.int .i64 a.lvl,.slice 2 a.nl (a.ats.map At.cs) none])]) (fun x=>match x with| ⟨(k),_⟩=>(Rq a).length - k) (by simp +decide only[W,↓reduceIte];rfl) ?_ ⟨(0),ada _⟩ ?_
 rotate_left
 ·exact zY1 @aiC
 rintro ⟨k,hk⟩
 dsimp only
 simp only[abS,abT]
 refine aG 2 fO ?_
 refine WP.cond rfl (fun q2=>?_) (fun q2=>?_)
 ·have hlt:k<(Rq a).length:=by have:=of_decide_eq_true q2;have h8:(Rq a).length=8:=rfl;omega
  have hg5:([[D.str nM],[D.str gJ],[D.str iy],[D.str ji],[D.str jT],[D.str kW],[D.str mQ],[D.str ql]]:List (List D))[k]?=some [.str (Rq a)[k].1]:=(getM hlt:((Rq a).map fun p=>[D.str p.1])[k]?=_)
  have hg6:([[D.str (aC a.id)],[D.str (aC a.iw)],[D.str (aC a.jV)],[D.str (aC a.sub)],[D.str (aC a.req)],[D.str (Lib.itoa a.kK)],[D.str (Lib.itoa a.fD)],[D.str (Lib.itoa a.lvl)]]:List (List D))[k]?=some [.str (Rq a)[k].2]:=(getM hlt:((Rq a).map fun p=>[D.str p.2])[k]?=_)
  have hhn:=YU a hlt
  have hhk:=afA a (k+1)
  have hlq:=congrArg List.length hhn
  rw[abf,gX] at hlq
  refine aG 3 [] ?_
  refine WP.E fun _ z=>?_
  simp +decide only[TF,q2,hg5,hg6,↓reduceIte]
  refine⟨by omega,by simp only[abf];omega,by simp only[abf,abN,acS];omega,by simp only[abf,abN,acS];omega,?_⟩
  refine z _ _ (by kernel_rfl) ?_;clear z
  show WP ..
  refine aG 1 [] ?_
  show ∃y,_∧Weak _ _ _
  refine⟨⟨k+1,hlt⟩,?_,?_⟩
  ·dsimp only;omega
  exact zY3 hhn @bW.eq_def (aU hlt (show (Rq a).length≤140737488355328 by have h8:(Rq a).length=8:=rfl;omega))
 have hge:(Rq a).length≤k:=by have:=of_decide_eq_false q2;have h8:(Rq a).length=8:=rfl;omega
 obtain rfl:k=(Rq a).length:=by omega
 refine jd 5 fO (NP a.ats a.nl h9 h10 h11 hck) q2 ?_
 refine WP.lp [9] (X:={k:Nat // k≤(jh a.ats).length}) (fun x=>match x with| ⟨(k),_⟩=>[(7,.str (lF a k)),(10,.int .i64 k)]) (fun x=>match x with| ⟨(k),_⟩=>[(0,.box 24 [.str a.id,.str a.iw,.str a.jV,.str a.sub,.str a.req,.int .i64 a.kK,.int .i64 a.fD,.int .i64 a.lvl,.slice 2 a.nl (a.ats.map At.cs) none])]) (fun x=>match x with| ⟨(k),_⟩=>(jh a.ats).length - k) (by simp +decide only[W,↓reduceIte];rfl) ?_ ⟨(0),ada _⟩ ?_
 rotate_left
 ·exact CP @aaw @NU
 rintro ⟨k,hk⟩
 dsimp only
 simp only[abS,abT]
 refine aG 2 fO ?_
 refine WP.cond rfl (fun q3=>?_) (fun q3=>?_)
 ·have hlt:=aO q3
  have hne:(jh a.ats).isEmpty=false:=by cases hx:jh a.ats with|nil=>rw[hx] at hlt;simp at hlt|cons=>rfl
  obtain⟨hn1,aft,hn3,hn4,hn5⟩:=qm hca (adb hlt)
  have hg:((jh a.ats).map At.cs)[k]?=some [.str (jh a.ats)[k].name,.slice 1 (jh a.ats)[k].nl ((jh a.ats)[k].vals.map fun x=>[.str x]) none]:=getM hlt
  have hlk:=NZ hc k
  have hln:=zk a hlt
  have hal:=NY hca (adb hlt)
  have hcs:=NW hca (adb hlt)
  have hj9:(oU ((jh a.ats)[k].name::(jh a.ats)[k].vals)).length+6≤14000:=by have h:=hal;rw[JO,gX] at h;have h4:mV.length=4:=rfl;omega
  refine aG 3 [] ?_
  refine WP.E fun _ z=>?_
  simp +decide only[TF,q3,hg,hne,aft,↓reduceIte]
  refine⟨by omega,⟨by omega,by omega⟩,?_⟩
  refine aj.pure (afr ((jh a.ats)[k].name::(jh a.ats)[k].vals) false (by simp;omega) nofun (fun x hx=>by have:=hcs x hx;omega) (by have:=NV hcs;simp only[abN] at this;omega)) rfl rfl (by simp[fH]) ?_
  simp +decide only[TF,↓reduceIte]
  refine⟨by simp only[abf,abN,acS];omega,by simp only[abf,abN,acS];omega,?_⟩
  refine z _ _ (by kernel_rfl) ?_;clear z
  show WP ..
  refine aG 1 [] ?_
  show ∃y,_∧Weak _ _ _
  refine⟨⟨k+1,hlt⟩,?_,?_⟩
  ·dsimp only;omega
  exact Weak.store (by simp[St.get,lk,Le.refl,hln,JO,bW,mV,hne,aU hlt (show (jh a.ats).length≤140737488355328 by omega)]) (by simp[lk]) (by simp[lk]) (by simp[aB,lk]) (by simp)
 have hge:=aP q3
 obtain rfl:k=(jh a.ats).length:=by omega
 refine aJ 3 fO q3 ?_
 refine WP.cond rfl (fun q4=>?_) (fun q4=>?_)
 ·have hX:=afz h0 (by rw[← wY];exact q4)
  refine aJ 1 fO q4 ?_
  apply WP.ret
  exact Ends.P (d:= .aQ [_,_]) rfl ((by rw[hX];simp +decide only[St.get,lk,W,↓reduceIte];exact Le.refl _))
 have hX:=YT h0 (by rw[← wY];exact q4)
 rw[← wY] at hX
 refine aJ 2 fO q4 ?_
 apply WP.ret
 exact Ends.P (d:= .aQ [_,_]) rfl ((by rw[hX];simp +decide only[St.get,lk,W,↓reduceIte];exact Le.refl _))
def l7:Value:= .agg #[]
theorem afB {M:Nat→Nat→Prop}{γ:Nat→Option G}{w:World}{v:Value}(h:Rep M γ w (.iface 83 (.agg [])) v):v= .iface 83 l7:=by
 cases h with
 |iface h=>cases h with
  |agg hl hr=>rename_i vs;have:=aoJ (by simpa using hl);subst this;rfl
theorem uo:gU Pr (some (.iface 83 l7)) 54 [.bool false] [] .junk []:=by
 refine gU.of_wp Tryz.func54 rfl (by kernel_rfl) Tryz.ntmps54 (by simp) ?_
 simp only[aT,aj9]
 refine aG 2 [3] ?_
 refine WP.akL 2 (t:=83) (x:=l7) (by kernel_rfl) rfl rfl rfl fun K hK=>?_
 simp only[ahL,ajE]
 simp +decide only[TF,↓reduceIte]
 refine hK _ _ (fun M γ w v hr=>afB (by simpa [bT,St.get,lk,W] using hr)) ?_
 clear hK K
 show lQ _ _ _ _ _ _ _ _
 exact lQ.panic rfl rfl (by simp) (by simp)
theorem Gl:ay Pr 54 [.bool true] (.aQ []):=by
 refine gK Tryz.func54 Tryz.ntmps54 ?_
 refine aG 3 [3] ?_
 exact Ends.P rfl (Le.of_eq (by simp +decide only[St.get]))
def uK (k:List UInt8)(ls:List (List UInt8)):Option (List UInt8 × List (List UInt8)):=
 if decide ((ls.length:Int)>1)=true then (if Lib.hasPrefix (ls.headD []) (k++[61])=true then some (Lib.trimPrefix (ls.headD []) (k++[61]),ls.tail) else none) else none
def xL {α:Type}(o:Option α):Option Value:=match o with|some _=>none|none=>some (.iface 83 l7)
def vL (o:Option (List UInt8 × List (List UInt8))):D:=match o with|some q=> .str q.1|none=> .junk
def rL (ls:List (List UInt8))(o:Option (List UInt8 × List (List UInt8))):List (List UInt8):=match o with|some q=>q.2|none=>ls
theorem anM {k:List UInt8}{ls:List (List UInt8)}(h:decide ((ls.length:Int)>1)=false):uK k ls=none:=by unfold uK;rw[if_neg (by rw[h];decide)]
theorem anN {k x:List UInt8}{l:List (List UInt8)}(h:Lib.hasPrefix x (k++[61])=false):uK k (x::l)=none:=by
 unfold uK
 split
 ·rw[if_neg (by simp[h])]
 ·rfl
theorem aj3 {k x:List UInt8}{l:List (List UInt8)}(h0:decide (((x::l).length:Int)>1)=true)(h:Lib.hasPrefix x (k++[61])=true):uK k (x::l)=some (Lib.trimPrefix x (k++[61]),l):=by
 unfold uK;rw[if_pos h0,if_pos (by simpa using h)];rfl
end Go.Proofs
