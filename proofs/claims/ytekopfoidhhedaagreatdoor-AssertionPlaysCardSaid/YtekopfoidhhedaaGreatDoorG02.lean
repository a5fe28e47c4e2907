import Derived.Test.YtekopfoidhhedaaGreatDoorG01
set_option linter.unusedVariables false
set_option linter.unusedSimpArgs false
set_option linter.unnecessarySimpa false
namespace Go.Id
open Go
section
variable {P:Program} {M:Nat→Nat→Prop} {γ:Nat→Option G} {w:World}
theorem bC (op:BinOp)(t:TypeId)(x y:Operand)(a b:Value)(h:¬(a= .nilIface∧b= .nilIface))(h':∀c d,¬(a= .agg c∧b= .agg d)):(eqGuard op t x y a b).run P w= .ok () w:=by
 unfold eqGuard
 cases op <;> first
  |(simp;done)
  |(cases a <;> cases b <;> first|(simp;done)|(exfalso;exact h ⟨rfl,rfl⟩)|(exfalso;exact h' _ _ ⟨rfl,rfl⟩))
theorem Ky (op:BinOp)(t:TypeId)(x y:Operand)(h:(jy x || jy y)=true):(eqGuard op t x y .nilIface .nilIface).run P w= .ok () w:=by
 unfold eqGuard
 cases op <;> first
  |(simp;done)
  |(cases x <;> cases y <;> simp[jy] at h ⊢)
theorem adn {t:TypeId}{k:Nat}(h:sV P t=k):(k=1→∃e,P.underlying t=some (.slice e))∧(k=2→∃e,P.underlying t=some (.pointer e))∧(k=3→∃a b c,P.underlying t=some (.func a b c))∧
  (k=4→∃m,P.underlying t=some (.interface m))∧(k=5→P.underlying t=some .bool)∧(k=6→∃a b,P.underlying t=some (.map a b)):=by
 unfold sV at h
 split at h <;> subst h <;> simp_all
theorem SB {op:BinOp}{e:Bool}(hop:isEq op=some e){t:TypeId}{u v:Value}{r:Bool}(h:(Op.equalIn 10000 t u v).run P w= .ok r w)(hu:u.oneCell'=true)
  (hni:∀k n,u≠ .int k n) (hns:∀s,u≠ .string s) (hnf:∀k n,u≠ .float k n) (hnc:∀k n m,u≠ .complex k n m):
  (binOp op t u v).run P w= .ok (.bool (if e then r else !r)) w:=by
 have h':(Op.equal t u v).run P w= .ok r w:=h
 cases op <;> simp only[isEq,abr,reduceCtorEq] at hop <;> subst hop <;>
  (cases u <;> simp only[binOp,Sem.run_bind,h',Result.andThen_ok,Sem.run_pure] <;>
   first
    |rfl
    |(simp at *;done)
    |(exact absurd rfl (hni _ _))|(exact absurd rfl (hns _))|(exact absurd rfl (hnf _ _))|(exact absurd rfl (hnc _ _ _)))
theorem XL {t:TypeId}{c:Bool}{x y:D}{r:Bool}(h:eqNil (sV P t) c x y=some r){u v:Value}(hu:Rep M γ w x u)(hv:Rep M γ w y v)(xo yo:Operand)(hc:c=true→(jy xo || jy yo)=true){op:BinOp}{e:Bool}(hop:isEq op=some e):
  (do eqGuard op t xo yo u v;binOp op t u v:Sem Value).run P w= .ok (.bool (if e then r else !r)) w:=by
 obtain⟨t1,t2,t3,t4,t5,t6⟩:=adn (P:=P) (t:=t) rfl
 generalize sV P t=k at *
 have fin:∀(he:∀d,(Op.equalIn (d+1) t u v).run P w= .ok r w) (h1:u.oneCell'=true)
   (hni:∀k n,u≠ .int k n) (hns:∀s,u≠ .string s) (hnf:∀k n,u≠ .float k n) (hnc:∀k n m,u≠ .complex k n m) (hg:(eqGuard op t xo yo u v).run P w= .ok () w),
   (do eqGuard op t xo yo u v;binOp op t u v:Sem Value).run P w= .ok (.bool (if e then r else !r)) w:=by
  intro he h1 a b c d hg
  rw[Sem.run_bind,hg]
  exact SB hop (he 9999) h1 a b c d
 unfold eqNil at h
 split at h <;> (try split at h) <;> simp only[abr,reduceCtorEq] at h <;> subst h
 ·rename_i n _ _ _ m _ _ hk
  obtain⟨el,ht⟩:=t1 hk.1
  rcases aZ hu with⟨rfl,_,rfl⟩ | ⟨a,cap,vs,rfl,rfl,_⟩ <;> rcases aZ hv with⟨rfl,_,rfl⟩ | ⟨a',cap',vs',rfl,rfl,_⟩
  ·exact fin (fun d=>by simp[Op.equalIn,run_underlying ht]) rfl (by simp) (by simp) (by simp) (by simp) (bC _ _ _ _ _ _ (by simp) (by simp))
  ·exact fin (fun d=>by simp[Op.equalIn,run_underlying ht]) rfl (by simp) (by simp) (by simp) (by simp) (bC _ _ _ _ _ _ (by simp) (by simp))
  ·exact fin (fun d=>by simp[Op.equalIn,run_underlying ht]) rfl (by simp) (by simp) (by simp) (by simp) (bC _ _ _ _ _ _ (by simp) (by simp))
  ·simp at hk
 ·rename_i hk
  obtain⟨el,ht⟩:=t2 hk
  cases hu;cases hv
  exact fin (fun d=>by simp[Op.equalIn,run_underlying ht]) rfl (by simp) (by simp) (by simp) (by simp) (bC _ _ _ _ _ _ (by simp) (by simp))
 ·rename_i hk
  obtain⟨el,ht⟩:=t2 hk
  cases hu;cases hv
  exact fin (fun d=>by simp[Op.equalIn,run_underlying ht]) rfl (by simp) (by simp) (by simp) (by simp) (bC _ _ _ _ _ _ (by simp) (by simp))
 ·rename_i hk
  obtain⟨el,ht⟩:=t2 hk
  cases hu;cases hv
  exact fin (fun d=>by simp[Op.equalIn,run_underlying ht]) rfl (by simp) (by simp) (by simp) (by simp) (bC _ _ _ _ _ _ (by simp) (by simp))
 ·rename_i hk
  obtain⟨el,ht⟩:=t2 hk
  cases hu;cases hv
  exact fin (fun d=>by simp[Op.equalIn,run_underlying ht]) rfl (by simp) (by simp) (by simp) (by simp) (bC _ _ _ _ _ _ (by simp) (by simp))
 ·rename_i hk
  obtain⟨el,ht⟩:=t2 hk
  cases hu;cases hv
  exact fin (fun d=>by simp[Op.equalIn,run_underlying ht]) rfl (by simp) (by simp) (by simp) (by simp) (bC _ _ _ _ _ _ (by simp) (by simp))
 ·rename_i hk
  obtain⟨a,b,c,ht⟩:=t3 hk
  cases hu;cases hv
  exact fin (fun d=>by simp[Op.equalIn,run_underlying ht]) rfl (by simp) (by simp) (by simp) (by simp) (bC _ _ _ _ _ _ (by simp) (by simp))
 ·rename_i hk
  obtain⟨a,b,c,ht⟩:=t3 hk
  cases hu;cases hv
  exact fin (fun d=>by simp[Op.equalIn,run_underlying ht]) rfl (by simp) (by simp) (by simp) (by simp) (bC _ _ _ _ _ _ (by simp) (by simp))
 ·rename_i hk
  obtain⟨a,b,c,ht⟩:=t3 hk
  cases hu;cases hv
  exact fin (fun d=>by simp[Op.equalIn,run_underlying ht]) rfl (by simp) (by simp) (by simp) (by simp) (bC _ _ _ _ _ _ (by simp) (by simp))
 ·rename_i hk
  obtain⟨m,ht⟩:=t4 hk.1
  cases hu;cases hv
  exact fin (fun d=>by simp[Op.equalIn,run_underlying ht]) rfl (by simp) (by simp) (by simp) (by simp) (Ky _ _ _ _ (hc hk.2))
 ·rename_i hk
  obtain⟨m,ht⟩:=t4 hk
  cases hu;cases hv
  exact fin (fun d=>by simp[Op.equalIn,run_underlying ht]) rfl (by simp) (by simp) (by simp) (by simp) (bC _ _ _ _ _ _ (by simp) (by simp))
 ·rename_i hk
  obtain⟨m,ht⟩:=t4 hk
  cases hu;cases hv
  exact fin (fun d=>by simp[Op.equalIn,run_underlying ht]) rfl (by simp) (by simp) (by simp) (by simp) (bC _ _ _ _ _ _ (by simp) (by simp))
 ·rename_i hk
  have ht:=t5 hk
  cases hu;cases hv
  exact fin (fun d=>run_equalIn_bool' w d t _ _ ht) rfl (by simp) (by simp) (by simp) (by simp) (bC _ _ _ _ _ _ (by simp) (by simp))
 ·rename_i hk
  obtain⟨a,b,ht⟩:=t6 hk
  cases hu;cases hv
  exact fin (fun d=>by simp[Op.equalIn,run_underlying ht]) rfl (by simp) (by simp) (by simp) (by simp) (bC _ _ _ _ _ _ (by simp) (by simp))
 ·rename_i hk
  obtain⟨a,b,ht⟩:=t6 hk
  cases hu;cases hv
  exact fin (fun d=>by simp[Op.equalIn,run_underlying ht]) rfl (by simp) (by simp) (by simp) (by simp) (bC _ _ _ _ _ _ (by simp) (by simp))
 ·rename_i hk
  obtain⟨a,b,ht⟩:=t6 hk
  cases hu;cases hv
  exact fin (fun d=>by simp[Op.equalIn,run_underlying ht]) rfl (by simp) (by simp) (by simp) (by simp) (bC _ _ _ _ _ _ (by simp) (by simp))
theorem abb {op:BinOp}{t:TypeId}{c:Bool}{x y:D}{f:Eff}(h:eG P op t c x y=some f)(hs:f.side){u v:Value}(hu:Rep M γ w x u)(hv:Rep M γ w y v)(xo yo:Operand)(hc:c=true→(jy xo || jy yo)=true):
  ∃r,(do eqGuard op t xo yo u v;binOp op t u v:Sem Value).run P w= .ok r w∧Rep M γ w f.val r∧f.ws=[]:=by
 unfold eG at h
 split at h
 ·split at h <;> simp only[abr,reduceCtorEq] at h
  rename_i hb
  subst h
  rw[int_inj hu,int_inj hv]
  refine⟨_,?_,.int _ _,rfl⟩
  rw[Sem.run_bind,bC _ _ _ _ _ _ (by simp) (by simp)]
  simp only[Result.andThen_ok,binOp,Op.shift]
  rw[if_neg (by omega)]
  rfl
 ·split at h <;> simp only[abr,reduceCtorEq] at h
  rename_i hb
  subst h
  rw[int_inj hu,int_inj hv]
  refine⟨_,?_,.int _ _,rfl⟩
  rw[Sem.run_bind,bC _ _ _ _ _ _ (by simp) (by simp)]
  simp only[Result.andThen_ok,binOp,Op.shift]
  rw[if_neg (by omega)]
  rfl
 ·split at h <;> simp only[abR,reduceCtorEq] at h
  rename_i hk
  obtain⟨d,hd,rfl⟩:=h
  subst hk
  rw[int_inj hu,int_inj hv]
  obtain⟨r,h1,h2⟩:=aa' (P:=P) (M:=M) (γ:=γ) (w:=w) hd t
  refine⟨r,?_,h2,rfl⟩
  rw[Sem.run_bind,bC _ _ _ _ _ _ (by simp) (by simp)]
  exact h1
 ·obtain⟨a,rfl,rfl⟩:=str_inj hu
  obtain⟨b,rfl,rfl⟩:=str_inj hv
  obtain⟨r,h1,h2,h3⟩:=aa_ (P:=P) (M:=M) (γ:=γ) (w:=w) h hs
  refine⟨r,?_,h2,h3⟩
  rw[Sem.run_bind,bC _ _ _ _ _ _ (by simp) (by simp)]
  simp only[Result.andThen_ok,binOp]
  cases op <;> first|exact h1|(simp[binOp];exact h1)
 ·simp only[ac9,abR] at h
  obtain⟨ks,h1,e,h2,r,h3,rfl⟩:=h
  exact⟨_,XK h1 h3 hu hv xo yo h2,.bool _,rfl⟩
 ·simp only[ac9,abR] at h
  obtain⟨e,h2,r,h3,rfl⟩:=h
  exact⟨_,XL h3 hu hv xo yo hc h2,.bool _,rfl⟩
end
end Go.Id
namespace Go.Id
open Go
section
variable {P:Program} {M:Nat→Nat→Prop} {γ:Nat→Option G} {w:World}
theorem oH {t:TypeId}{k:IntKind}(h:kS P t=some k):P.underlying t=some (.int k):=by
 unfold kS at h;split at h <;> simp_all
theorem iV {t:TypeId}(h:isStr P t=true):P.underlying t=some .string:=by
 unfold isStr at h;split at h <;> simp_all
theorem SC:∀(es:List (List D)) (l:List UInt8),bytesOf? es=some l→es.length=l.length∧∀(i:Nat) (c:UInt8),l[i]?=some c→∃n:Int,es[i]?=some [D.int .u8 n]∧c=UInt8.ofNat n.toNat:=by
 intro es
 induction es with
 |nil=>intro l h;simp[bytesOf?] at h;subst h;simp
 |cons e es ih=>
  intro l h
  simp only[bytesOf?,ac9,abR] at h
  obtain⟨b,hb,l',hl,rfl⟩:=h
  obtain⟨h1,h2⟩:=ih l' hl
  refine⟨by simp[h1],fun i c hc=>?_⟩
  cases i with
  |zero=>
   simp at hc;subst hc
   unfold byteOf? at hb
   split at hb <;> simp only[abr,reduceCtorEq] at hb
   rename_i n
   exact⟨n,rfl,hb.symm⟩
  |succ i=>simpa using h2 i c (by simpa using hc)
theorem SE (s:ByteArray)(b:UInt8):(s.push b).data.toList=s.data.toList++[b]:=by simp[ByteArray.push]
theorem Kz:∀(vs:List Value) (l:List UInt8) (s:ByteArray),vs.length=l.length→(∀(i:Nat) c,l[i]?=some c→∃n,vs[i]?=some (.int .u8 n)∧c=UInt8.ofNat n.toNat)→
  ∃s',(forIn (m:=Sem) vs s (fun c r=>match c with| .int .u8 n=>(pure (ForInStep.yield (r.push (UInt8.ofNat n.toNat))):Sem (ForInStep ByteArray)) | _=>stuck "bytesToString: byte expected")).run P w= .ok s' w∧s'.data.toList=s.data.toList++l:=by
 intro vs
 induction vs with
 |nil=>intro l s h _;cases l <;> simp at h;exact⟨s,rfl,by simp⟩
 |cons v vs ih=>
  intro l s h hl
  cases l with
  |nil=>simp at h
  |cons c l=>
   obtain⟨n,hn,hc⟩:=hl 0 c rfl
   simp at hn;subst hn;subst hc
   obtain⟨s',h1,h2⟩:=ih l (s.push (UInt8.ofNat n.toNat)) (by simpa using h) (fun i c hc=>by simpa using hl (i+1) c (by simpa using hc))
   exact⟨s',by simp only[List.forIn_cons,Sem.run_bind,Sem.run_pure,Result.andThen_ok];exact h1,by rw[h2,SE];simp⟩
theorem Fb {src dst:TypeId}{x d:D}(h:Kr P src dst x=some d){v:Value}(hv:Rep M γ w x v):
  ∃r,(convert src dst v).run P w= .ok r w∧Rep M γ w d r:=by
 unfold Kr at h
 split at h
 ·split at h <;> simp only[abR,reduceCtorEq] at h
  rename_i hsrc
  obtain⟨ks,hks⟩:=akj.1 hsrc
  have hsd:=oH hks
  obtain⟨k,hk,rfl⟩:=h
  rw[int_inj hv]
  refine⟨_,?_,.int _ _⟩
  simp only[convert,Sem.run_bind,run_underlying hsd,run_underlying (oH hk),Result.andThen_ok,Conv.intToInt]
  rfl
 ·split at h <;> simp only[abr,reduceCtorEq] at h
  rename_i hh
  subst h
  obtain⟨b,rfl,hb⟩:=str_inj hv
  refine⟨_,?_,sW hb⟩
  simp only[convert,Sem.run_bind,run_underlying (iV hh.2),run_underlying (iV hh.1),Result.andThen_ok]
  rfl
 ·split at h <;> simp only[abR,reduceCtorEq] at h
  rename_i nil es aI hh
  obtain⟨l,hl,rfl⟩:=h
  obtain⟨h1,h2⟩:=hh
  simp only[ac9] at h2
  obtain⟨⟨e,sz,by'⟩,he,hk⟩:=h2
  obtain⟨i,hs,hi,_,_⟩:=fU he
  obtain⟨hlen,hall⟩:=SC es l hl
  rcases aZ hv with⟨rfl,rfl,_⟩ | ⟨a,cap,vs,rfl,_,hspot,hvs,_,hsz,hc,hr,_⟩
  ·simp[bytesOf?] at hl;subst hl
   refine⟨.string .empty,?_,sW rfl⟩
   simp only[convert,Sem.run_bind,run_underlying hs,run_underlying (iV h1),run_underlying (oH hk),Result.andThen_ok,Conv.bytesToString]
   rfl
  ·have hvl:∀(j:Nat) c,l[j]?=some c→∃n,vs[j]?=some (.int .u8 n)∧c=UInt8.ofNat n.toNat:=by
    intro j c hj
    obtain⟨n,h3,h4⟩:=hall j c hj
    have hlt:j<vs.length:=by have:=(acR.1 hj).1;omega
    have h5:=hr j 0 _ (.int .u8 n) vs[j] h3 rfl (by simpa using abt hlt)
    exact⟨n,by rw[abt hlt,int_inj h5],h4⟩
   obtain⟨s',h3,h4⟩:=Kz (P:=P) (w:=w) vs l .empty (by omega) hvl
   have hload:=run_loadCells_list (P:=P) (w:=w) a vs (fun j u hu=>by rw[pF (hspot (by rintro rfl;rw[acS,aoE] at hvs;rw[aky hvs] at hu;cases hu))];exact (hc j u hu).1)
   have hle:vs.length=es.length:=by omega
   rw[hle] at hload
   refine⟨.string s',?_,sW (by rw[h4];rfl)⟩
   simp only[convert,Sem.run_bind,run_underlying hs,run_underlying (iV h1),run_underlying (oH hk),Result.andThen_ok,Conv.bytesToString,hload]
   rw[← Array.forIn_toList,al9]
   have:∀(f g:Value→ByteArray→Sem (ForInStep ByteArray)),f=g→(forIn (m:=Sem) vs ByteArray.empty f).run P w=(forIn (m:=Sem) vs ByteArray.empty g).run P w:=fun f g e=>by rw[e]
   rw[this _ (fun c r=>match c with| .int .u8 n=>(pure (ForInStep.yield (r.push (UInt8.ofNat n.toNat))):Sem (ForInStep ByteArray)) | _=>stuck "bytesToString: byte expected"),h3]
   ·rfl
   ·funext c r
    cases c with
    |int k n=>cases k <;> rfl
    | _=>rfl
 ·cases h
theorem zL {d:D}{n:Nat}(h:Kq d=some n){v:Value}(hv:Rep M γ w d v):∃k,v= .int k n:=by
 unfold Kq at h
 split at h
 ·rename_i k m
  split at h <;> simp only[abr,reduceCtorEq] at h
  rename_i hm
  subst h
  exact⟨k,by rw[int_inj hv,Int.toNat_of_nonneg hm]⟩
 ·cases h
theorem iW (isSlice:Bool)(len cap:Nat)(lo hi:Option Value)(l h:Nat)(hl:(lo=none∧l=0)∨∃k,lo=some (.int k l))(hh:(hi=none∧h=len)∨∃k,hi=some (.int k h))(hlh:l≤h)(hhc:h≤cap):
  (Instr.sliceBounds isSlice len cap lo hi none).run P w= .ok (l,h,cap) w:=by
 have bound:∀(k:IntKind) (n y:Nat) (code:BoundsCode),n≤y→(Instr.sliceBound (.int k n) y code).run P w= .ok n w:=by
  intro k n y code hn
  have:(0:Int)≤(n:Int)∧(n:Int)≤(y:Int):=by omega
  simp[Instr.sliceBound,asIntOf,this]
 rcases hl with⟨rfl,rfl⟩ | ⟨k,rfl⟩ <;> rcases hh with⟨rfl,rfl⟩ | ⟨k',rfl⟩ <;> simp[Instr.sliceBounds,bound,hlh,hhc]
theorem pJ {o:Option D}{ov:Option Value}{df n:Nat}(ho:(o=none∧ov=none)∨∃a b,o=some a∧ov=some b∧Rep M γ w a b)(hn:kY df o=some n):
  (ov=none∧n=df)∨∃k,ov=some (.int k n):=by
 rcases ho with⟨rfl,rfl⟩ | ⟨a,b,rfl,rfl,hab⟩
 ·simp[kY] at hn;exact .inl ⟨rfl,hn.symm⟩
 ·obtain⟨k,hk⟩:=zL (by simpa [kY] using hn) hab
  exact .inr ⟨k,by rw[hk]⟩
theorem XM {t:TypeId}{sz:Nat}{s:List UInt8}{d:D}{lo hi:Option D}(h:mG sz (.str s) lo hi=some d){v:Value}(hv:Rep M γ w (.str s) v){XO hiv:Option Value}
  (hlo:(lo=none∧XO=none)∨∃a b,lo=some a∧XO=some b∧Rep M γ w a b) (hhi:(hi=none∧hiv=none)∨∃a b,hi=some a∧hiv=some b∧Rep M γ w a b)
  (hs:P.underlying t=some .string):∃r,(Instr.sliceAt t v XO hiv none).run P w= .ok r w∧Rep M γ w d r:=by
 simp only[mG,ac9] at h
 obtain⟨l,hl,h',hh,h⟩:=h
 split at h <;> simp only[abr,reduceCtorEq] at h
 rename_i hc
 subst h
 obtain⟨b,rfl,rfl⟩:=str_inj hv
 have hsz:b.data.toList.length=b.size:=by simp
 have hb:=iW (P:=P) (w:=w) false b.size b.size XO hiv l h' (pJ hlo hl) (by rw[← hsz];exact pJ hhi hh) hc.1 (by omega)
 refine⟨.string (b.extract l h'),?_,sW ?_⟩
 ·simp only[Instr.sliceAt,Instr.slice,Sem.run_bind,run_underlying hs,Result.andThen_ok,Option.isSome_none,ag8,if_false,hb]
  rfl
 ·simp[ByteArray.data_extract,List.drop_take]
theorem XP {t e:TypeId}{i:TypeInfo}{sz b z m:Nat}{d:D}{lo hi:Option D}(h:mG sz (.arr b z m) lo hi=some d){v:Value}(hv:Rep M γ w (.arr b z m) v){XO hiv:Option Value}
  (hlo:(lo=none∧XO=none)∨∃a b,lo=some a∧XO=some b∧Rep M γ w a b) (hhi:(hi=none∧hiv=none)∨∃a b,hi=some a∧hiv=some b∧Rep M γ w a b)
  (ht:P.underlying t=some (.slice e)) (hi':P.info? e=some i) (hisz:i.size=sz):∃r,(Instr.sliceAt t v XO hiv none).run P w= .ok r w∧Rep M γ w d r:=by
 simp only[mG,ac9] at h
 obtain⟨l,hl,h',hh,h⟩:=h
 split at h <;> simp only[abr,reduceCtorEq] at h
 rename_i hc
 subst h
 obtain⟨hc1,hc2,hc3⟩:=hc
 subst hc3
 have hsize:(sizeOf e).run P w= .ok z w:=by simp[sizeOf,typeInfo,hi',hisz]
 cases hv with
 | @arr _ B _ _ cap hb hn=>
  have hbn:=iW (P:=P) (w:=w) true m cap XO hiv l h' (pJ hlo hl) (pJ hhi hh) hc1 (by omega)
  refine⟨.slice (some (if cap=l then ⟨B,0,none⟩ else (⟨B,0,none⟩:Addr).add (l * z))) (h' - l) (cap - l),?_,?_⟩
  ·simp only[Instr.sliceAt,Instr.slice,Sem.run_bind,run_underlying ht,Result.andThen_ok,hbn,hsize,Sem.run_pure]
   split <;> simp_all
  ·split
   ·rename_i h0
    subst h0
    have:(if cap=0 then (⟨B,0,none⟩:Addr) else (⟨B,0,none⟩:Addr).add (0 * z))=⟨B,0,none⟩:=by split <;> simp[Addr.add]
    rw[this]
    exact .arr hb (by omega)
   ·refine .view hb ?_ ?_
    ·by_cases hlc:cap=l
     ·left;omega
     ·right;rw[if_neg hlc,Addr.add_lit];simp
    ·have:l * z+(h' - l) * z=h' * z:=by rw[← akU];congr 1;omega
     rw[this]
     exact aj2 _ (by omega)
theorem zM {α:Type}{sz:Nat}(es:List (List α))(i j l:Nat):(l+i) * sz+j=l * sz+(i * sz+j):=by rw[akU];omega
theorem SG {t e:TypeId}{i:TypeInfo}{sz z:Nat}{nil:Bool}{es:List (List D)}{aI:Option Nat}{d:D}{lo hi:Option D}(h:mG sz (.slice z nil es aI) lo hi=some d){v:Value}(hv:Rep M γ w (.slice z nil es aI) v){XO hiv:Option Value}
  (hlo:(lo=none∧XO=none)∨∃a b,lo=some a∧XO=some b∧Rep M γ w a b) (hhi:(hi=none∧hiv=none)∨∃a b,hi=some a∧hiv=some b∧Rep M γ w a b)
  (ht:P.underlying t=some (.slice e)) (hi':P.info? e=some i) (hisz:i.size=sz):∃r,(Instr.sliceAt t v XO hiv none).run P w= .ok r w∧Rep M γ w d r:=by
 simp only[mG,ac9] at h
 obtain⟨l,hl,h',hh,h⟩:=h
 split at h <;> simp only[abr,reduceCtorEq] at h
 rename_i hc
 subst h
 obtain⟨hc1,hc2,hc3⟩:=hc
 have hsize:(sizeOf e).run P w= .ok sz w:=by simp[sizeOf,typeInfo,hi',hisz]
 rcases aZ hv with⟨rfl,rfl,rfl⟩ | ⟨a,cap,vs,rfl,rfl,hspot,hvs,hcap,hsz,hcell,hr,htip⟩
 ·have hb:=iW (P:=P) (w:=w) true 0 0 XO hiv l h' (pJ hlo hl) (by simpa using pJ hhi hh) hc1 (by simpa using hc2)
  simp only[acS,Nat.le_zero] at hc2
  subst hc2
  obtain rfl:l=0:=by omega
  refine⟨.slice none 0 0,?_,?_⟩
  ·simp only[Instr.sliceAt,Instr.slice,Sem.run_bind,run_underlying ht,Result.andThen_ok,hb,hsize]
   rfl
  ·simp only[List.take_nil,List.drop_nil,acS,and_self,if_true]
   exact hv
 ·have hz:z=sz:=by simpa using hc3
  subst hz
  have hb:=iW (P:=P) (w:=w) true es.length cap XO hiv l h' (pJ hlo hl) (pJ hhi hh) hc1 (by omega)
  have hlen:((es.take h').drop l).length=h' - l:=by simp;omega
  refine⟨.slice (some (if cap=l then a else a.add (l * z))) (h' - l) (cap - l),?_,?_⟩
  ·simp only[Instr.sliceAt,Instr.slice,Sem.run_bind,run_underlying ht,Result.andThen_ok,hb,hsize,Sem.run_pure]
   split <;> simp_all
  ·rw[← hlen]
   by_cases hwhole:l=0∧h'=es.length
   ·obtain⟨rfl,rfl⟩:=hwhole
    simp only[and_self,if_true,ajy,aoY,aoE,Nat.sub_zero]
    have:(if cap=0 then a else a.add 0)=a:=by split <;> simp[Addr.add]
    rw[this]
    exact hv
   ·rw[if_neg hwhole]
    have hsub:∀x∈(es.take h').drop l,x.length=z:=fun x hx=>hsz x (List.mem_of_mem_take (aoF hx))
    have hget:∀i,((es.take h').drop l)[i]?=if l+i<h' then es[l+i]? else none:=by
     intro i;rw[ahz,ag3]
    have aml:∀j,j<((vs.take (h' * z)).drop (l * z)).length→(if cap=l then a else a.add (l * z)).block=a.block∧(if cap=l then a else a.add (l * z)).off+j=a.off+(l * z+j):=by
     intro j hj
     have hne:cap≠l:=by
      rintro rfl
      have:h'=cap:=by omega
      subst this
      simp at hj
     have hes:es≠[]:=by
      rintro rfl
      simp at hc2
      subst hc2
      simp at hj
     rw[if_neg hne,pF (hspot hes)]
     exact⟨rfl,by simp;omega⟩
    refine .slice ((vs.take (h' * z)).drop (l * z)) hsub ?_ ?_ (fun j u hu=>?_) (fun i j x d u hx hd hu=>?_) (by rw[hlen];omega) (jk.none _ _ _)
    ·have h1:h' * z≤vs.length:=by rw[hvs];exact aj2 _ hc2
     rw[hlen,aht,adg,amv h1,Nat.sub_mul]
    ·intro h0
     have hes:es≠[]:=by
      rintro rfl
      simp at h0
     split
     ·exact hspot hes
     ·rw[pF (hspot hes)]
    ·have hj:=(acR.1 hu).1
     obtain⟨h1,h2⟩:=aml j hj
     rw[h1,h2]
     rw[ahz,ag3] at hu
     split at hu
     ·exact hcell _ u hu
     ·cases hu
    ·rw[hget] at hx
     split at hx
     ·rw[ahz,ag3] at hu
      split at hu
      ·exact hr (l+i) j x d u hx hd (by rw[akU,aoT];exact hu)
      ·cases hu
     ·cases hx
theorem Fg {s:TypeId}{f off sz:Nat}(h:eu P s f=some (off,sz)):∃fs fl i,P.underlying s=some (.struct fs)∧fs[f]?=some fl∧fl.offset=off∧P.info? fl.type=some i∧i.size=sz:=by
 unfold eu at h
 split at h
 ·rename_i fs hfs
  simp only[ac9,abR,apM] at h
  obtain⟨fl,h1,i,h2,h3,h4⟩:=h
  exact⟨fs,fl,i,hfs,h1,h3,h2,h4⟩
 ·cases h
theorem GY {s:TypeId}{f off sz:Nat}(h:eu P s f=some (off,sz))(hsz:sz≠0)(a:Addr):(Instr.fieldAt s (.pointer (some a)) f).run P w= .ok (.pointer (some (a.add off))) w:=by
 obtain⟨fs,fl,i,h1,h2,h3,h4,h5⟩:=Fg h
 have:(sizeOf fl.type).run P w= .ok sz w:=by simp[sizeOf,typeInfo,h4,h5]
 simp[Instr.fieldAt,run_underlying h1,h2,Instr.sureAddr,fieldPlace,this,hsz,h3]
end
end Go.Id
namespace Go.Id
open Go
section
variable {P:Program} {M:Nat→Nat→Prop} {γ:Nat→Option G} {w:World} {ρ:Operand→D} {ρv:Operand→Value}
theorem Jz (vs:List Value)(off:Nat):∀(k:Nat) (cs:Array Value),k+vs.length+off≤cs.size→
  ((vs.zipIdx k).foldl (fun cs (c,j)=>cs.setIfInBounds (off+j) c) cs).toList=cs.toList.take (off+k)++vs++cs.toList.drop (off+k+vs.length):=by
 induction vs with
 |nil=>intro k cs h;simp
 |cons v vs ih=>
  intro k cs h
  simp only[List.zipIdx_cons,akk]
  rw[ih (k+1) _ (by simp at h ⊢;omega)]
  have e:=list_seg_step cs.toList (off+k) v vs (by simp at h ⊢;omega)
  simpa [Array.toList_setIfInBounds,aoT] using e
theorem tu (xs:Array Value)(off:Nat)(cs:Array Value)(h:xs.size+off≤cs.size):
  xs.zipIdx.foldl (fun cs (c,j)=>cs.setIfInBounds (off+j) c) cs=(cs.toList.take off++xs.toList++cs.toList.drop (off+xs.size)).toArray:=by
 apply apw
 rw[← Array.foldl_toList,Array.toList_zipIdx]
 have:=Jz xs.toList off 0 cs (by simp;omega)
 simpa using this
theorem XQ {t:TypeId}(hρ:∀x,Rep M γ w (ρ x) (ρv x)){places:Array (Nat × Nat)}(hpl:∀i off sz,eu P t i=some (off,sz)→places[i]?=some (off,sz)):
  ∀(ps:List (Nat × Operand)) (cs:List D) (out:List D) (vs:Array Value),rG P t ρ ps cs=some out→vs.size=cs.length→(∀(i:Nat) v,vs[i]?=some v→v.oneCell'=true)→
   (∀(i:Nat) d v,cs[i]?=some d→vs[i]?=some v→Rep M γ w d v)→
   ∃vs',Instr.fill (places[·]?) vs (ps.map fun (i,x)=>(i,ρv x))=some vs'∧vs'.size=out.length∧(∀(i:Nat) v,vs'[i]?=some v→v.oneCell'=true)∧(∀(i:Nat) d v,out[i]?=some d→vs'[i]?=some v→Rep M γ w d v):=by
 intro ps
 induction ps with
 |nil=>intro cs out vs h hl h1 hr;simp only[rG,abr] at h;subst h;exact⟨vs,rfl,hl,h1,hr⟩
 |cons p ps ih=>
  intro cs out vs h hl h1 hr
  obtain⟨i,x⟩:=p
  simp only[rG,ac9] at h
  obtain⟨⟨off,sz⟩,hf,us,hc,h⟩:=h
  dsimp only at h
  split at h
  rotate_left
  ·cases h
  rename_i hh
  obtain⟨hus,hle⟩:=hh
  obtain⟨c1,c2,c3⟩:=(hρ x).cells hc
  have hsz:(ρv x).cells.size=sz:=by omega
  have hfold:=tu (ρv x).cells off vs (by omega)
  have key:∀k (v:Value),(vs.toList.take off++(ρv x).cells.toList++vs.toList.drop (off+(ρv x).cells.size)).toArray[k]?=some v→
    (if off≤k∧k<off+sz then (ρv x).cells[k - off]? else vs[k]?)=some v:=by
   intro k v hv
   rw[amj] at hv
   have e:(ρv x).cells.size=(ρv x).cells.toList.length:=by simp
   rw[e,rH _ _ _ _ (by simp;omega)] at hv
   simp only[alx,hsz,akA] at hv
   exact hv
  obtain⟨vs',g1,g2,g3,g4⟩:=ih _ out (vs.toList.take off++(ρv x).cells.toList++vs.toList.drop (off+(ρv x).cells.size)).toArray h (by simp;omega) (fun k v hv=>by
    have:=key k v hv
    split at this
    ·exact c2 _ v this
    ·exact h1 _ v this) (fun k d v hd hv=>by
    have h2:=key k v hv
    rw[← hus,rH _ _ _ _ (by omega)] at hd
    rw[hus] at hd
    split at h2
    ·rename_i hk;rw[if_pos hk] at hd;exact c3 _ d v hd h2
    ·rename_i hk;rw[if_neg hk] at hd;exact hr _ d v hd h2)
  refine⟨vs',?_,g2,g3,g4⟩
  simp only[ag1,Instr.fill,hpl i off sz hf]
  rw[if_neg (by simp;omega)]
  rw[← hfold] at g1
  exact g1
theorem JA (fs:Array Field)(f:Field→Nat × Nat)(h:∀x∈fs,(sizeOf x.type).run P w= .ok (f x).2 w∧(f x).1=x.offset):
  (fs.mapM fun x=>do pure (x.offset,← sizeOf x.type):Sem (Array (Nat × Nat))).run P w= .ok (fs.map f) w:=by
 obtain⟨l⟩:=fs
 have:∀(l:List Field),(∀x∈l,(sizeOf x.type).run P w= .ok (f x).2 w∧(f x).1=x.offset)→(l.mapM fun x=>do pure (x.offset,← sizeOf x.type):Sem (List (Nat × Nat))).run P w= .ok (l.map f) w:=by
  intro l
  induction l with
  |nil=>intro _;rfl
  |cons x l ih=>
   intro hl
   obtain⟨h1,h2⟩:=hl x (by simp)
   simp only[List.mapM_cons,Sem.run_bind,h1,Result.andThen_ok,Sem.run_pure,ih (fun y hy=>hl y (by simp[hy])),ag1,← h2]
 simp only[List.mapM_toArray,Sem.run_map,this l (fun x hx=>h x (by simpa using hx)),Result.andThen_ok,amP]
theorem XR (hρ:∀x,Rep M γ w (ρ x) (ρv x)){t:TypeId}(hok:eY P t=true){parts:Array (Nat × Operand)}{z cs:List D}(hz:iC P t=some z)(h:rG P t ρ parts.toList z=some cs):
  ∃v,(Instr.build t (parts.map fun (i,x)=>(i,ρv x))).run P w= .ok v w∧Rep M γ w (.agg cs) v:=by
 obtain⟨i,zv,hi,hzv,hc⟩:=wB hz
 obtain⟨c1,c2,c3⟩:=(ku (γ:=γ) (w:=w) M zv).cells hc
 unfold eY at hok
 split at hok
 rotate_left
 ·cases hok
 rename_i fs hfs
 have hok':=Array.all_eq_true'.1 hok
 let f:Field→Nat × Nat:=fun x=>(x.offset,((P.info? x.type).map (·.size)).getD 0)
 have hmap:=JA (P:=P) (w:=w) fs f (fun x hx=>by
  obtain⟨j,hj⟩:=akj.1 (hok' x hx)
  exact⟨by simp[sizeOf,typeInfo,hj,f],rfl⟩)
 obtain⟨vs',g1,g2,g3,g4⟩:=XQ (P:=P) (t:=t) hρ (places:=fs.map f) (fun k off sz hk=>by
  obtain⟨fs',fl,j,h1,h2,h3,h4,h5⟩:=Fg hk
  rw[hfs] at h1;cases h1
  simp[h2,f,h4,h3,h5]) parts.toList z cs zv.cells h c1 c2 c3
 refine⟨.agg vs',?_,.agg g2 g3 g4⟩
 simp only[Instr.build,Sem.run_bind,zeroValue,typeInfo,run_program,Result.andThen_ok,hi,Sem.run_pure,hzv,run_underlying hfs,hmap]
 simp only[Array.toList_map]
 rw[g1]
 rfl
theorem GZ (hρ:∀x,Rep M γ w (ρ x) (ρv x)){sz:Nat}:∀(ps:List (Nat × Operand)) (k:Nat) (es:List (List D)),jQ ρ sz k ps=some es→
  es.length=ps.length∧(∀e∈es,e.length=sz)∧∃vs:List Value,vs.length=es.length * sz∧(∀v∈vs,v.oneCell'=true)∧
   (∀i j e d u,es[i]?=some e→e[j]?=some d→vs[i * sz+j]?=some u→Rep M γ w d u)∧
   ∀(n:Nat) (cs:Array Value),cs.size=(k+n) * sz→ps.length≤n→
    Instr.fill (fun i=>some (i * sz,sz)) cs (ps.map fun (i,x)=>(i,ρv x))=some (cs.toList.take (k * sz)++vs++cs.toList.drop (k * sz+vs.length)).toArray:=by
 intro ps
 induction ps with
 |nil=>
  intro k es h
  simp only[jQ,abr] at h
  subst h
  exact⟨rfl,by simp,[],by simp,by simp,by simp,fun n cs _ _=>by simp[Instr.fill]⟩
 |cons p ps ih=>
  intro k es h
  obtain⟨i,x⟩:=p
  simp only[jQ] at h
  split at h
  rotate_left
  ·cases h
  rename_i hk
  subst hk
  simp only[ac9] at h
  obtain⟨us,hc,h⟩:=h
  split at h
  rotate_left
  ·cases h
  rename_i hus
  simp only[abR] at h
  obtain⟨es',he,rfl⟩:=h
  obtain⟨a1,a2,vs',a3,a4,a5,a6⟩:=ih (k+1) es' he
  obtain⟨c1,c2,c3⟩:=(hρ x).cells hc
  have hsz:(ρv x).cells.size=sz:=by omega
  refine⟨by simp[a1],fun e he=>?_,(ρv x).cells.toList++vs',?_,fun v hv=>?_,fun i j e d u he hd hu=>?_,fun n cs hcs hn=>?_⟩
  ·rcases ael.1 he with rfl|he
   ·exact hus
   ·exact a2 e he
  ·simp only[abf,alx,abN,a3,hsz,akU];omega
  ·rcases List.mem_append.1 hv with hv|hv
   ·obtain⟨j,hj⟩:=aov hv
    exact c2 j v (by simpa using hj)
   ·exact a4 v hv
  ·cases i with
   |zero=>
    simp only[alB,abr] at he
    subst he
    have hj:j<sz:=by rw[← hus];exact (acR.1 hd).1
    rw[aoE,ade,ag2 (by simp;omega)] at hu
    exact c3 j d u hd (by simpa using hu)
   |succ i=>
    rw[amG] at he
    have:(i+1) * sz+j=(ρv x).cells.toList.length+(i * sz+j):=by simp[hsz,akU];omega
    rw[this,ag7 (by omega),Nat.add_sub_cancel_left] at hu
    exact a5 i j e d u he hd hu
  ·have hkn:(k+n) * sz=k * sz+n * sz:=akU _ _ _
   have aqN:sz≤n * sz:=by
    have:1≤n:=by simp at hn;omega
    calc sz=1 * sz:=by omega
     _≤n * sz:=aj2 _ this
   have hfold:=tu (ρv x).cells (k * sz) cs (by omega)
   simp only[ag1,Instr.fill]
   rw[if_neg (by simp;omega),hfold]
   rw[a6 (n - 1) _ (by
    simp only[aoO,abf,adg,aht,alx]
    have:(k+1+(n - 1)) * sz=(k+n) * sz:=by congr 1;simp at hn;omega
    rw[this];omega) (by simp at hn;omega)]
   congr 2
   have hk1:(k+1) * sz=k * sz+sz:=by rw[akU];omega
   rw[al9,hk1]
   have l1:(List.take (k * sz) cs.toList).length=k * sz:=by simp;omega
   have t1:List.take (k * sz+sz) (List.take (k * sz) cs.toList++(ρv x).cells.toList++List.drop (k * sz+(ρv x).cells.size) cs.toList)=List.take (k * sz) cs.toList++(ρv x).cells.toList:=by
    rw[List.take_append_of_le_length (by simp;omega),ajr (by simp;omega)]
   rw[t1]
   have t2:List.drop (k * sz+sz+vs'.length) (List.take (k * sz) cs.toList++(ρv x).cells.toList++List.drop (k * sz+(ρv x).cells.size) cs.toList)=List.drop (k * sz+((ρv x).cells.toList++vs').length) cs.toList:=by
    rw[List.drop_append,akV (by simp;omega),abT,alv]
    congr 1
    simp;omega
   rw[t2]
   simp
end
end Go.Id
namespace Go.Id
open Go
section
variable {P:Program} {M₀:Base} {γ:Nat→Option G} {σ:Nat→Option bf} {w:World} {ρ:Operand→D} {ρv:Operand→Value}
theorem Store.UY (h:Store M₀ γ σ w)(o:Obj):Store M₀ γ σ (w.alloc o)∧aW (aA M₀ γ) γ w (aA M₀ γ) γ (w.alloc o):=by
 have hv:aW (aA M₀ γ) γ w (aA M₀ γ) γ (w.alloc o):=
  ⟨rfl,rfl,rfl,by simp,fun B off v _ hu=>by rw[World.cell?_of_block (w:=w) (w':=w.alloc o) (by simpa using bP w o B (cell_lt hu))];exact hu,fun _ _ h _=>h,fun _ g h=>⟨g,h,G.le_refl g⟩,fun B hB _=>bP w o B hB,fun i gi _ h h' _=>⟨i,gi,h,h'⟩⟩
 refine⟨⟨fun b=>?_,h.dist,fun B off hm=>by have:=h.outer B off hm;simp;omega,h.apart,M₀.stable w _ h.inv (fun k hk=>bP w o k (aj0 hk h.big)),h.low,ag9 h.big hv.size⟩,hv⟩
 rcases h.names b with⟨blk,g,h1,h2,h3⟩|h1
 ·exact .inl ⟨blk,g,h1,h2,h3.keep hv (fun B hB=>bP w o B (h.lt h2 hB))⟩
 ·exact .inr h1
theorem KA (h:Store M₀ γ σ w)(hρ:∀x,Rep (aA M₀ γ) γ w (ρ x) (ρv x)){t e:TypeId}{sz by' len:Nat}(he:cu P t=some (e,sz,by')){parts:Array (Nat × Operand)}
  (h1:len * sz≤16777216) (h2:parts.size=len) (h3:sz≠0) (hok:iK P e=true) {es:List (List D)} (hp:jQ ρ sz 0 parts.toList=some es):
  Out M₀ γ σ w (((Instr.buildSlice t len (parts.map fun (i,x)=>(i,ρv x))) >>= fun x=>pure (Next.value x)).run P w) (.slice sz false es none) []:=by
 obtain⟨i,ht,hi,hs,_⟩:=fU he
 obtain⟨i',z,hi',hz,hzs⟩:=pG hok
 rw[hi] at hi';cases hi'
 obtain⟨a1,a2,vs,a3,a4,a5,a6⟩:=GZ hρ parts.toList 0 es hp
 have hl:es.length=len:=by rw[a1];simpa using h2
 have UZ:∀(cs:Array Value),cs.size=len * sz→Instr.fill (fun i=>some (i * sz,sz)) cs (parts.map fun (i,x)=>(i,ρv x)).toList=some vs.toArray:=by
  intro cs hcs
  have:=a6 len cs (by simpa using hcs) (by simpa using Nat.le_of_eq h2)
  rw[Array.toList_map,this]
  simp only[aoE,ajE,abT,ade]
  rw[akV (by simp;rw[a3,hl,hcs];exact ag4 _),akz]
 obtain⟨hst,hv⟩:=h.UY (.cells vs.toArray e)
 have hsize:(sizeOf e).run P w= .ok sz w:=by simp[sizeOf,typeInfo,hi,hs]
 refine⟨.slice (some ⟨w.heap.size,0,none⟩) len len,w.alloc (.cells vs.toArray e),γ,.inl ?_,hst,hv,?_⟩
 ·have hng:¬(len * sz>16777216):=by omega
  by_cases h0:len=0
  ·have hf:=UZ (Array.map (fun x=>(#[]:Array Value)[x % 0]!) (Array.range (0 * sz))) (by subst h0;simp)
   subst h0
   simp only[Instr.buildSlice,Sem.run_bind,run_underlying ht,Result.andThen_ok,hsize,Sem.run_ite]
   simp only[aoE,Nat.not_lt_zero,gt_iff_lt,if_false,if_true,Sem.run_pure,Result.andThen_ok] at hf ⊢
   simp only[Array.size_empty,hf]
   simp[newRow]
  ·have hpos:¬(len * sz=0):=by
    intro h;rcases Nat.mul_eq_zero.1 h with h|h <;> omega
   have hf:=UZ (Array.map (fun x=>z.cells[x % z.cells.size]!) (Array.range (len * sz))) (by simp)
   simp only[Instr.buildSlice,Sem.run_bind,run_underlying ht,Result.andThen_ok,hsize,Sem.run_ite,zeroValue,typeInfo,run_program,hi,hz,Sem.run_pure]
   rw[if_neg (by omega),if_neg hpos]
   simp only[hf]
   simp[newRow]
 ·have:=CQ (M:=aA M₀ γ) (γ:=γ) (w:=w.alloc (.cells vs.toArray e)) (B:=w.heap.size) (cap:=len) (sz:=sz) (cur:=vs.toArray) (e:=e) (fz:=(0,0)) (heap_alloc_new w _) (es:=es) (aI:=none) a2 vs a3
   (by simp[← a3]) a4 (fun off _ hm=>by have:=h.akm hm;omega) (fun i j x d u q1 q2 q3=>(a5 i j x d u q1 q2 q3).dA hv) (by omega) (jk.none _ _ _)
  rw[hl] at this
  exact this
theorem wC {sz:Nat}:∀(es:List (List D)),(∀e∈es,e.length=sz)→∀(i:Nat) d,es.flatten[i]?=some d→∃e,es[i / sz]?=some e∧e[i % sz]?=some d
 | [],_,i,d,h=>by simp at h
 |e::es,he,i,d,h=>by
  have hl:e.length=sz:=he e (by simp)
  simp only[amb] at h
  by_cases hi:i<sz
  ·rw[ag2 (by omega)] at h
   exact⟨e,by rw[Nat.div_eq_of_lt hi];rfl,by rw[Nat.mod_eq_of_lt hi];exact h⟩
  ·have h0:0<sz:=by
    rcases Nat.eq_zero_or_pos sz with h0|h0
    ·subst h0
     have:∀(l:List (List D)),(∀x∈l,x.length=0)→l.flatten=[]:=by
      intro l hl;exact List.flatten_eq_nil_iff.2 fun x hx=>aky (hl x hx)
     rw[ag7 (by omega),this es (fun x hx=>he x (by simp[hx]))] at h
     simp at h
    ·exact h0
   rw[ag7 (by omega),hl] at h
   obtain⟨e',h1,h2⟩:=wC es (fun x hx=>he x (by simp[hx])) (i - sz) d h
   refine⟨e',?_,?_⟩
   ·have:i / sz=(i - sz) / sz+1:=by
     have:i=(i - sz)+sz:=by omega
     conv=>lhs;rw[this]
     exact Nat.add_div_right _ h0
    rw[this];simpa using h1
   ·have:i % sz=(i - sz) % sz:=by
     have:i=(i - sz)+sz:=by omega
     conv=>lhs;rw[this]
     exact Nat.add_mod_right _ _
    rw[this];exact h2
theorem kL {sz:Nat}:∀(es:List (List D)),(∀e∈es,e.length=sz)→es.flatten.length=es.length * sz
 | [],_=>by simp
 |e::es,he=>by
  rw[amb,abf,he e (by simp),kL es (fun x hx=>he x (by simp[hx])),abN,Nat.succ_mul];omega
theorem SH (h:Store M₀ γ σ w)(hρ:∀x,Rep (aA M₀ γ) γ w (ρ x) (ρv x)){id:Nat}(hid:σ id=none){t e:TypeId}{sz by' len:Nat}(he:cu P t=some (e,sz,by')){parts:Array (Nat × Operand)}
  (h1:len * sz≤16777216) (h2:parts.size=len) (h3:sz≠0) (hok:iK P e=true) {es:List (List D)} (hp:jQ ρ sz 0 parts.toList=some es):
  Out M₀ γ σ w (((Instr.buildSlice t len (parts.map fun (i,x)=>(i,ρv x))) >>= fun x=>pure (Next.value x)).run P w) (.slice sz false es (some id)) [(id,.aI e sz len)]:=by
 obtain⟨i,ht,hi,hs,_⟩:=fU he
 obtain⟨i',z,hi',hz,hzs⟩:=pG hok
 rw[hi] at hi';cases hi'
 obtain⟨a1,a2,vs,a3,a4,a5,a6⟩:=GZ hρ parts.toList 0 es hp
 have hl:es.length=len:=by rw[a1];simpa using h2
 have UZ:∀(cs:Array Value),cs.size=len * sz→Instr.fill (fun i=>some (i * sz,sz)) cs (parts.map fun (i,x)=>(i,ρv x)).toList=some vs.toArray:=by
  intro cs hcs
  have:=a6 len cs (by simpa using hcs) (by simpa using Nat.le_of_eq h2)
  rw[Array.toList_map,this]
  simp only[aoE,ajE,abT,ade]
  rw[akV (by simp;rw[a3,hl,hcs];exact ag4 _),akz]
 have hsize:(sizeOf e).run P w= .ok sz w:=by simp[sizeOf,typeInfo,hi,hs]
 let v:Value:= .slice (some ⟨w.heap.size,0,none⟩) len len
 let g:G:= .aI sz e v len
 have hv:=aW.fresh h hid g (w.alloc (.cells vs.toArray e)) rfl rfl rfl (by simp) (bP w _) (fun B hB=>by simp[g,v,G.block,Value.ownBlock] at hB;omega)
 have hml:len≤maxLen:=by unfold maxLen;have:len≤len * sz:=Nat.le_mul_of_pos_right _ (by omega);omega
 have hrel:dh (aA M₀ (upd γ id (some g))) (upd γ id (some g)) (w.alloc (.cells vs.toArray e)) (.aI e sz len) g:=
  .aI vs ⟨by rw[a3,hl],.inr ⟨w.heap.size,len,vs.toArray,rfl,ada _,heap_alloc_new w _,ag4 _,hml,by simp[a3,hl],by simp[← hl,← a3]⟩⟩
 refine⟨v,w.alloc (.cells vs.toArray e),upd γ id (some g),.inl ?_,h.change id (.aI e sz len) g _ hv (fun i gi B hi hg hB=>bP w _ B (h.lt hg hB)) (fun B hB=>by simp[g,v,G.block,Value.ownBlock] at hB;omega) hrel,hv,?_⟩
 ·have hng:¬(len * sz>16777216):=by omega
  by_cases h0:len=0
  ·have hf:=UZ (Array.map (fun x=>(#[]:Array Value)[x % 0]!) (Array.range (0 * sz))) (by subst h0;simp)
   subst h0
   simp only[Instr.buildSlice,Sem.run_bind,run_underlying ht,Result.andThen_ok,hsize,Sem.run_ite]
   simp only[aoE,Nat.not_lt_zero,gt_iff_lt,if_false,if_true,Sem.run_pure,Result.andThen_ok] at hf ⊢
   simp only[Array.size_empty,hf]
   simp[newRow,v]
  ·have hpos:¬(len * sz=0):=by
    intro h;rcases Nat.mul_eq_zero.1 h with h|h <;> omega
   have hf:=UZ (Array.map (fun x=>z.cells[x % z.cells.size]!) (Array.range (len * sz))) (by simp)
   simp only[Instr.buildSlice,Sem.run_bind,run_underlying ht,Result.andThen_ok,hsize,Sem.run_ite,zeroValue,typeInfo,run_program,hi,hz,Sem.run_pure]
   rw[if_neg (by omega),if_neg hpos]
   simp only[hf]
   simp[newRow,v]
 ·have:=CQ (M:=aA M₀ (upd γ id (some g))) (γ:=upd γ id (some g)) (w:=w.alloc (.cells vs.toArray e)) (B:=w.heap.size) (cap:=len) (sz:=sz) (cur:=vs.toArray) (e:=e) (fz:=(0,0)) (heap_alloc_new w _) (es:=es) (aI:=some id) a2 vs a3
   (by simp[← a3]) a4 (fun off hoff hm=>by
    rcases hm with hm | ⟨b,g',hg',hw⟩
    ·have:=h.outer _ _ hm;omega
    ·by_cases hb:b=id
     ·subst hb
      rw[upd_same] at hg';cases hg'
      have hw2:len * sz≤off:=hw.2
      rw[hl] at hoff;omega
     ·rw[bn _ _ hb] at hg'
      have:=h.lt hg' (G.jR hw)
      omega) (fun i j x d u q1 q2 q3=>(a5 i j x d u q1 q2 q3).dA hv) (by omega) (fun t' ht'=>by cases ht';exact⟨sz,e,v,len,upd_same _ _ _,by omega,fun _=>by rw[hl]⟩)
  rw[hl] at this
  exact this
theorem XT (h:Store M₀ γ σ w){id:Nat}(hid:σ id=none){ts:Array TypeId}{x y:D}{f:Eff}(ha:EW P σ id ts x y=some f)(hside:f.side){xv yv:Value}(hx:Rep (aA M₀ γ) γ w x xv)(hy:Rep (aA M₀ γ) γ w y yv)(ty:TypeId):
  Out M₀ γ σ w (((Builtin.append_ ts ty #[xv,yv]) >>= fun x=>pure (Next.value x)).run P w) f.val f.ws:=by
 unfold EW at ha
 split at ha
 rotate_left
 ·cases ha
 rename_i e sz by' z0 nil es aI sz' nil' es' amm he
 simp only[ac9] at he
 obtain⟨t,ht0,he⟩:=he
 obtain⟨i,ht,hi,hs,hb⟩:=fU he
 split at ha
 ·cases ha
 rename_i hc
 simp only[not_or,not_and,Bool.not_eq_false,ne_eq,Decidable.not_not] at hc
 obtain⟨c1,c2,c3,c4,c5⟩:=hc
 obtain⟨i',z,hi',hz,hzs⟩:=pG c2
 rw[hi] at hi';cases hi'
 have hts:ts=#[t,t]:=by
  have:ts.getD 0 0=t:=by simp[ag_,ht0]
  rw[c3,this]
 subst hs;subst hb
 have akp:∃vs:List Value,vs.length=es.length * i.size∧(∀x∈es,x.length=i.size)∧(∀u∈vs,u.oneCell'=true)∧(∀(k j:Nat) x d u,es[k]?=some x→x[j]?=some d→vs[k * i.size+j]?=some u→Rep (aA M₀ γ) γ w d u)∧
   ((xv= .slice none 0 0∧es=[]∧nil=true)∨∃(a:Addr) (cap:Nat),nil=false∧xv= .slice (some a) es.length cap∧es.length≤cap∧(es≠[]→a.spot=none)∧(∀j u,vs[j]?=some u→w.cell? ⟨a.block,a.off+j,none⟩=some u)):=by
  rcases aZ hx with⟨rfl,rfl,hn⟩ | ⟨a,cap,vs,rfl,hn,hspot,hvs,hcap,hsz,hcell,hr,_⟩
  ·exact⟨[],by simp,by simp,by simp,by simp,.inl ⟨rfl,rfl,hn⟩⟩
  ·by_cases h0:es=[]
   ·subst h0
    have:vs=[]:=aky (by simpa using hvs)
    subst this
    exact⟨[],by simp,by simp,by simp,by simp,.inr ⟨a,cap,hn,rfl,hcap,hspot,by simp⟩⟩
   ·have hz0:=c4 h0
    subst hz0
    exact⟨vs,hvs,hsz,fun u hu=>by obtain⟨j,hj⟩:=aov hu;exact (hcell j u hj).2.2,hr,.inr ⟨a,cap,hn,rfl,hcap,hspot,fun j u hu=>(hcell j u hu).1⟩⟩
 have ado:es'=[]→∃b2 c,yv= .slice b2 0 c:=by
  intro h0
  subst h0
  rcases aZ hy with⟨rfl,_,_⟩ | ⟨a,cap,vs,rfl,_⟩
  ·exact⟨none,0,rfl⟩
  ·exact⟨some a,cap,rfl⟩
 obtain⟨vs,hvs,hsz,h1o,hr,hform⟩:=akp
 subst hts
 split at ha
 ·-- a aI
  rename_i t'
  split at ha
  rotate_left
  ·cases ha
  rename_i e' zz n hσ
  split at ha
  rotate_left
  ·cases ha
  rename_i hcc
  obtain⟨he2,rfl,rfl⟩:=hcc
  have he3:=he2.symm
  subst he3
  simp only[abr] at ha
  subst ha
  obtain⟨g,hg,hbr⟩:=h.hit hσ
  cases hbr with
  | @aI _ _ _ v xs ho=>
   have htip:jk γ (some t') es.length xv:=by
    rcases aZ hx with⟨rfl,rfl,_⟩ | ⟨a,cap,vs,rfl,_,_,_,_,_,_,_,ht⟩
    ·cases hx with
     |nilslice ht=>exact ht
    ·exact ht
   obtain⟨_,_,v',n',q1,q2,q3⟩:=htip t' rfl
   rw[hg] at q1;cases q1
   have hvx:=q3 rfl
   subst hvx
   have hown:w.ownsRow 0 e i.size xv es.length vs:=by
    refine⟨hvs,?_⟩
    rcases ho.2 with h2 | ⟨gB,cap,cur,h2,h3,h4,h5,h6,h7,h8⟩
    ·exact .inl h2
    ·refine .inr ⟨gB,cap,cur,h2,h3,h4,h5,h6,h7,?_⟩
     rcases hform with⟨rfl,_,_⟩ | ⟨a,cap',_,hxv,hcap,hspot,hcell⟩
     ·cases h2
     ·rw[hxv] at h2
      cases h2
      apply List.ext_getElem?
      intro j
      by_cases hj:j<es.length * i.size
      ·have hlt:j<vs.length:=by omega
       have:=hcell j _ (abt hlt)
       simp only[ade] at this
       rw[cell_of_row w gB j cur e _ h4] at this
       rw[ag3,if_pos hj,abt hlt,akA]
       exact this
      ·rw[ag3,if_neg hj,al_ (by omega)]
   by_cases h0:es'=[]
   ·obtain⟨b2,c,rfl⟩:=ado h0
    subst h0
    have hσ':upd σ t' (some (.aI e i.size (es.length+([]:List (List D)).length)))=σ:=by
     funext j;by_cases hj:j=t' <;> simp[upd,hj,hσ]
    rcases hform with⟨rfl,rfl,rfl⟩ | ⟨a,cap,rfl,rfl,hcap,_,_⟩
    ·refine⟨.slice none 0 0,w,γ,.inl ?_,by simp only[E_,hσ'];exact h,aW.refl _ _ _,?_⟩
     ·rw[Sem.run_bind,xO ht hi ty _ rfl (ag4 _)];rfl
     ·exact .nilslice (fun t'' ht''=>by cases ht'';exact⟨_,_,_,_,hg,ada _,fun _=>rfl⟩)
    ·refine⟨.slice (some a) es.length cap,w,γ,.inl ?_,by simp only[E_,hσ'];exact h,aW.refl _ _ _,?_⟩
     ·rw[Sem.run_bind,xO ht hi ty _ rfl hcap];rfl
     ·simp only[akD,akz]
      by_cases he0:es=[]
      ·subst he0
       obtain⟨a',cap',hx'⟩:∃a cap,Value.slice (some a) ([]:List (List D)).length cap= .slice (some a) 0 cap:=⟨a,cap,rfl⟩
       cases hx with
       |slice vs0 g1 g2 g3 g4 g5 g6 g7=>exact .slice [] (by simp) (by simp) g3 (by simp) (by simp) g6 g7
      ·have hz0:=c4 he0
       subst hz0
       exact hx
   ·have h5:=c5 h0
    subst h5
    have hsd:(es.length+es'.length) * i.bytes≤140737488355328∧es.length+es'.length≤9223372036854775807:=hside
    obtain⟨v',w',γ',r1,r2,r3,r4⟩:=xQ h ht hi hz hzs ty t' xv es es' hsz vs hvs hown hr h1o (.inr hg) yv nil' amm hy h0 hsd.2 hsd.1
    refine⟨v',w',γ',.inl (by rw[Sem.run_bind,r1];rfl),r2,r3,?_⟩
    have:(nil && es'.isEmpty)=false:=by
     have:es'.isEmpty=false:=by
      cases hq:es' with
      |nil=>exact absurd hq h0
      |cons _ _=>rfl
     rw[this,Bool.and_false]
    simp only[this]
    exact r4
 ·-- no aI
  split at ha
  rotate_left
  ·cases ha
  rename_i hnil
  subst hnil
  rcases hform with⟨rfl,rfl,_⟩ | ⟨_,_,hn,_⟩
  rotate_left
  ·cases hn
  split at ha
  ·rename_i h0
   simp only[abr] at ha
   subst ha
   obtain⟨b2,c,rfl⟩:=ado h0
   refine⟨.slice none 0 0,w,γ,.inl ?_,h,aW.refl _ _ _,.nilslice (jk.none _ _ _)⟩
   rw[Sem.run_bind,xO ht hi ty _ rfl (ag4 _)];rfl
  ·rename_i h0
   simp only[abr] at ha
   subst ha
   have h5:=c5 h0
   subst h5
   have hsd:es'.length * i.bytes≤140737488355328∧es'.length≤9223372036854775807:=hside
   have akq:vs=[]:=aky (by simpa using hvs)
   subst akq
   obtain⟨v',w',γ',r1,r2,r3,r4⟩:=xQ h ht hi hz hzs ty id (.slice none 0 0) [] es' (by simp) [] (by simp) (World.ownsRow_nil w 0 e i.size) (by simp) (by simp) (.inl ⟨h.miss hid,hid,rfl,rfl⟩) yv nil' amm hy h0 (by simpa using hsd.2) (by simpa using hsd.1)
   simp only[acS,ade,abT] at r2 r4
   exact⟨v',w',γ',.inl (by rw[Sem.run_bind,r1];rfl),r2,r3,r4⟩
end
end Go.Id
