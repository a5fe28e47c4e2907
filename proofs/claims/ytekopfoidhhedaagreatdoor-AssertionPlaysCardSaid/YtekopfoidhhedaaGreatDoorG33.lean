import Derived.Test.YtekopfoidhhedaaGreatDoorG32
import Derived.Test.YtekopfoidhhedaaGreatDoorG13
set_option linter.unusedVariables false
set_option linter.unusedSimpArgs false
set_option linter.unnecessarySimpa false
set_option maxRecDepth 20000
namespace Go.Proofs
open Go Go.Id
structure lJ where
 call:Int
 fD:Int
 now:Int
 id:List UInt8
 part:List UInt8
 a:As
 sec:List UInt8
 s:List UInt8
def lJ.cs (o:lJ):List D:=[.int .i64 o.call,.int .i64 o.fD,.int .i64 o.now,.str o.id,.str o.part,.str o.a.id,.str o.a.iw,.str o.a.jV,.str o.a.sub,.str o.a.req,.int .i64 o.a.kK,.int .i64 o.a.fD,.int .i64 o.a.lvl,.slice 2 o.a.nl (o.a.ats.map At.cs) none,.str o.sec,.str o.s]
def lgO (o:lJ):Bool:=!(decide ((o.id.length:Int)>100) || decide ((o.part.length:Int)>100) || decide ((o.sec.length:Int)>100) || decide ((o.s.length:Int)>2000)) && jJ o.a
def uy (l:List lJ):Bool:=if (l.take 16).any (fun o=>!(lgO o))=true then false else decide ((l.length:Int)≤16)
structure lJ.ok (o:lJ):Prop where
 id:o.id.length≤100
 part:o.part.length≤100
 sec:o.sec.length≤100
 s:o.s.length≤2000
 a:o.a.ok
theorem alU {o:lJ}(hb:o.a.big)(h:lgO o=true):o.ok:=by
 simp only[lgO,ait,adh,Bool.or_eq_false_iff,decide_eq_false_iff_not] at h
 obtain⟨⟨⟨⟨h1,h2⟩,h3⟩,h4⟩,h5⟩:=h
 exact⟨by omega,by omega,by omega,by omega,agA hb h5⟩
theorem acT {l:List lJ}(hb:∀o∈l,o.a.big)(h:uy l=true):l.length≤16∧∀o∈l,o.ok:=by
 unfold uy at h
 split at h
 ·cases h
 ·rename_i hh
  have hl:l.length≤16:=by have:=of_decide_eq_true h;omega
  refine⟨hl,fun o ho=>?_⟩
  rw[ajr hl,apK,List.any_eq_false] at hh
  have:=hh o ho
  exact alU (hb o ho) (by simpa using this)
theorem vZ {l:List lJ}{k:Nat}(hk:k<l.length)(h6:k<16)(h:lgO l[k]=false):uy l=false:=by
 unfold uy
 rw[if_pos]
 rw[List.any_eq_true]
 exact⟨l[k],by rw[List.mem_take_iff_getElem];exact⟨k,by omega,rfl⟩,by rw[h];rfl⟩
theorem Ox {l:List lJ}{k:Nat}(hk:l.length≤k∨16≤k)(h:((l.take k).take 16).any (fun o=>!(lgO o))=false):uy l=decide ((l.length:Int)≤16):=by
 unfold uy
 rw[if_neg]
 rw[apK]
 rcases hk with hk|hk
 ·rw[ajr hk] at h;exact h
 ·rw[List.take_take,amv hk] at h;exact h
def xJ (o:lJ):List UInt8:=if (o.call != 1)=true then o.s else (CG [ni o.sec] o.a 1).1
def bV (ms:TS)(r:Rc)(o:lJ):As × Int × Rc:=if (o.call == 0)=true then (bF,lI r o.id o.part o.fD o.now) else fM ms r (xJ o) o.now
theorem RZ {ms:TS}{r:Rc}{o:lJ}(h:(o.call == 0)=true):bV ms r o=(bF,lI r o.id o.part o.fD o.now):=by unfold bV;rw[if_pos h]
theorem R_ {ms:TS}{r:Rc}{o:lJ}(h:(o.call == 0)=false):bV ms r o=fM ms r (xJ o) o.now:=by unfold bV;rw[if_neg (by rw[h];decide)]
theorem agF {k:Key}(hk:k.sec.length≤1000∧k.id.length≤1000)(a:As)(now:Int):(CG [k] a now).1.length≤100000:=by
 unfold CG
 split
 ·simp
 split
 ·simp
 ·have h1:=Oi a
  have h2:(lS [k] (dX a).1 now).1.length≤10000:=by
   unfold lS
   split
   ·simp
   ·rename_i h
    obtain⟨_,h3,_⟩:=VZ (l:=[k]) (now:=now) (by simpa using h)
    have h4:xG [k] now=k:=by simpa using h3
    rw[h4]
    have:=vJ k.sec (dX a).1
    simp[wU,this]
    omega
  simp only[abf,abN,acS]
  omega
theorem EK {o:lJ}(h:o.ok):(xJ o).length≤1099511627776:=by
 unfold xJ
 split
 ·have:=h.s;omega
 ·have:=agF (k:=ni o.sec) ⟨by have:=h.sec;show o.sec.length≤_;omega,by show ([107,49]:List UInt8).length≤_;decide⟩ o.a 1
  omega
theorem aje {s:List UInt8}(h:s.length≤100):∀k∈[ni s],k.ok:=by
 intro k hk
 simp only[ad1] at hk;subst hk
 exact⟨by show ([107,49]:List UInt8).length≤_;decide,by show s.length≤_;omega⟩
structure Rc.at (r:Rc) (k:Nat):Prop where
 ok:r.ok
 nrq:r.rq.length≤k
 nus:r.us.length≤k
theorem Rc.at.mono {r:Rc}{k m:Nat}(h:r.at k)(hm:k≤m):r.at m:=⟨h.ok,ag9 h.nrq hm,ag9 h.nus hm⟩
theorem alV {r:Rc}{k:Nat}(h:r.at k)(hk:k≤100)(id p:List UInt8)(u now:Int):(lI r id p u now).2.at (k+1):=by
 unfold lI
 split
 ·have hl:=WX (lH r.rq now) r.rc id (p,aN u)
  have hw:(lH r.rq now).length≤r.rq.length:=List.length_filter_le _ _
  have h1:=h.nrq
  have h2:=h.nus
  refine⟨⟨(h.ok.rq.filter _).put _ _,h.ok.us,h.ok.skew,?_,?_⟩,?_,?_⟩
  ·show (qx _ _ _ _).length≤100000;omega
  ·show r.us.length≤200;omega
  ·show (qx _ _ _ _).length≤k+1;omega
  ·show r.us.length≤k+1;omega
 ·exact h.mono (by omega)
theorem ajf {α:Type}{l:jG α}{c:Nat}(h:Jv l c)(s:List UInt8):Jv (xg l s) c:=by
 rw[Um h.keys];exact h.filter _
theorem ajg {r:Rc}{k:Nat}(h:r.at k)(hk:k≤100)(a:As)(now:Int):(EH r a now).2.2.at (k+1):=by
 have hm:=h.mono (Nat.le_succ k)
 unfold EH
 split
 ·exact hm
 split
 ·exact hm
 split
 ·exact hm
 split
 ·exact hm
 ·rename_i hu
  have hu0:(gG r.us r.uc a.id (gQ a.fD r.skew) now).1=0:=by simpa using hu
  have e:gG r.us r.uc a.id (gQ a.fD r.skew) now=(0,qx r.us r.uc a.id (aN (gQ a.fD r.skew)),uq r.us r.uc a.id):=by
   unfold gG at hu0 ⊢
   split
   ·rfl
   ·rename_i h0;rw[if_neg h0] at hu0;exact absurd hu0 h0
  rw[e]
  have h1:=h.nrq;have h2:=h.nus
  have hl:=WX r.us r.uc a.id (aN (gQ a.fD r.skew))
  have hd:=WY r.rq a.req
  refine⟨⟨ajf h.ok.rq _,h.ok.us.put _ _,h.ok.skew,?_,?_⟩,?_,?_⟩
  ·show (xg r.rq a.req).length≤100000;omega
  ·show (qx _ _ _ _).length≤200;omega
  ·show (xg r.rq a.req).length≤k+1;omega
  ·show (qx _ _ _ _).length≤k+1;omega
theorem alW {ms:TS}{r:Rc}{k:Nat}(h:r.at k)(hk:k≤100)(s:List UInt8)(now:Int):(fM ms r s now).2.2.at (k+1):=by
 have hm:=h.mono (Nat.le_succ k)
 unfold fM
 split
 ·exact hm
 split
 ·exact hm
 split
 ·exact hm
 split
 ·exact hm
 split
 ·exact hm
 split
 ·exact hm
 split
 ·exact hm
 ·exact ajg h hk _ _
theorem aoa {ms:TS}{r:Rc}{k:Nat}(h:r.at k)(hk:k≤100)(o:lJ):(bV ms r o).2.2.at (k+1):=by
 unfold bV
 split
 ·exact alV h hk _ _ _ _
 ·exact alW h hk _ _
set_option maxRecDepth 20000
set_option maxRecDepth 10000
set_option maxHeartbeats 4000000
@[simp] theorem aaY {S:Nat→Prop}(o:lJ):(∀d∈o.cs,bY S d)↔True:=by
 simp only[iff_true]
 intro d hd
 simp only[lJ.cs,ael,akg,or_false] at hd
 rcases hd with rfl|rfl|rfl|rfl|rfl|rfl|rfl|rfl|rfl|rfl|rfl|rfl|rfl|rfl|rfl|rfl <;> simp[fV]
abbrev iQ:List Nat:=[0,2,3,11,56]
theorem Xm (l:List lJ)(nl:Bool)(hnl:nl=true→l=[])(hb:∀o∈l,o.a.big):ay Pr 21 [.slice 16 nl (l.map lJ.cs) none] (.bool (uy l)):=by
 refine gK Tryz.func21 Tryz.ntmps21 ?_
 refine aG 4 iQ ?_
 refine WP.lp [0] (X:={k:Nat // k≤16∧((l.take k).take 16).any (fun o=>!(lgO o))=false}) (fun x=>match x with| ⟨(k),_⟩=>[(3,.int .i64 k)]) (fun x=>match x with| ⟨(k),_⟩=>[]) (fun x=>match x with| ⟨(k),_⟩=>16 - k) (by simp +decide only[W,↓reduceIte];rfl) ?_ ⟨(0),⟨ada _,by simp⟩⟩ ?_
 rotate_left
 ·exact zZ1 @aaY
 rintro ⟨k,⟨hk,hI⟩⟩
 dsimp only
 simp only[abS,abT]
 apply WP.seq
 refine WP.S iQ fun _ z=>?_
 refine ah.take 5 fun J hJ=>?_
 simp +decide only[TF,↓reduceIte]
 refine hJ _ _ ?_;clear hJ J
 refine ah.part 8 rfl (fun q1=>?_) (fun q1=>?_)
 ·have hlt:k<l.length:=aO q1
  have hg:(l.map lJ.cs)[k]?=some (lJ.cs l[k]):=getM hlt
  have hnf:=aX hnl hlt
  simp +decide only[TF,q1,hnf,↓reduceIte]
  apply z;clear z
  refine WP.cond rfl (fun q2=>?_) (fun q2=>?_)
  ·have h6:k<16:=by have:=of_decide_eq_true q2;omega
   refine aG 3 [] ?_
   refine WP.S iQ fun _ z=>?_
   refine ah.take 8 fun J hJ=>?_
   simp +decide only[TF,hg,q2,lJ.cs,↓reduceIte]
   refine hJ _ _ ?_;clear hJ J
   refine ah.part 21 rfl (fun q3=>?_) (fun q3=>?_)
   ·have hR:=vZ hlt h6 (by simp only[lgO,q3,aoN,aoC,akD])
    simp +decide only[TF,q3,↓reduceIte]
    apply z;clear z
    refine aG 2 iQ ?_
    apply WP.ret
    exact Bq hR
   have n1:=q3
   refine ah.take 9 fun J hJ=>?_
   simp +decide only[TF,hg,q3,lJ.cs,↓reduceIte]
   refine hJ _ _ ?_;clear hJ J
   refine ah.part 30 rfl (fun q4=>?_) (fun q4=>?_)
   ·have hR:=vZ hlt h6 (by simp only[lgO,q4,aoN,apl,aoC,akD])
    simp +decide only[TF,q4,↓reduceIte]
    apply z;clear z
    refine aG 2 iQ ?_
    apply WP.ret
    exact Bq hR
   have n2:=q4
   refine ah.take 9 fun J hJ=>?_
   simp +decide only[TF,hg,q4,lJ.cs,↓reduceIte]
   refine hJ _ _ ?_;clear hJ J
   refine ah.part 39 rfl (fun q5=>?_) (fun q5=>?_)
   ·have hR:=vZ hlt h6 (by simp only[lgO,q5,aoN,apl,aoC,akD])
    simp +decide only[TF,q5,↓reduceIte]
    apply z;clear z
    refine aG 2 iQ ?_
    apply WP.ret
    exact Bq hR
   have n3:=q5
   refine ah.take 9 fun J hJ=>?_
   simp +decide only[TF,hg,q5,lJ.cs,↓reduceIte]
   refine hJ _ _ ?_;clear hJ J
   refine ah.part 48 rfl (fun q6=>?_) (fun q6=>?_)
   ·have hR:=vZ hlt h6 (by simp only[lgO,q6,apl,aoC,akD])
    simp +decide only[TF,q6,↓reduceIte]
    apply z;clear z
    refine aG 2 iQ ?_
    apply WP.ret
    exact Bq hR
   have n4:=q6
   simp +decide only[TF,hg,q6,lJ.cs,↓reduceIte]
   refine aj.pure (ajc l[k].a (hb _ (adb hlt))) rfl rfl (by simp[fV]) ?_
   simp +decide only[TF,↓reduceIte]
   apply z;clear z
   refine WP.cond rfl (fun q7=>?_) (fun q7=>?_)
   ·have n5:jJ l[k].a=false:=by simpa using q7
    have hR:=vZ hlt h6 (by simp only[lgO,n5,Bool.and_false])
    refine aJ 1 iQ q7 ?_
    apply WP.ret
    exact Bq hR
   have n5:jJ l[k].a=true:=by simpa using q7
   have hF:lgO l[k]=true:=by simp only[lgO,n1,n2,n3,n4,n5,Bool.or_false,apa,Bool.and_true]
   refine aJ 2 [] q7 ?_
   show ∃y,_∧Weak _ _ _
   refine⟨⟨k+1,by omega,?_⟩,by dsimp only;omega,?_⟩
   ·rw[G8 hlt,ajr (by rw[abf,adg];simp;omega)];rw[ajr (by rw[adg];omega)] at hI;rw[List.any_append,hI];simp[hF]
   exact zZ3 (aU (show k<16 by omega) (by decide)) hnf @aaY
  have h6:16≤k:=by have:=of_decide_eq_false q2;omega
  have hR:=Ox (l:=l) (.inr h6) hI
  refine aJ 2 iQ q2 ?_
  apply WP.ret
  exact Bq hR
 have hge:l.length≤k:=aP q1
 have hR:=Ox (l:=l) (.inl hge) hI
 simp +decide only[TF,q1,↓reduceIte]
 apply z;clear z
 refine aG 3 iQ ?_
 apply WP.ret
 exact Bq hR
theorem EL (o:lJ)(ho:o.ok):ay Pr 34 [.agg [.int .i64 o.call,.int .i64 o.fD,.int .i64 o.now,.str o.id,.str o.part,.str o.a.id,.str o.a.iw,.str o.a.jV,.str o.a.sub,.str o.a.req,.int .i64 o.a.kK,.int .i64 o.a.fD,.int .i64 o.a.lvl,.slice 2 o.a.nl (o.a.ats.map At.cs) none,.str o.sec,.str o.s]] (.str (xJ o)):=by
 refine gK Tryz.func34 Tryz.ntmps34 ?_
 refine aG 3 [1,2,3,7] ?_
 refine WP.cond rfl (fun q1=>?_) (fun q1=>?_)
 ·have hR:xJ o=o.s:=by unfold xJ;exact if_pos q1
  refine aJ 1 [1,2,3,7] q1 ?_
  apply WP.ret
  exact Bq hR
 have hR:xJ o=(CG [ni o.sec] o.a 1).1:=by unfold xJ;exact if_neg (by rw[q1];decide)
 refine oC 3 [1,2,3,7] (Y6 o.sec) (W9 [ni o.sec] false (by simp) nofun (aje ho.sec) o.a ho.a 1) q1 ?_
 apply WP.ret
 exact Bq hR
theorem ajh (ms:TS)(c:Nat)(hms:TS.ok ms)(r:Rc)(hr:r.ok)(o:lJ)(ho:o.ok):aF Pr 28 [.ref 3 0,.ref 1 0,.agg [.int .i64 o.call,.int .i64 o.fD,.int .i64 o.now,.str o.id,.str o.part,.str o.a.id,.str o.a.iw,.str o.a.jV,.str o.a.sub,.str o.a.req,.int .i64 o.a.kK,.int .i64 o.a.fD,.int .i64 o.a.lvl,.slice 2 o.a.nl (o.a.ats.map At.cs) none,.str o.sec,.str o.s]] [(0,.map (sQ ms) c),(1,.box 138 [.map 0]),(2,.map (mE lV r.rq) r.rc),(3,.box 107 [.str r.self,.int .i64 r.skew,.map 2,.ref 4 0]),(4,.box 171 [.map 5,.int .i64 256]),(5,.map (mE qE r.us) r.uc)] (.aQ [.agg (bV ms r o).1.cs,.int .i64 (bV ms r o).2.1]) [(0,.map (sQ ms) c),(1,.box 138 [.map 0]),(2,.map (mE lV (bV ms r o).2.2.rq) (bV ms r o).2.2.rc),(3,.box 107 [.str (bV ms r o).2.2.self,.int .i64 (bV ms r o).2.2.skew,.map 2,.ref 4 0]),(4,.box 171 [.map 5,.int .i64 256]),(5,.map (mE qE (bV ms r o).2.2.us) (bV ms r o).2.2.uc)]:=by
 refine qX Tryz.func28 Tryz.ntmps28 ?_
 refine aG 3 [0,1,5,6,7,10] ?_
 refine WP.cond rfl (fun q1=>?_) (fun q1=>?_)
 ·have hR:=RZ (ms:=ms) (r:=r) q1
  refine jd 1 [0,1,5,6,7,10] (Ai r hr o.id o.part o.fD o.now (by have:=ho.id;omega) (by have:=ho.part;omega)) q1 ?_
  apply WP.ret
  exact OD hR
 have hR:=R_ (ms:=ms) (r:=r) q1
 refine aG 1 [] ?_
 refine WP.D [0,1,5,6,7,10] fun _ z=>?_
 simp +decide only[TF,q1,St.lay,dl,↓reduceIte]
 refine aj.pure (EL o ho) rfl rfl (by simp[fV]) ?_
 simp +decide only[TF,St.lay,dl,↓reduceIte]
 refine aj.I (vY ms c hms r hr (xJ o) (EK ho) o.now) rfl rfl ?_
 simp +decide only[TF,As.cs,St.lay,dl,↓reduceIte]
 refine z _ _ (by kernel_rfl) ?_;clear z
 apply WP.ret
 refine Ends.imp (d:= .aQ [_,_]) (.inr rfl) rfl (by rw[hR];exact Le.of_eq (by simp +decide only[As.cs,St.get,W,ak,fA,↓reduceIte])) ?_ ?_ ?_
 ·simp
 ·simp[lk,aB,hR]
 simp[lk]
set_option maxHeartbeats 16000000
set_option maxRecDepth 100000
theorem aob (n:Int):(if (if (1099511627776:Int)<n then 1099511627776 else n)>0 then (if (1099511627776:Int)<n then (1099511627776:Int) else n) else 0)=aN n:=by
 unfold aN;repeat' split <;> omega
theorem Uz (ms:TS)(r:Rc)(o:lJ):(bV ms r o).2.2.self=r.self∧(bV ms r o).2.2.skew=r.skew:=by
 unfold bV
 split
 · unfold lI;split <;> exact⟨rfl,rfl⟩
 ·
  unfold fM
  split
  · exact⟨rfl,rfl⟩
  split
  · exact⟨rfl,rfl⟩
  split
  · exact⟨rfl,rfl⟩
  split
  · exact⟨rfl,rfl⟩
  split
  · exact⟨rfl,rfl⟩
  split
  · exact⟨rfl,rfl⟩
  split
  · exact⟨rfl,rfl⟩
  unfold EH
  split
  · exact⟨rfl,rfl⟩
  repeat' split
  all_goals exact⟨rfl,rfl⟩
set_option maxRecDepth 20000
theorem acU (c:UInt8):gV c []=-1:=by
 rcases jH c [] with⟨h,_⟩ | ⟨i,hi,_⟩
 ·exact h
 ·simp at hi
theorem agG {c d:UInt8}{l:List UInt8}(h:d≠c):gV c (l++[d])=gV c l:=by
 rcases jH c l with⟨h1,h2⟩ | ⟨i,hi,h1,h2,h3⟩
 ·rcases jH c (l++[d]) with⟨h4,_⟩ | ⟨j,hj,h4,h5,_⟩
  ·rw[h4,h1]
  ·exfalso
   have:c∈l++[d]:=by rw[h5];simp
   rcases List.mem_append.1 this with h6|h6
   ·exact h2 h6
   ·simp at h6;exact h h6.symm
 ·have e:l++[d]=l.take i++c::(l.drop (i+1)++[d]):=by
   conv=>lhs;rw[h2]
   simp
  rw[h1,e,Ol]
  ·rw[adg,amv (by omega)]
  ·simp only[List.mem_append,ad1,not_or];exact⟨h3,fun q=>h q.symm⟩
theorem acV {c:UInt8}{s:List UInt8}{k:Nat}(hk:k<s.length)(hI:gV c s=gV c (s.take (k+1)))(h:s[k]=c):gV c s=k:=by
 rw[hI,G8 hk,h,Ol (by simp),adg,amv (by omega)]
theorem Zp {c:UInt8}{s:List UInt8}{k:Nat}(hk:k<s.length)(hI:gV c s=gV c (s.take (k+1)))(h:s[k]≠c):gV c s=gV c (s.take k):=by
 rw[hI,G8 hk,agG h]
def OI {α:Type}:jG α→List UInt8→Nat→Int
 | [],_,_=>-1
 |e::es,s,k=>if (e.1 == s)=true then k else OI es s (k+1)
theorem UA {α:Type}(s:List UInt8)(k:Nat):OI ([]:jG α) s k=-1:=rfl
theorem Oy {α:Type}(e:List UInt8 × α × Nat)(es:jG α)(s:List UInt8)(k:Nat):OI (e::es) s k=if (e.1 == s)=true then (k:Int) else OI es s (k+1):=rfl
theorem rF {α:Type}(s:List UInt8):∀(l:jG α) (k:Nat),(OI l s k=-1∧gZ l s=none)∨∃(i:Nat) (h:i<l.length),OI l s k=((k+i:Nat):Int)∧l[i].1=s∧gZ l s=some l[i].2.1∧(∀j (hj:j<i),l[j].1≠s)
 | [],k=> .inl ⟨rfl,rfl⟩
 |(a,d,n)::es,k=>by
  unfold gZ OI
  by_cases h:s=a
  ·refine .inr ⟨0,by simp,?_,?_,?_,?_⟩
   ·rw[if_pos (by simp[h])];simp
   ·simp[h]
   ·rw[if_pos h];rfl
   ·intro j hj;omega
  ·have h':¬(a == s)=true:=by simp;exact fun e=>h e.symm
   rw[if_neg h']
   rcases rF s es (k+1) with⟨h1,h2⟩ | ⟨i,hi,h1,h2,h3,h4⟩
   ·exact .inl ⟨h1,by rw[if_neg h];exact h2⟩
   ·refine .inr ⟨i+1,by simp;omega,?_,?_,?_,?_⟩
    ·rw[h1];congr 1;omega
    ·simpa using h2
    ·rw[if_neg h];simpa using h3
    ·intro j hj
     match j with
     | 0=>simp;exact fun e=>h e.symm
     |j+1=>simpa using h4 j (by omega)
def jM (e:List UInt8 × (List UInt8 × Int) × Nat):List D:=[.str e.1,.str e.2.1.1,.int .i64 e.2.1.2]
def n_ (e:List UInt8 × Int × Nat):List D:=[.str e.1,.int .i64 e.2.1]
@[simp] theorem qL {S:Nat→Prop}(e:List UInt8 × (List UInt8 × Int) × Nat):(∀d∈jM e,bY S d)↔True:=by simp[jM]
@[simp] theorem UC {S:Nat→Prop}(e:List UInt8 × Int × Nat):(∀d∈n_ e,bY S d)↔True:=by simp[n_]
theorem alX {S:Nat→Prop}(l:RQ):(∀e∈l.map jM,∀d∈e,bY S d)↔True:=by
 simp only[iff_true]
 intro e he
 obtain⟨x,_,rfl⟩:=List.mem_map.1 he
 exact (qL x).2 trivial
set_option maxRecDepth 10000
set_option maxHeartbeats 4000000
theorem aoc {a b:UInt8}(h:((a.toNat:Int) == (b.toNat:Int))=true):a=b:=by
 have:=eq_of_beq h;exact aoA.1 (by omega)
theorem aod {a b:UInt8}(h:((a.toNat:Int) == (b.toNat:Int))=false):a≠b:=by
 rintro rfl;simp at h
abbrev zC:List Nat:=[0,1,4,5,10,17]
theorem EM (s:List UInt8)(c:UInt8)(hs:s.length≤140737488355328):ay Pr 184 [.str s,.int .u8 c.toNat] (.int .i64 (gV c s)):=by
 have hw0:IntKind.wrap .i64 ((s.length:Int) - 1)=(s.length:Int) - 1:=wrap_i64 (by omega) (by omega)
 refine gK Tryz.func184 Tryz.ntmps184 ?_
 refine aG 4 zC ?_
 refine WP.lp [0,1] (X:={k:Nat // k≤s.length∧gV c s=gV c (s.take k)}) (fun x=>match x with| ⟨(k),_⟩=>[(5,.int .i64 ((k:Int) - 1))]) (fun x=>match x with| ⟨(k),_⟩=>[]) (fun x=>match x with| ⟨(k),_⟩=>k) (by simp +decide only[W,↓reduceIte];rfl) ?_ ⟨(s.length),⟨ag4 _,by rw[ajy]⟩⟩ ?_
 rotate_left
 ·exact zZ1 hw0
 rintro ⟨k,⟨hk,hI⟩⟩
 dsimp only
 simp only[abS,abT]
 refine aG 2 zC ?_
 refine WP.cond rfl (fun q1=>?_) (fun q1=>?_)
 ·obtain⟨j,rfl⟩:∃j,k=j+1:=⟨k - 1,by have:=of_decide_eq_true q1;omega⟩
  have hj:j<s.length:=by omega
  have hg:=kU hj
  have he:((j+1:Nat):Int) - 1=(j:Int):=by omega
  have hw:IntKind.wrap .i64 ((j:Int) - 1)=(j:Int) - 1:=wrap_i64 (by omega) (by omega)
  refine jd 4 zC hg he ?_
  refine WP.cond rfl (fun q2=>?_) (fun q2=>?_)
  ·have hR:gV c s=j:=acV hj hI (aoc q2)
   refine aJ 1 zC q2 ?_
   apply WP.ret
   exact Bq hR
  have hI2:=Zp hj hI (aod q2)
  refine jd 2 [] hw q2 ?_
  show ∃y,_∧Weak _ _ _
  refine⟨⟨j,?_⟩,?_,?_⟩
  ·exact⟨by omega,hI2⟩
  ·dsimp only;omega
  exact OC
 have hk0:k=0:=by have:=of_decide_eq_false q1;omega
 have hR:gV c s=-1:=by rw[hI,hk0,ajE,acU]
 refine aJ 2 zC q1 ?_
 apply WP.ret
 exact Bq hR
theorem oW (l:RQ)(nl:Bool)(hnl:nl=true→l=[])(hn:l.length≤1099511627776)(s:List UInt8):ay Pr 127 [.slice 3 nl (l.map jM) none,.str s] (.int .i64 (OI l s 0)):=by
 refine ay.W Tryz.func127 Tryz.ntmps127 ?_
 simp only[aT,ade]
 refine aG 4 [0,1,4,5,9,18] ?_
 refine WP.lp [0,1] (X:={k:Nat // k≤l.length∧OI l s 0=OI (l.drop k) s k}) (fun x=>match x with| ⟨(k),_⟩=>[(5,.int .i64 k)]) (fun x=>match x with| ⟨(k),_⟩=>[]) (fun x=>match x with| ⟨(k),_⟩=>l.length - k) (by simp +decide only[W,↓reduceIte];rfl) ?_ ⟨(0),⟨ada _,rfl⟩⟩ ?_
 rotate_left
 ·exact Weak.nil (by simp[St.get,lk,W,Le.refl]) (by simp[W];rintro e _ _ _ _ _ rfl;simp)
 rintro ⟨k,⟨hk,hI⟩⟩
 dsimp only
 simp only[abS,abT]
 refine aG 2 [0,1,4,5,9,18] ?_
 refine WP.cond rfl (fun q1=>?_) (fun q1=>?_)
 ·have hlt:=aO q1
  have hg:(l.map jM)[k]?=some (jM l[k]):=getM hlt
  have hnf:=aX hnl hlt
  rw[bZ hlt,Oy] at hI
  refine CO 4 [0,1,4,5,9,18] q1 hg hnf @jM.eq_def ?_
  refine WP.cond rfl (fun q2=>?_) (fun q2=>?_)
  ·have hR:=hI.trans (if_pos q2)
   refine aJ 1 [0,1,4,5,9,18] q2 ?_
   apply WP.ret
   exact Ends.P rfl (Le.of_eq (by simp +decide only[St.get,W,hR,↓reduceIte]))
  rw[if_neg (by rw[q2];decide)] at hI
  refine aJ 2 [] q2 ?_
  show ∃y,_∧Weak _ _ _
  refine⟨⟨k+1,?_⟩,?_,?_⟩
  ·exact⟨by omega,hI⟩
  ·dsimp only;omega
  exact Weak.nil (by simp[St.get,lk,Le.refl,hnf,aU hlt (show l.length≤140737488355328 by omega)]) (by simp[W];rintro e _ _ _ _ _ rfl;simp)
 have hge:=aP q1
 rw[dR hge,UA] at hI
 refine aJ 2 [0,1,4,5,9,18] q1 ?_
 apply WP.ret
 exact Ends.P rfl (Le.of_eq (by simp +decide only[St.get,W,hI,↓reduceIte]))
theorem acW:aF Pr 68 [.int .i64 256] [] (.aQ [.ref 0 0,.int .i64 0]) [(0,.box 174 [.int .i64 256,.slice 0 true [] none])]:=by
 refine qX Tryz.func68 Tryz.ntmps68 ?_
 refine aG 6 [0,2,3,9] ?_
 apply WP.ret
 exact zT0
set_option maxRecDepth 20000
def Px (o:Option (List UInt8 × List UInt8 × List UInt8 × As)):D:=match o with
 |some q=> .aQ [.str q.1,.agg q.2.2.2.cs,.str q.2.1,.str q.2.2.1,.bool true]
 |none=> .aQ [.str [],.agg bF.cs,.str [],.str [],.bool false]
theorem Aw:Le (.aQ [.str [],.agg [.str [],.str [],.str [],.str [],.str [],.int .i64 0,.int .i64 0,.int .i64 0,.slice 0 true [] none],.str [],.str [],.bool false]) (Px none):=
 Le.aQ ⟨Le.refl _,Le.agg ⟨Le.refl _,Le.refl _,Le.refl _,Le.refl _,Le.refl _,Le.refl _,Le.refl _,Le.refl _,Le.nil _ _ _,trivial⟩,Le.refl _,Le.refl _,Le.refl _,trivial⟩
@[simp] theorem aoe {S:Nat→Prop}(o:Option (List UInt8 × List UInt8 × List UInt8 × As)):bY S (Px o)↔True:=by
 cases o with
 |none=>simp[Px]
 |some q=>simp[Px]
theorem aof {s:List UInt8}{i k:Nat}(h:gV 126 s=i)(h2:((jF (s.take i)).2 != 0)=false)(h3:gV 58 (s.drop (i+1))=k)(h5:bg ((s.drop (i+1)).take k)=false):l9 s=none:=by
 cases h4:((UN ((s.drop (i+1)).drop (k+1))).2 != 0) with
 |true=>exact af9 h h2 h3 h4
 |false=>exact akc h h2 h3 h4 h5
set_option maxRecDepth 10000
abbrev dN:List Nat:=[0,2,3,4,5,6,7,8,9,10,11,12,14,18,46,57]
theorem uz (s:List UInt8)(hs:s.length≤1099511627776):ay Pr 128 [.str s] (Px (l9 s)):=by
 refine ay.W Tryz.func128 Tryz.ntmps128 ?_
 simp only[aT]
 refine aG 1 dN ?_
 rcases jH 126 s with⟨hl,_⟩ | ⟨i,hi,hl,_,_⟩
 ·have hR:=aj' hl
  have hi0:decide ((-1:Int)<0)=true:=by decide
  refine jd 5 dN (EM s 126 (by omega)) hl ?_
  apply WP.ret
  exact Ends.P (d:= .aQ [_,_,_,_,_]) rfl (by rw[hR];exact Le.trans (Le.of_eq (by simp +decide only[St.get,lk,W,ak,fA,↓reduceIte])) Aw)
 have hi0:decide ((i:Int)<0)=false:=decide_eq_false (by omega)
 have hle:i≤s.length:=by omega
 have hle1:i+1≤s.length:=by omega
 have hwi:IntKind.wrap .i64 ((i:Int)+1)=((i+1:Nat):Int):=by rw[wrap_i64 (by omega) (by omega)];rfl
 refine zG7 6 dN (EM s 126 (by omega)) hl hi0 hle hle1 hwi @ajy.{0} ?_
 rcases jH 58 (s.drop (i+1)) with⟨hk,_⟩ | ⟨k,hk1,hk,_,_⟩
 ·have hk0:decide ((-1:Int)<0)=true:=by decide
  refine jd 1 dN (EM (s.drop (i+1)) 58 (by simp only[aht];omega)) hk ?_
  refine WP.S dN fun _ z=>?_
  simp +decide only[TF,↓reduceIte]
  refine aj.P (Ov (s.take i) (by simp only[adg];omega)) rfl rfl ?_
  simp +decide only[TF,jw,As.cs,↓reduceIte]
  apply z;clear z
  apply WP.seq
  refine WP.S dN fun _ z=>?_
  refine ah.take 3 fun J hJ=>?_
  simp +decide only[TF,↓reduceIte]
  refine hJ _ _ ?_;clear hJ J
  refine ah.part 36 rfl (fun q1=>?_) (fun q1=>?_)
  ·have hR:=aaN hl q1
   simp +decide only[TF,q1,↓reduceIte]
   apply z;clear z
   refine aG 2 dN ?_
   apply WP.ret
   exact Ends.P (d:= .aQ [_,_,_,_,_]) rfl (by rw[hR];exact Le.trans (Le.of_eq (by simp +decide only[St.get,lk,W,ak,fA,↓reduceIte])) Aw)
  have hf:=q1
  have hR:=akb hl hf hk
  simp +decide only[TF,q1,↓reduceIte]
  apply z;clear z
  refine aG 2 dN ?_
  apply WP.ret
  exact Ends.P (d:= .aQ [_,_,_,_,_]) rfl (by rw[hR];exact Le.trans (Le.of_eq (by simp +decide only[St.get,lk,W,ak,fA,↓reduceIte])) Aw)
 have hk2:=hk1
 rw[aht] at hk2
 have hk0:decide ((k:Int)<0)=false:=decide_eq_false (by omega)
 have hwk:IntKind.wrap .i64 ((k:Int)+1)=((k+1:Nat):Int):=by rw[wrap_i64 (by omega) (by omega)];rfl
 have hb1:(k≤(s.drop (i+1)).length)=True:=eq_true (by omega)
 have hb2:(k+1≤(s.drop (i+1)).length)=True:=eq_true (by omega)
 refine jd 1 dN (EM (s.drop (i+1)) 58 (by simp only[aht];omega)) hk ?_
 refine WP.S dN fun _ z=>?_
 simp +decide only[TF,↓reduceIte]
 refine aj.P (Ov (s.take i) (by simp only[adg];omega)) rfl rfl ?_
 simp +decide only[TF,jw,As.cs,↓reduceIte]
 apply z;clear z
 apply WP.seq
 refine WP.S dN fun _ z=>?_
 refine ah.take 3 fun J hJ=>?_
 simp +decide only[TF,↓reduceIte]
 refine hJ _ _ ?_;clear hJ J
 refine ah.part 36 rfl (fun q2=>?_) (fun q2=>?_)
 ·have hR:=aaN hl q2
  simp +decide only[TF,q2,↓reduceIte]
  apply z;clear z
  refine aG 2 dN ?_
  apply WP.ret
  exact Ends.P (d:= .aQ [_,_,_,_,_]) rfl (by rw[hR];exact Le.trans (Le.of_eq (by simp +decide only[St.get,lk,W,ak,fA,↓reduceIte])) Aw)
 have hf:=q2
 simp +decide only[TF,hk0,hb1,q2,↓reduceIte]
 refine aj.P (iI ((s.drop (i+1)).take k) (by simp only[aht,adg];omega)) rfl rfl ?_
 simp +decide only[TF,↓reduceIte]
 apply z;clear z
 refine WP.cond rfl (fun q3=>?_) (fun q3=>?_)
 ·have hR:=aof hl hf hk (by simpa using q3)
  refine aJ 1 dN q3 ?_
  apply WP.ret
  exact Ends.P (d:= .aQ [_,_,_,_,_]) rfl (by rw[hR];exact Le.trans (Le.of_eq (by simp +decide only[St.get,lk,W,ak,fA,↓reduceIte])) Aw)
 have hw:bg ((s.drop (i+1)).take k)=true:=by simpa using q3
 refine zG6 4 dN (V_ ((s.drop (i+1)).drop (k+1)) (by simp only[aht];omega)) hwk hb2 q3 @ajy.{0} @BQ.eq_def ?_
 refine WP.cond rfl (fun q4=>?_) (fun q4=>?_)
 ·have hR:=af9 hl hf hk q4
  refine aJ 1 dN q4 ?_
  apply WP.ret
  exact Ends.P (d:= .aQ [_,_,_,_,_]) rfl (by rw[hR];exact Le.trans (Le.of_eq (by simp +decide only[St.get,lk,W,ak,fA,↓reduceIte])) Aw)
 have hR:=akd hl hf hk q4 hw
 refine OY 2 dN hwk hb1 hb2 q4 @ajy.{0} ?_
 apply WP.ret
 exact Ends.P (d:= .aQ [_,_,_,_,_]) rfl (by rw[hR];exact Le.of_eq (by simp +decide only[Px,As.cs,St.get,lk,W,ak,fA,↓reduceIte]))
set_option maxRecDepth 20000
theorem aog {α:Type}{o:List α}{j:Nat}(h:j<o.length):o.isEmpty=false:=by cases o with
 |nil=>simp at h
 |cons=>rfl
def og (ms:TS):List (List D):=ms.map fun e=>e.2.1.cs
def ou (ms:TS):Prop:=∀e∈ms,e.2.1.id=e.1
def xu:TS→List UInt8→Nat
 | [],_=>0
 |e::ms,s=>if e.2.1.id=s then 0 else xu ms s+1
theorem Si (e:List UInt8 × jO × Nat)(ms:TS)(s:List UInt8):xu (e::ms) s=if e.2.1.id=s then 0 else xu ms s+1:=rfl
def UD (ms:TS)(s:List UInt8):Int:=if xu ms s<ms.length then (xu ms s:Int) else -1
theorem agH {ms:TS}{s:List UInt8}{k:Nat}(hk:k<ms.length)(hI:xu ms s=k+xu (ms.drop k) s)(h:(ms[k].2.1.id == s)=true):UD ms s=k:=by
 rw[bZ hk] at hI
 rw[Si] at hI
 rw[if_pos (by simpa using h)] at hI
 unfold UD
 rw[if_pos (by omega)]
 omega
theorem acX {ms:TS}{s:List UInt8}{k:Nat}(hk:k<ms.length)(hI:xu ms s=k+xu (ms.drop k) s)(h:(ms[k].2.1.id == s)=false):xu ms s=(k+1)+xu (ms.drop (k+1)) s:=by
 rw[bZ hk] at hI
 rw[Si] at hI
 rw[if_neg (by simpa using h)] at hI
 omega
theorem agI {ms:TS}{s:List UInt8}{k:Nat}(hk:ms.length≤k)(hI:xu ms s=k+xu (ms.drop k) s):UD ms s=-1:=by
 unfold UD
 rw[if_neg (by omega)]
theorem Sj:∀{ms:TS},ou ms→∀(s:List UInt8),(gu ms s=none∧xu ms s=ms.length)∨∃a n i,gu ms s=some a∧xu ms s=i∧ms[i]?=some (s,a,n)∧i<ms.length
 | [],_,s=> .inl ⟨rfl,rfl⟩
 |(k,p,n)::ms,h,s=>by
  have hk:p.id=k:=h (k,p,n) (by simp)
  unfold gu xu
  by_cases e:s=k
  ·subst e
   rw[if_pos rfl,if_pos hk]
   exact .inr ⟨p,n,0,rfl,rfl,rfl,by simp⟩
  ·rw[if_neg e,if_neg (by show ¬p.id=s;rw[hk];exact fun q=>e q.symm)]
   rcases Sj (fun e he=>h e (ahA _ he)) s with⟨h1,h2⟩ | ⟨a,m,i,h1,h2,h3,h4⟩
   ·exact .inl ⟨h1,by rw[h2];rfl⟩
   ·exact .inr ⟨a,m,i+1,h1,by rw[h2],by simpa using h3,by simpa using h4⟩
theorem Xn {ms:TS}(h:ou ms)(s:List UInt8):(gu ms s=none∧UD ms s=-1)∨∃(a:jO) (i:Nat),gu ms s=some a∧UD ms s=(i:Int)∧∃hi:i<ms.length,(ms[i]'hi).2.1=a∧xu ms s=i:=by
 rcases Sj h s with⟨h1,h2⟩ | ⟨a,n,i,h1,h2,h3,h4⟩
 ·exact .inl ⟨h1,by unfold UD;rw[if_neg (by omega)]⟩
 ·refine .inr ⟨a,i,h1,by unfold UD;rw[if_pos (by omega),h2],h4,?_,h2⟩
  rw[abt h4] at h3
  rw[al6 h3]
theorem xw (ms:TS):(og ms).length=ms.length:=by simp[og]
theorem aaZ {ms:TS}{k:Nat}(hk:k<ms.length):(og ms)[k]?=some [.str ms[k].2.1.id,.str ms[k].2.1.addr,.slice 6 ms[k].2.1.nk (ms[k].2.1.keys.map Key.cs) none,.int .i64 ms[k].2.1.f,.int .i64 ms[k].2.1.u]:=getM hk
theorem agJ {ms:TS}{c:Nat}{s:List UInt8}{x:jO}(h:gu ms s=none):og (FY ms c s x)=og ms++[x.cs]:=by
 unfold FY;rw[h];simp[og]
theorem Xo:∀{ms:TS} {x:jO},ou ms→ou (YB ms x.id x)
 | [],x,_=>by intro e he;simp[YB] at he
 |(k,p,n)::ms,x,h=>by
  unfold YB
  have ht:ou ms:=fun e he=>h e (ahA _ he)
  split
  ·rename_i e
   intro y hy
   rcases ael.1 hy with rfl|hy
   ·exact e
   ·exact ht y hy
  ·intro y hy
   rcases ael.1 hy with rfl|hy
   ·exact h (k,p,n) (by simp)
   ·exact Xo ht y hy
theorem ou.put {ms:TS}(h:ou ms)(c:Nat)(x:jO):ou (FY ms c x.id x):=by
 unfold FY
 split
 ·exact Xo h
 ·intro e he
  rcases List.mem_append.1 he with he|he
  ·exact h e he
  ·rw[ad1.1 he]
theorem ou.nil:ou []:=fun e he=>by cases he
def Xp (e:Int)(nl:Bool):Bool:=if e=0 then false else nl
theorem alY {e:Int}{nl:Bool}(h:(e != 0)=true):Xp e nl=nl:=if_neg (by simpa using h)
theorem Sl {nl:Bool}:Xp 0 nl=false:=rfl
theorem aoh {nl:Bool}:Xp 3 nl=nl:=rfl
theorem aoi {nl:Bool}:Xp 7 nl=nl:=rfl
theorem alZ {nl:Bool}:Xp 13 nl=nl:=rfl
@[simp] theorem aji {S:Nat→Prop}(ms:TS):(∀a∈og ms,∀d∈a,bY S d)↔True:=by
 simp only[iff_true]
 intro a ha d hd
 obtain⟨e,_,rfl⟩:=List.mem_map.1 ha
 simp only[jO.cs,ael,akg,or_false] at hd
 rcases hd with rfl|rfl|rfl|rfl|rfl <;> simp
@[simp] theorem aoZ {S:Nat→Prop}(ms:TS):(∀(d:D) (x:List D),x∈og ms→d∈x→bY S d)↔True:=by
 simp only[iff_true]
 exact fun d x hx hd=>(aji ms).2 trivial x hx d hd
set_option maxRecDepth 10000
abbrev zD:List Nat:=[0,1,4,5,12,24]
theorem EN (ms:TS)(nl:Bool)(hnl:nl=true→ms=[])(hln:ms.length≤1000)(s:List UInt8):aF Pr 71 [.ref 1 0,.str s] [(0,.aI 55 5 ms.length),(1,.box 117 [.slice 5 nl (og ms) (some 0)])] (.int .i64 (UD ms s)) [(0,.aI 55 5 ms.length),(1,.box 117 [.slice 5 nl (og ms) (some 0)])]:=by
 refine qX Tryz.func71 Tryz.ntmps71 ?_
 refine aG 4 zD ?_
 refine WP.lp [0,1] (X:={k:Nat // k≤ms.length∧xu ms s=k+xu (ms.drop k) s}) (fun x=>match x with| ⟨(k),_⟩=>[(5,.int .i64 k)]) (fun x=>match x with| ⟨(k),_⟩=>[(0,.aI 55 5 ms.length),(1,.box 117 [.slice 5 nl (og ms) (some 0)])]) (fun x=>match x with| ⟨(k),_⟩=>ms.length - k) (by simp +decide only[W,↓reduceIte];rfl) ?_ ⟨(0),⟨ada _,by simp⟩⟩ ?_
 rotate_left
 ·exact QB
 rintro ⟨k,⟨hk,hI⟩⟩
 dsimp only
 simp only[abS,abT]
 refine aJ 2 zD @xw ?_
 refine WP.cond rfl (fun q1=>?_) (fun q1=>?_)
 ·have hlt:=aO q1
  have hg:=aaZ hlt
  have hnf:=aX hnl hlt
  refine oC 4 zD q1 hg hnf ?_
  refine WP.cond rfl (fun q2=>?_) (fun q2=>?_)
  ·have hR:=agH hlt hI q2
   refine aJ 1 zD q2 ?_
   apply WP.ret
   exact zR2 hR hnf
  refine aJ 2 [] q2 ?_
  show ∃y,_∧Weak _ _ _
  refine⟨⟨k+1,?_⟩,?_,?_⟩
  ·exact⟨by omega,acX hlt hI q2⟩
  ·dsimp only;omega
  exact CP (aU hlt (show ms.length≤140737488355328 by omega)) hnf
 have hge:=aP q1
 have hR:=agI hge hI
 refine aJ 2 zD q1 ?_
 apply WP.ret
 exact Me hR
theorem acY:aF Pr 25 [] [] (.ref 0 0) [(0,.box 117 [.slice 0 true [] none])]:=by
 refine qX Tryz.func25 Tryz.ntmps25 ?_
 refine aG 2 [0] ?_
 apply WP.ret
 exact ZN
abbrev jK:List Nat:=[0,2,4,6,7,11,18,23,29]
theorem Zq (ms:TS)(nl:Bool)(hnl:nl=true→ms=[])(hln:ms.length≤1000)(hk:ou ms)(c:Nat)(p:jO)(hp:p.ok)(t:Int):aF Pr 26 [.ref 1 0,.agg [.str p.id,.str p.addr,.slice 6 p.nk (p.keys.map Key.cs) none,.int .i64 p.f,.int .i64 p.u],.int .i64 t] [(0,.aI 55 5 ms.length),(1,.box 117 [.slice 5 nl (og ms) (some 0)])] (.int .i64 (anch ms c p t).1) [(0,.aI 55 5 ((anch ms c p t).2.1).length),(1,.box 117 [.slice 5 (Xp (anch ms c p t).1 nl) (og ((anch ms c p t).2.1)) (some 0)])]:=by
 have hkn:=hp.2.2.1
 refine qX Tryz.func26 Tryz.ntmps26 ?_
 refine aJ 4 jK (V5 p hp) ?_
 refine WP.cond rfl (fun q1=>?_) (fun q1=>?_)
 ·have hR:=YE (ms:=ms) (c:=c) (t:=t) q1
  have hN:=alY (nl:=nl) q1
  refine aJ 1 jK q1 ?_
  apply WP.ret
  exact zR2 hR hN
 refine jd 3 jK (VJ t) q1 ?_
 refine WP.cond rfl (fun q2=>?_) (fun q2=>?_)
 ·have hR:=TP (ms:=ms) (c:=c) (t:=t) (by assumption) q2
  refine aJ 1 jK q2 ?_
  apply WP.ret
  exact zR2 hR @alZ
 refine aG 2 [] ?_
 rcases Xn hk p.id with⟨hF,hx⟩ | ⟨a,i,hF,hx,hi,ha,hp0⟩
 ·refine CO 5 jK (EN ms nl hnl hln p.id) q2 hx @xw ?_
  refine WP.cond rfl (fun q3=>?_) (fun q3=>?_)
  ·have hR:=aeS (ms:=ms) (c:=c) (t:=t) (by assumption) (by assumption) hF (by assumption)
   refine aJ 1 jK q3 ?_
   apply WP.ret
   exact zR2 hR @aoh
  have hR:=TQ (ms:=ms) (c:=c) (t:=t) (by assumption) (by assumption) hF (by assumption)
  have hke:=Nh q1
  have hnk:p.nk=false:=by cases h:p.nk with|false=>rfl|true=>exact absurd (hp.2.2.2.1 h) hke
  have aqK:(ms.length:Int)<256:=by have:=of_decide_eq_false q3;omega
  have hPN:og (FY ms c p.id p)=og ms++[[.str p.id,.str p.addr,.slice 6 false (p.keys.map Key.cs) none,.int .i64 p.f,.int .i64 p.u]]:=by rw[agJ hF,jO.cs,hnk]
  have hPS:=hPN.symm
  have hPL:(FY ms c p.id p).length=ms.length+1:=by rw[← xw,hPN];simp[xw]
  refine aG 1 [] ?_
  refine WP.S jK fun _ z=>?_
  simp +decide only[TF,q3,hnk,↓reduceIte]
  repeat (refine⟨⟨by (try simp only[abf,ac',adg,aht,abN,acS]);omega,by (try simp only[abf,ac',adg,aht,abN,acS]);omega⟩,?_⟩)
  apply z;clear z
  refine WP.weak (Weak.akO 2 55 [.str p.id,.str p.addr,.slice 6 false (p.keys.map Key.cs) (some 3),.int .i64 p.f,.int .i64 p.u] [.str p.id,.str p.addr,.slice 6 false (p.keys.map Key.cs) none,.int .i64 p.f,.int .i64 p.u] (by simp[lk]) ⟨Le.refl _,Le.refl _,Le.fg _,Le.refl _,Le.refl _,trivial⟩) ?_
  refine WP.D jK fun _ z=>?_
  simp +decide only[TF,hPS,hPL,xw,↓reduceIte]
  repeat (refine⟨⟨by (try simp only[abf,xw,ac',adg,aht,abN,acS]);omega,by (try simp only[abf,xw,ac',adg,aht,abN,acS]);omega⟩,?_⟩)
  refine z _ _ (by kernel_rfl) ?_;clear z
  refine aG 1 jK ?_
  apply WP.ret
  exact zR3 hR @Sl hPL
 have hi0:decide ((i:Int)≥0)=true:=decide_eq_true (by omega)
 have hR:=aeR (ms:=ms) (c:=c) (t:=t) (by assumption) (by assumption) hF
 refine oC 3 jK (EN ms nl hnl hln p.id) q2 hx ?_
 apply WP.ret
 exact zR2 hR @aoi
abbrev mD:List Nat:=[0,1,2,6,7,8,9,14,27]
theorem Py (ms:TS)(nl:Bool)(hnl:nl=true→ms=[])(hln:ms.length≤1000)(hk:ou ms)(s:List UInt8)(t:Int):aF Pr 129 [.ref 1 0,.str s,.int .i64 t] [(0,.aI 55 5 ms.length),(1,.box 117 [.slice 5 nl (og ms) (some 0)])] (nX ms s t) [(0,.aI 55 5 ms.length),(1,.box 117 [.slice 5 nl (og ms) (some 0)])]:=by
 refine qX Tryz.func129 Tryz.ntmps129 ?_
 refine aG 1 mD ?_
 rcases Xn hk s with⟨hF,hx⟩ | ⟨a,i,hF,hx,hi,ha,hp0⟩
 ·have hR:=YC (t:=t) hF
  refine jd 5 mD (EN ms nl hnl hln s) hx ?_
  apply WP.ret
  refine Ends.imp (d:= .aQ [_,_]) (.inr rfl) rfl (Le.of_eq (by rw[hR];simp +decide only[St.get,W,ak,aaI,Wh,↓reduceIte])) ?_ ?_ ?_
  ·simp
  ·simp[lk,aB]
  simp[lk]
 have hi0:decide ((i:Int)<0)=false:=decide_eq_false (by omega)
 have hg:=aaZ hi
 have hnf:=aX hnl hi
 refine zG6 8 mD (EN ms nl hnl hln s) (nV ms[i].2.1.f ms[i].2.1.u t 0) hnf hx hi0 hg ?_
 refine WP.cond rfl (fun q1=>?_) (fun q1=>?_)
 ·have hR:=YD hF (ha ▸ q1)
  rw[← ha] at hR
  refine aJ 1 mD q1 ?_
  apply WP.ret
  refine Ends.imp (d:= .aQ [_,_]) (.inr rfl) rfl (Le.of_eq (by rw[hR];simp +decide only[St.get,W,ak,aaI,Wh,↓reduceIte])) ?_ ?_ ?_
  ·simp
  ·simp[lk,aB,hnf]
  simp[lk]
 have hR:=Nj hF (ha ▸ q1)
 rw[← ha] at hR
 refine jd 2 mD hg q1 ?_
 apply WP.ret
 refine Ends.imp (d:= .aQ [_,_]) (.inr rfl) rfl (Le.of_eq (by rw[hR];simp +decide only[St.get,W,ak,aaI,jO.cs,↓reduceIte])) ?_ ?_ ?_
 ·simp
 ·simp[lk,aB,hnf]
 simp[lk]
set_option maxRecDepth 20000
def BG (l:RQ)(n:Int):RQ:=l.filter fun e=>decide (n<e.2.1.2)
theorem UE (l:RQ)(n:Int):BG l (aN n)=lH l n:=rfl
theorem ajj (n:Int):BG [] n=[]:=rfl
theorem Xq (e:List UInt8 × (List UInt8 × Int) × Nat)(l:RQ)(n:Int):BG (e::l) n=if decide (n<e.2.1.2)=true then e::BG l n else BG l n:=by
 unfold BG;rw[List.filter_cons]
theorem UF (l:RQ)(n:Int):(BG l n).length≤l.length:=List.length_filter_le _ _
@[simp] theorem ao0 {S:Nat→Prop}(l:RQ):(∀(e:List D) (x x_1:List UInt8) (x_2:Int) (x_3:Nat),(x,(x_1,x_2),x_3)∈l→jM (x,(x_1,x_2),x_3)=e→∀(d:D),d∈e→bY S d)↔True:=by
 simp only[iff_true]
 rintro e _ _ _ _ _ rfl
 exact (qL _).2 trivial
@[simp] theorem ao1 {S:Nat→Prop}(l:US):(∀(e:List D) (x:List UInt8) (x_1:Int) (x_2:Nat),(x,x_1,x_2)∈l→n_ (x,x_1,x_2)=e→∀(d:D),d∈e→bY S d)↔True:=by
 simp only[iff_true]
 rintro e _ _ _ _ rfl
 exact (UC _).2 trivial
theorem ajk (o:RQ)(x:List UInt8 × (List UInt8 × Int) × Nat):(o++[x]).isEmpty=false:=by cases o <;> rfl
set_option maxRecDepth 10000
theorem sH (self:List UInt8)(skew:Int)(l:RQ)(nl:Bool)(hnl:nl=true→l=[])(hn:l.length≤1000)(us:US)(nu:Bool)  : aF Pr 76 [.ref 1 0] [(0,.aI 126 3 l.length),(1,.box 114 [.bool true,.str self,.int .i64 skew,.slice 3 nl (l.map jM) (some 0),.ref 3 0]),(2,.aI 213 2 us.length),(3,.box 174 [.int .i64 256,.slice 2 nu (us.map n_) (some 2)])] (.bool true) [(0,.aI 126 3 l.length),(1,.box 114 [.bool true,.str self,.int .i64 skew,.slice 3 nl (l.map jM) (some 0),.ref 3 0]),(2,.aI 213 2 us.length),(3,.box 174 [.int .i64 256,.slice 2 nu (us.map n_) (some 2)])]:=by
 refine qX Tryz.func76 Tryz.ntmps76 ?_
 refine aG 2 [0,2] ?_
 apply WP.ret
 exact ZN
theorem uO (self:List UInt8)(skew:Int)(l:RQ)(nl:Bool)(hnl:nl=true→l=[])(hn:l.length≤1000)(us:US)(nu:Bool)(n:Int):aF Pr 77 [.ref 1 0,.int .i64 n] [(0,.aI 126 3 l.length),(1,.box 114 [.bool true,.str self,.int .i64 skew,.slice 3 nl (l.map jM) (some 0),.ref 3 0]),(2,.aI 213 2 us.length),(3,.box 174 [.int .i64 256,.slice 2 nu (us.map n_) (some 2)])] (.slice 3 (BG l n).isEmpty ((BG l n).map jM) (some 4)) [(0,.aI 126 3 l.length),(1,.box 114 [.bool true,.str self,.int .i64 skew,.slice 3 nl (l.map jM) (some 0),.ref 3 0]),(2,.aI 213 2 us.length),(3,.box 174 [.int .i64 256,.slice 2 nu (us.map n_) (some 2)]),(4,.aI 126 3 (BG l n).length)]:=by
 refine qX Tryz.func77 Tryz.ntmps77 ?_
 refine aG 5 [0,1,4,5,6,13,25] ?_
 refine WP.lp [0,1] (X:={x:(Nat) × (RQ) // match x with|(k,o)=>k≤l.length∧o.length≤k∧BG l n=o++BG (l.drop k) n}) (fun x=>match x with| ⟨(k,o),_⟩=>[(5,.slice 3 o.isEmpty (o.map jM) (some 4)),(6,.int .i64 k)]) (fun x=>match x with| ⟨(k,o),_⟩=>[(0,.aI 126 3 l.length),(1,.box 114 [.bool true,.str self,.int .i64 skew,.slice 3 nl (l.map jM) (some 0),.ref 3 0]),(2,.aI 213 2 us.length),(3,.box 174 [.int .i64 256,.slice 2 nu (us.map n_) (some 2)]),(4,.aI 126 3 o.length)]) (fun x=>match x with| ⟨(k,o),_⟩=>l.length - k) (by simp +decide only[W,↓reduceIte];rfl) ?_ ⟨(0,[]),⟨ada _,ag4 _,rfl⟩⟩ ?_
 rotate_left
 ·refine Weak.trans (Weak.store (st':=⟨[(0,.ref 1 0),(1,.int .i64 n),(6,.int .i64 0),(5,.slice 0 true [] none)],[(0,.aI 126 3 l.length),(1,.box 114 [.bool true,.str self,.int .i64 skew,.slice 3 nl (l.map jM) (some 0),.ref 3 0]),(2,.aI 213 2 us.length),(3,.box 174 [.int .i64 256,.slice 2 nu (us.map n_) (some 2)])]⟩) (by simp[St.get,lk,W,Le.refl]) (by simp[lk]) (by simp[lk]) (by simp[aB,lk]) (by simp[lk])) ?_;refine Weak.trans (Weak.ghost 4 126 3 (F':=[(0,.ref 1 0),(1,.int .i64 n),(6,.int .i64 0),(5,.slice 3 true [] (some 4))]) (σ':=[(0,.aI 126 3 l.length),(1,.box 114 [.bool true,.str self,.int .i64 skew,.slice 3 nl (l.map jM) (some 0),.ref 3 0]),(2,.aI 213 2 us.length),(3,.box 174 [.int .i64 256,.slice 2 nu (us.map n_) (some 2)])]) (by simp[lk]) (by simp[zO,wJ]) (by simp[BK,OT,PV,wJ])) ?_;exact QB
 rintro ⟨⟨k,o⟩,⟨hk,hol,hI⟩⟩
 dsimp only
 simp only[abS,abT]
 refine aG 2 [0,1,4,5,6,13,25] ?_
 refine WP.cond rfl (fun q1=>?_) (fun q1=>?_)
 ·have hlt:=aO q1
  have hg:(l.map jM)[k]?=some [.str l[k].1,.str l[k].2.1.1,.int .i64 l[k].2.1.2]:=getM hlt
  have hnf:=aX hnl hlt
  rw[bZ hlt] at hI
  refine oC 4 [0,1,4,5,6,13,25] q1 hg hnf ?_
  refine WP.cond rfl (fun q2=>?_) (fun q2=>?_)
  ·rw[Xq,if_pos q2] at hI
   have hkp:=q2
   refine WP.R fun _ z=>?_
   simp +decide only[TF,hg,q2,↓reduceIte]
   refine⟨⟨by simp only[abf,ac',abN,acS];omega,by simp only[abf,ac',abN,acS];omega⟩,?_⟩
   apply z;clear z
   show WP ..
   refine aG 1 [] ?_
   show ∃y,_∧Weak _ _ _
   refine⟨⟨(k+1,o++[l[k]]),?_⟩,?_,?_⟩
   ·exact⟨by dsimp only;omega,by simp;omega,by simpa using hI⟩
   ·dsimp only;omega
   exact Weak.store (by simp[St.get,lk,Le.refl,jM,ajk,aU hlt (show l.length≤140737488355328 by omega)]) (by simp[lk,hnf]) (by simp[lk];rintro e (⟨_,_,_,_,_,rfl⟩|rfl) <;> simp) (by simp[aB,lk]) (by simp[lk])
  rw[Xq,if_neg (by rw[q2];decide)] at hI
  refine aJ 2 [] q2 ?_
  show ∃y,_∧Weak _ _ _
  refine⟨⟨(k+1,o),?_⟩,?_,?_⟩
  ·exact⟨by dsimp only;omega,by dsimp only;omega,hI⟩
  ·dsimp only;omega
  exact CP (aU hlt (show l.length≤140737488355328 by omega)) hnf
 have hge:=aP q1
 rw[dR hge,ajj,akz] at hI
 refine aJ 2 [0,1,4,5,6,13,25] q1 ?_
 apply WP.ret
 exact Me hI
theorem agK {r:Rc}(hr:r.ok){now:Int}{o:List (List UInt8)}(h:((BG r.rq (aN now)).map (·.1)).foldl lY []=o):oD r.rq now= .slice 1 o.isEmpty (o.map fun x=>[D.str x]) none:=by
 have hnd:((lH r.rq now).map (·.1)).Nodup:=by
  unfold lH
  exact (List.filter_sublist.map _).nodup hr.rq.keys
 have h2:((lH r.rq now).map (·.1)).foldl lY []=o:=h
 rw[Cj hnd] at h2
 unfold oD
 show D.slice 1 (bU _).isEmpty ((bU _).map _) none=_
 rw[h2]
theorem iR (n:Int):ay Pr 67 [.int .i64 n] (.int .i64 (aN n)):=by
 refine gK Tryz.func67 Tryz.ntmps67 ?_
 refine aJ 2 [0,2] @aob ?_
 apply WP.ret
 exact Ya
abbrev CJ:List Nat:=[0,1,4,5,6,7,10,18]
theorem Zr (r:Rc)(hr:r.ok)(nl nu:Bool)(hnl:nl=true→r.rq=[])(hnu:nu=true→r.us=[])(hn:r.rq.length≤1000)(now:Int):aF Pr 32 [.ref 1 0,.int .i64 now] [(0,.aI 126 3 r.rq.length),(1,.box 114 [.bool true,.str r.self,.int .i64 r.skew,.slice 3 nl (r.rq.map jM) (some 0),.ref 3 0]),(2,.aI 213 2 r.us.length),(3,.box 174 [.int .i64 256,.slice 2 nu (r.us.map n_) (some 2)])] (oD r.rq now) [(0,.aI 126 3 r.rq.length),(1,.box 114 [.bool true,.str r.self,.int .i64 r.skew,.slice 3 nl (r.rq.map jM) (some 0),.ref 3 0]),(2,.aI 213 2 r.us.length),(3,.box 174 [.int .i64 256,.slice 2 nu (r.us.map n_) (some 2)])]:=by
 have hwl:=UF r.rq (aN now)
 refine qX Tryz.func32 Tryz.ntmps32 ?_
 refine oC 10 CJ (sH r.self r.skew r.rq nl hnl hn r.us nu) (iR now) (uO r.self r.skew r.rq nl hnl hn r.us nu (aN now)) ?_
 refine WP.lp [5] (X:={x:(Nat) × (List (List UInt8)) // match x with|(k,o)=>k≤(BG r.rq (aN now)).length∧o.length≤k∧((BG r.rq (aN now)).map (·.1)).foldl lY []=(((BG r.rq (aN now)).drop k).map (·.1)).foldl lY o}) (fun x=>match x with| ⟨(k,o),_⟩=>[(6,.slice 1 o.isEmpty (o.map fun x=>[.str x]) none),(7,.int .i64 k)]) (fun x=>match x with| ⟨(k,o),_⟩=>[(0,.aI 126 3 r.rq.length),(1,.box 114 [.bool true,.str r.self,.int .i64 r.skew,.slice 3 nl (r.rq.map jM) (some 0),.ref 3 0]),(2,.aI 213 2 r.us.length),(3,.box 174 [.int .i64 256,.slice 2 nu (r.us.map n_) (some 2)]),(4,.aI 126 3 (BG r.rq (aN now)).length)]) (fun x=>match x with| ⟨(k,o),_⟩=>(BG r.rq (aN now)).length - k) (by simp +decide only[W,↓reduceIte];rfl) ?_ ⟨(0,[]),⟨ada _,ag4 _,rfl⟩⟩ ?_
 rotate_left
 ·exact zY1 @Le.nil
 rintro ⟨⟨k,o⟩,⟨hk,hol,hI⟩⟩
 dsimp only
 simp only[abS,abT]
 refine aG 2 CJ ?_
 refine WP.cond rfl (fun q1=>?_) (fun q1=>?_)
 ·have hlt:=aO q1
  have hg:((BG r.rq (aN now)).map jM)[k]?=some [.str (BG r.rq (aN now))[k].1,.str (BG r.rq (aN now))[k].2.1.1,.int .i64 (BG r.rq (aN now))[k].2.1.2]:=getM hlt
  have hnf:=aog hlt
  rw[bZ hlt,ag1,akk] at hI
  refine CO 5 [] (B_ o o.isEmpty (BG r.rq (aN now))[k].1 (by omega) (fun h=>by simpa using h)) q1 hg hnf ?_
  show ∃y,_∧Weak _ _ _
  refine⟨⟨(k+1,lY o (BG r.rq (aN now))[k].1),?_⟩,?_,?_⟩
  ·exact⟨by dsimp only;omega,by have:=Nr o (BG r.rq (aN now))[k].1;dsimp only;omega,hI⟩
  ·dsimp only;omega
  exact CP (aU hlt (show (BG r.rq (aN now)).length≤140737488355328 by omega)) hnf
 have hge:=aP q1
 rw[dR hge,aj9,apF] at hI
 have hR:oD r.rq now= .slice 1 o.isEmpty (o.map fun x=>[.str x]) none:=by rw[agK hr hI]
 refine aJ 2 CJ q1 ?_
 apply WP.ret
 exact Me hR
set_option maxRecDepth 20000
theorem agL {α:Type}(l:jG α)(s:List UInt8):decide (OI l s 0≥0)=(gZ l s).isSome:=by
 rcases rF s l 0 with⟨h1,h2⟩ | ⟨i,_,h1,_,h2,_⟩
 ·rw[h1,h2];rfl
 ·rw[h1,h2];simp
theorem Xr {r:Rc}{id:List UInt8}{now:Int}:(fE r.rq now).contains id=decide (OI (BG r.rq (aN now)) id 0≥0):=by
 rw[agL,UE]
 unfold fE
 cases h:gZ (lH r.rq now) id with
 |none=>
  have:=Gq.1 h
  rw[Option.isSome_none,Bool.eq_false_iff]
  intro hc
  rw[List.contains_iff_mem,oQ] at hc
  exact this hc
 |some x=>
  obtain⟨n,hn⟩:=WW h
  rw[Option.isSome_some,List.contains_iff_mem,oQ]
  exact List.mem_map.2 ⟨_,hn,rfl⟩
theorem EO (r:Rc)(now:Int):(fE r.rq now).length=(BG r.rq (aN now)).length:=by
 unfold fE;rw[dL,ac',UE]
theorem agM {r:Rc}{id p:List UInt8}{u now:Int}(h:(fE r.rq now).contains id=false):qx (lH r.rq now) r.rc id (p,u)=lH r.rq now++[(id,(p,u),r.rc)]:=by
 unfold qx
 have:gZ (lH r.rq now) id=none:=by
  rw[Xr,agL,UE] at h
  cases h2:gZ (lH r.rq now) id with
  |none=>rfl
  |some x=>rw[h2] at h;cases h
 rw[this]
end Go.Proofs
