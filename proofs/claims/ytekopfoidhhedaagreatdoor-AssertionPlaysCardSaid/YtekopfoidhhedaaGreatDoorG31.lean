import Derived.Test.YtekopfoidhhedaaGreatDoorG13
import Derived.Test.YtekopfoidhhedaaGreatDoorG30
import Derived.Test.YtekopfoidhhedaaGreatDoorG23
import Derived.Test.YtekopfoidhhedaaGreatDoorG21
set_option linter.unusedVariables false
set_option linter.unusedSimpArgs false
set_option linter.unnecessarySimpa false
set_option maxRecDepth 10000
namespace Go.Proofs
open Go Go.Id
set_option maxHeartbeats 4000000
theorem Gy (r:Rc)(hr:r.ok)(now:Int):aF Pr 31 [.ref 3 0,.int .i64 now] [(2,.map (mE lV r.rq) r.rc),(3,.box 107 [.str r.self,.int .i64 r.skew,.map 2,.ref 4 0]),(4,.box 171 [.map 5,.int .i64 256]),(5,.map (mE qE r.us) r.uc)] (oD r.rq now) [(2,.map (mE lV r.rq) r.rc),(3,.box 107 [.str r.self,.int .i64 r.skew,.map 2,.ref 4 0]),(4,.box 171 [.map 5,.int .i64 256]),(5,.map (mE qE r.us) r.uc)]:=by
 have he:=hr.rq.es lV
 have hnr:=hr.nrq
 refine qX Tryz.func31 Tryz.ntmps31 ?_
 refine aJ 3 [0,1,10] (Gx r) ?_
 refine WP.cond (b:=false) (by rfl) nofun (fun _=>?_)
 refine aG 5 [0,1,5,15] ?_
 refine WP.lp [1,15] (X:={x:(List Nat) × (List (List UInt8)) // match x with|(seen,ks)=>WI r.rq now seen ks}) (fun x=>match x with| ⟨(seen,ks),_⟩=>[(5,.slice 1 (ks).isEmpty ((ks).map (fun x=>[D.str x])) (some 11))]) (fun x=>match x with| ⟨(seen,ks),_⟩=>[(11,.aI 9 1 ks.length),(6,.dZ 2 r.rc seen r.rc),(2,.map (mE lV r.rq) r.rc),(3,.box 107 [.str r.self,.int .i64 r.skew,.map 2,.ref 4 0]),(4,.box 171 [.map 5,.int .i64 256]),(5,.map (mE qE r.us) r.uc)]) (fun x=>match x with| ⟨(seen,ks),_⟩=>(jc (mE lV r.rq) seen).length) (by simp +decide only[W,↓reduceIte];rfl) ?_ ⟨([],[]),WI.nil _ _⟩ ?_
 rotate_left
 · refine Weak.trans (Weak.store (st':=⟨[(1,.int .i64 now),(15,.ref 6 0),(5,.slice 0 true [] none)],[(6,.dZ 2 r.rc [] r.rc),(2,.map (mE lV r.rq) r.rc),(3,.box 107 [.str r.self,.int .i64 r.skew,.map 2,.ref 4 0]),(4,.box 171 [.map 5,.int .i64 256]),(5,.map (mE qE r.us) r.uc)]⟩) (by simp[St.get,lk,W,Le.refl]) (by simp[lk]) (by simp[lk]) (by simp[aB,lk]) (by simp[lk])) ?_;refine Weak.trans (Weak.ghost 11 9 1 (F':=[(1,.int .i64 now),(15,.ref 6 0),(5,.slice 1 true [] (some 11))]) (σ':=[(6,.dZ 2 r.rc [] r.rc),(2,.map (mE lV r.rq) r.rc),(3,.box 107 [.str r.self,.int .i64 r.skew,.map 2,.ref 4 0]),(4,.box 171 [.map 5,.int .i64 256]),(5,.map (mE qE r.us) r.uc)]) (by simp[lk]) (by simp[zO,wJ]) (by simp[BK,OT,PV,wJ])) ?_;exact QB
 rintro ⟨⟨seen,ks⟩,hM⟩
 dsimp only
 simp only[abS,abT]
 dsimp only at hM
 have hks:=hM.len
 refine WP.seq ?_
 refine WP.KL (by kernel_rfl) rfl rfl rfl rfl rfl rfl (fun e h=>he.lt e h) (ag4 _) ?_ ?_
 ·
  intro hl0 K hK
  simp +decide only[TF,↓reduceIte]
  refine hK _ _ ?_;clear hK K
  show WP _ _ _ _ _ _
  refine WP.seq ?_
  refine WP.cond (b:=false) (by rfl) nofun (fun _=>?_)
  refine aG 1 [] ?_
  rcases ks with _ | ⟨a0,k0⟩
  ·
   have hS:=hM.done hr.rq hl0
   have hL:=RI hS
   rw[Q9] at hL
   refine aJ 2 [4,5] (aeV) ?_
   refine WP.ret ?_
   refine Ends.imp (.inr rfl) rfl ((Le.trans (Le.fg _) hL)) ?_ ?_ ?_
   · simp
   · simp[lk,aB]
   · simp[lk]
  ·
   have hS:=hM.done hr.rq hl0
   have hL:=RI hS
   refine WP.weak (st':=⟨[(5,.slice 1 false ((a0::k0).map fun x=>[D.str x]) (some 11))],[(11,.aI 9 1 (a0::k0).length),(2,.map (mE lV r.rq) r.rc),(3,.box 107 [.str r.self,.int .i64 r.skew,.map 2,.ref 4 0]),(4,.box 171 [.map 5,.int .i64 256]),(5,.map (mE qE r.us) r.uc)]⟩) (Weak.store (by simp[St.get,lk,Le.refl]) (by simp[lk]) (by simp[lk]) (by simp[aB,lk]) (by simp[lk])) ?_
   refine WP.weak (st':=⟨[(5,.arr 11 1 (a0::k0).length)],[(11,.arr 9 ((a0::k0).map .str)),(2,.map (mE lV r.rq) r.rc),(3,.box 107 [.str r.self,.int .i64 r.skew,.map 2,.ref 4 0]),(4,.box 171 [.map 5,.int .i64 256]),(5,.map (mE qE r.us) r.uc)]⟩) ?_ ?_
   ·
    rw[← ajV (a0::k0)]
    exact Weak.ahs 11 9 1 ((a0::k0).map fun x=>[D.str x]) 5 (by simp[St.get,lk]) (by simp[lk]) (anC 11 _) (by simp[lk]) (by intro b hb;simp[lk,hb]) (by simp[BFr,alp]) (by simp) (by simp[lk,akP])
   refine aJ 2 [4,5] (Nl 11 (a0::k0) (by omega)) ?_
   refine WP.weak (st':=⟨[(4,.slice 1 false ((bU (a0::k0)).map fun x=>[D.str x]) (some 11))],[(11,.aI 9 1 (bU (a0::k0)).length),(2,.map (mE lV r.rq) r.rc),(3,.box 107 [.str r.self,.int .i64 r.skew,.map 2,.ref 4 0]),(4,.box 171 [.map 5,.int .i64 256]),(5,.map (mE qE r.us) r.uc)]⟩) ?_ ?_
   ·
    refine Weak.trans (Weak.keep [4]) ?_
    simp only[keep,ins,W,↓reduceIte,Nat.reduceEqDiff]
    exact Weak.akB 11 9 1 ((bU (a0::k0)).map fun x=>[D.str x]) 4 (by simp[St.get,lk,dL]) (by simp[lk,ajV]) (aln _) (by simp) (by simp (decide:=true) [ArF,ArD,dL]) (by simp) (by intro i hi;simp_all[lk]) (by simp[lk]) (by simp[aB])
   refine WP.ret ?_
   refine Ends.imp (.inr rfl) rfl ((Le.trans (Le.fg _) hL)) ?_ ?_ ?_
   · simp
   · simp[lk,aB]
   · simp[lk]
 ·
  intro e hel K hK
  obtain⟨⟨k,x,n⟩,hkm,rfl⟩:=List.mem_map.1 (vM hel).1
  have hns:=(vM hel).2
  simp +decide only[TF,↓reduceIte]
  refine hK _ _ ?_;clear hK K
  show WP _ _ _ _ _ _
  refine WP.seq ?_
  refine WP.cond (b:=true) (by rfl) (fun _=>?_) nofun
  refine aG 3 [] ?_
  refine WP.G_ (by kernel_rfl) rfl rfl rfl rfl rfl rfl (vM hel).1 he.born ?_
  ·
   intro K hK
   simp +decide only[TF,lV,↓reduceIte]
   refine hK _ _ ?_;clear hK K
   show WP _ _ _ _ _ _
   refine WP.sd [1,5,6,15,25] (by kernel_rfl) (by kernel_rfl) fun K hK=>?_
   simp +decide only[TF,↓reduceIte]
   refine aj.pure (BD _ _) rfl rfl (by simp[-List.map_take]) ?_
   simp +decide only[TF,qC,↓reduceIte]
   refine hK _ _ (by kernel_rfl) ?_
   clear hK K
   refine WP.cond (b:=_) rfl (fun q1=>?_) (fun q1=>?_)
   ·
    refine WP.region (by kernel_rfl) fun K hK=>?_
    simp +decide only[TF,q1,↓reduceIte]
    repeat (refine⟨⟨by (try simp only[abf,ac',abN,acS]);omega,by (try simp only[abf,ac',abN,acS]);omega⟩,?_⟩)
    refine hK _ _ ?_;clear hK K
    show ∃y,_∧Weak _ _ _
    refine⟨⟨(seen++[n],ks++[k]),hM.step hr.rq hkm hns q1⟩,TT hel,?_⟩
    exact Weak.store (by simp[St.get,lk,Le.refl,aeD,-List.append_assoc]) (by simp[lk,-List.append_assoc]) (by simp[lk,-List.map_append,-List.mem_append,-List.append_assoc]) (by simp[aB,lk]) (by simp[lk])
   ·
    refine WP.skip ?_
    show ∃y,_∧Weak _ _ _
    refine⟨⟨(seen++[n],ks),hM.skip hr.rq hkm hns q1⟩,TT hel,?_⟩
    exact Weak.store (by simp[St.get,lk,W,Le.refl,-List.append_assoc,q1]) (by simp[lk,-List.append_assoc]) (by simp[lk,-List.map_append,-List.mem_append,-List.append_assoc]) (by simp[aB,lk]) (by simp[lk])
theorem Pq (now:Int):ay Pr 31 [.aV,.int .i64 now] (.slice 0 true [] none):=by
 refine gK Tryz.func31 Tryz.ntmps31 ?_
 refine aJ 5 [0,1,4,10] (BF) ?_
 apply WP.ret
 exact Ya
set_option maxRecDepth 10000
theorem alL (us:US)(c:Nat)(t:Int)(h:us.length≤200):aF Pr 146 [.ref 4 0,.int .i64 t] [(4,.box 171 [.map 5,.int .i64 256]),(5,.map (mE qE us) c)] (.bool true) [(4,.box 171 [.map 5,.int .i64 256]),(5,.map (mE qE us) c)]:=by
 have hlt:=anT h
 refine qX Tryz.func146 Tryz.ntmps146 ?_
 refine aJ 2 [0,1,4] hlt ?_
 apply WP.ret
 exact ZN
abbrev qF:List Nat:=[0,1,2,3,8,9,10,11,12,15,29,33,37,44]
theorem anU (us:US)(c:Nat)(id:List UInt8)(u now:Int)(h:us.length≤200)(hid:id.length≤140737488355328):aF Pr 87 [.ref 4 0,.str id,.int .i64 u,.int .i64 now] [(4,.box 171 [.map 5,.int .i64 256]),(5,.map (mE qE us) c)] (.int .i64 (gG us c id u now).1) [(4,.box 171 [.map 5,.int .i64 256]),(5,.map (mE qE (gG us c id u now).2.1) (gG us c id u now).2.2)]:=by
 refine qX Tryz.func87 Tryz.ntmps87 ?_
 refine aJ 5 qF (ai1 us c) ?_
 refine WP.S qF fun _ z=>?_
 simp +decide only[TF,↓reduceIte]
 refine aj.P (BD _ _) rfl rfl ?_
 simp +decide only[TF,qC,↓reduceIte]
 refine aj.P (BD _ _) rfl rfl ?_
 simp +decide only[TF,qC,↓reduceIte]
 apply z;clear z
 rcases hF:gZ us id with _|old
 ·refine oC 4 qF (S_ id (by omega)) hF @aaK ?_
  refine WP.cond rfl (fun q1=>?_) (fun q1=>?_)
  ·have hR:=W_ (us:=us) (c:=c) (u:=u) (now:=now) (by simpa using q1)
   refine aJ 1 qF q1 ?_
   apply WP.ret
   exact Me hR
  have hw:bg id=true:=by simpa using q1
  refine aJ 1 qF q1 ?_
  refine WP.cond rfl (fun q2=>?_) (fun q2=>?_)
  ·have hR:=Oj (us:=us) (c:=c) hw q2
   refine aJ 1 qF q2 ?_
   apply WP.ret
   exact Me hR
  have h13:=q2
  have hR:=Uo (c:=c) hw h13 hF
  refine aJ 2 qF q2 ?_
  refine WP.S qF fun _ z=>?_
  simp +decide only[TF,↓reduceIte]
  refine aj.I (alL us c _ h) rfl rfl ?_
  simp +decide only[TF,↓reduceIte]
  apply z;clear z
  refine jd 4 qF @af5 @aaJ ?_
  apply WP.ret
  exact Me hR
 refine CO 4 qF (S_ id (by omega)) hF @aaK @qE.eq_def ?_
 refine WP.cond rfl (fun q3=>?_) (fun q3=>?_)
 ·have hR:=W_ (us:=us) (c:=c) (u:=u) (now:=now) (by simpa using q3)
  refine aJ 1 qF q3 ?_
  apply WP.ret
  exact Me hR
 have hw:bg id=true:=by simpa using q3
 refine aJ 1 qF q3 ?_
 refine WP.cond rfl (fun q4=>?_) (fun q4=>?_)
 ·have hR:=Oj (us:=us) (c:=c) hw q4
  refine aJ 1 qF q4 ?_
  apply WP.ret
  exact Me hR
 have h13:=q4
 refine aJ 1 qF q4 ?_
 refine WP.cond rfl (fun q5=>?_) (fun q5=>?_)
 ·have hR:=Un (c:=c) hw h13 hF q5
  refine aJ 1 qF q5 ?_
  apply WP.ret
  exact Me hR
 have hR:=af4 (c:=c) hw h13 hF q5
 refine oC 5 qF q5 @af5 @aaJ ?_
 apply WP.ret
 exact Me hR
theorem Ai (r:Rc)(hr:r.ok)(id p:List UInt8)(u now:Int)(hid:id.length≤140737488355328)(hp:p.length≤140737488355328):aF Pr 38 [.ref 3 0,.str id,.str p,.int .i64 u,.int .i64 now] [(2,.map (mE lV r.rq) r.rc),(3,.box 107 [.str r.self,.int .i64 r.skew,.map 2,.ref 4 0]),(4,.box 171 [.map 5,.int .i64 256]),(5,.map (mE qE r.us) r.uc)] (.int .i64 (lI r id p u now).1) [(2,.map (mE lV (lI r id p u now).2.rq) (lI r id p u now).2.rc),(3,.box 107 [.str (lI r id p u now).2.self,.int .i64 (lI r id p u now).2.skew,.map 2,.ref 4 0]),(4,.box 171 [.map 5,.int .i64 256]),(5,.map (mE qE (lI r id p u now).2.us) (lI r id p u now).2.uc)]:=by
 have he:=hr.rq.es lV
 have hnr:=hr.nrq
 have hwl:=RG r.rq now
 refine qX Tryz.func38 Tryz.ntmps38 ?_
 refine aJ 3 [0,1,2,3,4,15] (Gx r) ?_
 refine WP.cond (b:=false) (by rfl) nofun (fun _=>?_)
 refine aG 2 [] ?_
 refine WP.sr [0,1,2,3,4,23] (by kernel_rfl) fun K hK=>?_
 simp +decide only[TF,↓reduceIte]
 refine aj.pure (kG id hid) rfl rfl (by simp[-List.map_take]) ?_
 refine ah.take 2 fun J hJ=>?_
 simp +decide only[TF,↓reduceIte]
 refine hJ _ _ ?_;clear hJ J
 refine ah.part 19 rfl (fun q1=>?_) (fun q1=>?_)
 ·
  simp only[adh] at q1
  have hR:=Y7 (r:=r) (p:=p) (u:=u) (now:=now) (by simpa using q1)
  simp +decide only[TF,q1,↓reduceIte]
  refine hK _ _ ?_;clear hK K
  refine WP.cond (b:=true) (by rfl) (fun _=>?_) nofun
  refine aG 1 [10] ?_
  refine WP.ret ?_
  refine Ends.imp (.inr rfl) rfl (Le.of_eq (by simp +decide only[St.get,W,hR,↓reduceIte])) ?_ ?_ ?_
  · simp
  · simp[lk,aB,hR]
  · simp[lk]
 ·
  simp only[afE] at q1
  have hw1:bg id=true:=(by simpa using q1)
  simp +decide only[TF,q1,↓reduceIte]
  refine aj.pure (kG p hp) rfl rfl (by simp[-List.map_take]) ?_
  simp +decide only[TF,↓reduceIte]
  refine hK _ _ ?_;clear hK K
  refine WP.cond (b:=_) rfl (fun q2=>?_) (fun q2=>?_)
  ·
   have hR:=Y8 (r:=r) (u:=u) (now:=now) hw1 (by simpa using q2)
   refine aJ 1 [10] q2 ?_
   refine WP.ret ?_
   refine Ends.imp (.inr rfl) rfl (Le.of_eq (by simp +decide only[St.get,W,hR,↓reduceIte])) ?_ ?_ ?_
   · simp
   · simp[lk,aB,hR]
   · simp[lk]
  ·
   have hw2:bg p=true:=(by simpa using q2)
   refine aG 2 [] ?_
   refine WP.sr [0,1,2,3,4,28] (by kernel_rfl) fun K hK=>?_
   simp +decide only[TF,q2,↓reduceIte]
   refine aj.pure (BD _ _) rfl rfl (by simp[-List.map_take]) ?_
   simp +decide only[TF,qC,↓reduceIte]
   refine aj.pure (BD _ _) rfl rfl (by simp[-List.map_take]) ?_
   simp +decide only[TF,qC,↓reduceIte]
   refine hK _ _ ?_;clear hK K
   refine WP.cond (b:=_) rfl (fun q3=>?_) (fun q3=>?_)
   ·
    have hR:=Y9 (r:=r) hw1 hw2 q3
    refine aJ 1 [10] q3 ?_
    refine WP.ret ?_
    refine Ends.imp (.inr rfl) rfl (Le.of_eq (by simp +decide only[St.get,W,hR,↓reduceIte])) ?_ ?_ ?_
    · simp
    · simp[lk,aB,hR]
    · simp[lk]
   ·
    have h13:=q3
    refine CO 4 [0,1,2,3,11,34] (Gy r hr now) (BZ (fE r.rq now) (fE r.rq now).isEmpty id (by omega) (fun e=>List.isEmpty_iff.1 e)) q3 @oD.eq_def ?_
    refine WP.cond (b:=_) rfl (fun q4=>?_) (fun q4=>?_)
    ·
     have hR:=aaL hw1 hw2 h13 q4
     refine aJ 1 [10] q4 ?_
     refine WP.ret ?_
     refine Ends.imp (.inr rfl) rfl (Le.of_eq (by simp +decide only[St.get,W,hR,↓reduceIte])) ?_ ?_ ?_
     · simp
     · simp[lk,aB,hR]
     · simp[lk]
    ·
     have h7:=q4
     refine aJ 3 [0,1,2,3,11,37] q4 ?_
     refine WP.cond (b:=_) rfl (fun q5=>?_) (fun q5=>?_)
     ·
      have hR:=af6 hw1 hw2 h13 h7 q5
      refine aJ 1 [10] q5 ?_
      refine WP.ret ?_
      refine Ends.imp (.inr rfl) rfl (Le.of_eq (by simp +decide only[St.get,W,hR,↓reduceIte])) ?_ ?_ ?_
      · simp
      · simp[lk,aB,hR]
      · simp[lk]
     ·
      have hR:=Xb hw1 hw2 h13 h7 q5
      refine aJ 4 [0,1,2,3,11,42] q5 ?_
      refine WP.lp [0,1,2,3,11,42] (X:={seen:List Nat // True}) (fun x=>match x with| ⟨(seen),_⟩=>[]) (fun x=>match x with| ⟨(seen),_⟩=>[(6,.dZ 2 r.rc seen r.rc),(2,.map (mE lV (lT r.rq now seen)) r.rc),(3,.box 107 [.str r.self,.int .i64 r.skew,.map 2,.ref 4 0]),(4,.box 171 [.map 5,.int .i64 256]),(5,.map (mE qE r.us) r.uc)]) (fun x=>match x with| ⟨(seen),_⟩=>(jc (mE lV (lT r.rq now seen)) seen).length) (by simp +decide only[W,↓reduceIte];rfl) ?_ ⟨([]),trivial⟩ ?_
      rotate_left
      · exact zY1 @acE
      rintro ⟨seen,_⟩
      dsimp only
      simp only[abT]
      refine WP.seq ?_
      refine WP.KL (by kernel_rfl) rfl rfl rfl rfl rfl rfl (fun e h=>(((hr.rq.filter _).es lV).lt e h)) (ag4 _) ?_ ?_
      ·
       intro hl0 K hK
       have hKD:=Za hl0
       simp +decide only[TF,hKD,↓reduceIte]
       refine hK _ _ ?_;clear hK K
       show WP _ _ _ _ _ _
       refine WP.seq ?_
       refine WP.cond (b:=false) (by rfl) nofun (fun _=>?_)
       refine aG 1 [] ?_
       refine WP.sd [] (by kernel_rfl) (by kernel_rfl) fun K hK=>?_
       simp +decide only[TF,↓reduceIte]
       refine aj.pure (BD _ _) rfl rfl (by simp[-List.map_take]) ?_
       simp +decide only[TF,qC,alK,ai2,↓reduceIte]
       refine hK _ _ (by kernel_rfl) ?_
       clear hK K
       refine aG 1 [10] ?_
       refine WP.ret ?_
       refine Ends.imp (.inr rfl) rfl (Le.of_eq (by simp +decide only[St.get,W,hR,↓reduceIte])) ?_ ?_ ?_
       · simp
       · simp[lk,aB,hR]
       · simp[lk]
      ·
       intro e hel K hK
       obtain⟨⟨k,x,n⟩,ap1,rfl⟩:=List.mem_map.1 (vM hel).1
       have hkm:=acF ap1
       simp +decide only[TF,↓reduceIte]
       refine hK _ _ ?_;clear hK K
       show WP _ _ _ _ _ _
       refine WP.seq ?_
       refine WP.cond (b:=true) (by rfl) (fun _=>?_) nofun
       refine aG 3 [] ?_
       refine WP.G_ (by kernel_rfl) rfl rfl rfl rfl rfl rfl (vM hel).1 ((hr.rq.filter _).es lV).born ?_
       ·
        intro K hK
        simp +decide only[TF,↓reduceIte]
        refine hK _ _ ?_;clear hK K
        show WP _ _ _ _ _ _
        refine aJ 1 [0,1,2,3,11,12,42,50] (BZ (fE r.rq now) (fE r.rq now).isEmpty k (by omega) (fun e=>List.isEmpty_iff.1 e)) ?_
        refine WP.cond (b:=_) rfl (fun q6=>?_) (fun q6=>?_)
        ·
         simp only[adh] at q6
         refine jd 1 [] q6 @af7 ?_
         show ∃y,_∧Weak _ _ _
         refine⟨⟨seen++[n],trivial⟩,Xc hel,?_⟩
         have hK9:=af8 (seen:=seen) hr.rq hkm (by simpa using q6)
         exact zY1 hK9
        ·
         simp only[afE] at q6
         refine WP.skip ?_
         show ∃y,_∧Weak _ _ _
         refine⟨⟨seen++[n],trivial⟩,Xc hel,?_⟩
         have hK9:=Y_ (seen:=seen) hr.rq hkm (by simpa using q6)
         exact zY1 hK9
theorem Pv (id p:List UInt8)(u now:Int):ay Pr 38 [.aV,.str id,.str p,.int .i64 u,.int .i64 now] (.int .i64 1):=by
 refine gK Tryz.func38 Tryz.ntmps38 ?_
 refine aJ 5 [0,1,2,3,4,10,15] (BF) ?_
 apply WP.ret
 exact Ya
def gV (c:UInt8)(s:List UInt8):Int:=Lib.lastIndexByte ⟨s.toArray⟩ c.toNat
theorem jH (c:UInt8)(s:List UInt8):(gV c s=-1∧c ∉ s)∨∃i:Nat,i<s.length∧gV c s=i∧s=s.take i++c::s.drop (i+1)∧c ∉ s.drop (i+1):=by
 have hat:∀j,j<s.length→((⟨s.toArray⟩:ByteArray).data[j]!)=(s[j]?).getD default:=by
  intro j hj
  simp[hj]
 have hsz:(⟨s.toArray⟩:ByteArray).size=s.length:=by simp[ByteArray.size]
 rcases Lib.lastIndexByte_spec ⟨s.toArray⟩ c.toNat with⟨h1,h2⟩ | ⟨i,hi,h1,h2,h3⟩
 ·refine .inl ⟨h1,fun hm=>?_⟩
  obtain⟨j,hj,he⟩:=aja.1 hm
  refine h2 j (by rw[hsz];exact hj) ?_
  rw[hat j hj,abt hj,alb,he]
 ·rw[hsz] at hi
  refine .inr ⟨i,hi,h1,?_,fun hm=>?_⟩
  ·have hc:s[i]=c:=by
    rw[hat i hi,abt hi,alb] at h2
    refine aoA.1 ?_
    omega
   have:=aki i s
   rw[anO hi,hc] at this
   exact this.symm
  ·obtain⟨j,hj,he⟩:=aja.1 hm
   rw[aht] at hj
   refine h3 (i+1+j) (by omega) (by rw[hsz];omega) ?_
   rw[hat _ (by omega),abt (by omega),alb]
   rw[List.getElem_drop] at he
   rw[he]
theorem EF (c:UInt8)(s:List UInt8)(hs:s.length≤1099511627776):ay Pr 141 [.str s,.int .u8 c.toNat] (.int .i64 (gV c s)):=D6 s c.toNat (by omega)
def Us (c:UInt8)(s:List UInt8):Option (List UInt8 × List UInt8):=if gV c s<0 then none else some (s.take (gV c s).toNat,s.drop ((gV c s).toNat+1))
theorem Zb {c:UInt8}{s:List UInt8}(h:gV c s=-1):Us c s=none:=by unfold Us;rw[if_pos (by omega)]
theorem xk {c:UInt8}{s:List UInt8}{i:Nat}(h:gV c s=i):Us c s=some (s.take i,s.drop (i+1)):=by unfold Us;rw[h,if_neg (by omega),Int.toNat_natCast]
theorem Ol {c:UInt8}{l r:List UInt8}(hr:c ∉ r):gV c (l++c::r)=l.length:=by
 rcases jH c (l++c::r) with⟨_,h⟩ | ⟨i,hi,h1,h2,h3⟩
 ·exact absurd (by simp) h
 ·rw[h1]
  have:i=l.length:=by
   rcases aps i l.length with h|h|h
   ·refine absurd ?_ h3
    rw[aoX (by omega)]
    simp
   ·exact h
   ·exfalso
    have h4:(l++c::r)[i]?=some c:=by
     have h5:((l++c::r).take i).length=i:=by rw[adg];omega
     rw[h2,ag7 (by omega),h5];simp
    rw[ag7 (by omega)] at h4
    obtain⟨j,hj⟩:∃j,i - l.length=j+1:=⟨i - l.length - 1,by omega⟩
    rw[hj,amG] at h4
    exact hr (ac8 h4)
  rw[this]
theorem Xd {c:UInt8}{l r:List UInt8}(hr:c ∉ r):Us c (l++c::r)=some (l,r):=by
 rw[xk (Ol hr)]
 simp
def l9 (s:List UInt8):Option (List UInt8 × List UInt8 × List UInt8 × As):=
 (Us 126 s).bind fun q=>if ((jF q.1).2 != 0)=true then none else (Us 58 q.2).bind fun k=>if ((UN k.2).2 != 0)=true then none else if bg k.1=false then none else some (q.1,k.1,k.2,(jF q.1).1)
def Xe (o:Option (List UInt8 × List UInt8 × List UInt8 × As)):D:=match o with
 |some q=> .aQ [.str q.1,.str q.2.1,.str q.2.2.1,.agg q.2.2.2.cs,.int .i64 0]
 |none=> .aQ [.str [],.str [],.str [],.agg bF.cs,.int .i64 4]
theorem Aj:Le (.aQ [.str [],.str [],.str [],.agg [.str [],.str [],.str [],.str [],.str [],.int .i64 0,.int .i64 0,.int .i64 0,.slice 0 true [] none],.int .i64 4]) (Xe none):=
 Le.aQ ⟨Le.refl _,Le.refl _,Le.refl _,Le.agg ⟨Le.refl _,Le.refl _,Le.refl _,Le.refl _,Le.refl _,Le.refl _,Le.refl _,Le.refl _,Le.nil _ _ _,trivial⟩,Le.refl _,trivial⟩
@[simp] theorem anV {S:Nat→Prop}(o:Option (List UInt8 × List UInt8 × List UInt8 × As)):bY S (Xe o)↔True:=by
 cases o with
 |none=>simp[Xe]
 |some q=>simp[Xe]
section
variable {s:List UInt8} {i k:Nat}
theorem aj' (h:gV 126 s=-1):l9 s=none:=by unfold l9;rw[Zb h];rfl
theorem aaN (h:gV 126 s=i)(h2:((jF (s.take i)).2 != 0)=true):l9 s=none:=by unfold l9;rw[xk h,adf,if_pos h2]
theorem akb (h:gV 126 s=i)(h2:((jF (s.take i)).2 != 0)=false)(h3:gV 58 (s.drop (i+1))=-1):l9 s=none:=by unfold l9;rw[xk h,adf,if_neg (by rw[h2];decide),Zb h3];rfl
theorem af9 (h:gV 126 s=i)(h2:((jF (s.take i)).2 != 0)=false)(h3:gV 58 (s.drop (i+1))=k)(h4:((UN ((s.drop (i+1)).drop (k+1))).2 != 0)=true):l9 s=none:=by
 unfold l9;rw[xk h,adf,if_neg (by rw[h2];decide),xk h3,adf,if_pos h4]
theorem akc (h:gV 126 s=i)(h2:((jF (s.take i)).2 != 0)=false)(h3:gV 58 (s.drop (i+1))=k)(h4:((UN ((s.drop (i+1)).drop (k+1))).2 != 0)=false)(h5:bg ((s.drop (i+1)).take k)=false):l9 s=none:=by
 unfold l9;rw[xk h,adf,if_neg (by rw[h2];decide),xk h3,adf,if_neg (by rw[h4];decide),if_pos h5]
theorem akd (h:gV 126 s=i)(h2:((jF (s.take i)).2 != 0)=false)(h3:gV 58 (s.drop (i+1))=k)(h4:((UN ((s.drop (i+1)).drop (k+1))).2 != 0)=false)(h5:bg ((s.drop (i+1)).take k)=true):
  l9 s=some (s.take i,(s.drop (i+1)).take k,(s.drop (i+1)).drop (k+1),(jF (s.take i)).1):=by
 unfold l9;rw[xk h,adf,if_neg (by rw[h2];decide),xk h3,adf,if_neg (by rw[h4];decide),if_neg (by rw[h5];decide)]
end
theorem RJ {s:List UInt8}{q:List UInt8 × List UInt8 × List UInt8 × As}(h:l9 s=some q):∃sig,Us 126 s=some (q.1,sig)∧Us 58 sig=some (q.2.1,q.2.2.1)∧jF q.1=(q.2.2.2,0)∧(UN q.2.2.1).2=0∧bg q.2.1=true:=by
 unfold l9 at h
 rw[ac9] at h
 obtain⟨⟨t,sig⟩,h1,h⟩:=h
 simp only at h
 split at h
 ·cases h
 rename_i hd
 rw[ac9] at h
 obtain⟨⟨key,code⟩,h2,h⟩:=h
 simp only at h
 split at h
 ·cases h
 rename_i hr
 split at h
 ·cases h
 rename_i hw
 cases h
 exact⟨sig,h1,h2,Prod.ext rfl (by simpa using hd),by simpa using hr,by simpa using hw⟩
theorem EG {s:List UInt8}{q:List UInt8 × List UInt8 × List UInt8 × As}(h:l9 s=some q):q.1.length≤4096∧bM q.2.2.2=0:=by
 obtain⟨sig,_,_,h3,_⟩:=RJ h
 obtain⟨e1,_,_,e4⟩:=aaF (s:=q.1) (by rw[h3]) (b:=q.2.2.2) (by rw[h3])
 exact⟨e4,(wZ e1).1⟩
set_option maxRecDepth 10000
set_option maxHeartbeats 4000000
abbrev fF:List Nat:=[0,2,3,4,5,6,7,8,9,11,15,34,61]
theorem RN (s:List UInt8)(hs:s.length≤1099511627776):ay Pr 83 [.str s] (Xe (l9 s)):=by
 refine ay.W Tryz.func83 Tryz.ntmps83 ?_
 simp only[aT]
 refine aG 1 fF ?_
 rcases jH 126 s with⟨hl,_⟩ | ⟨i,hi,hl,_,_⟩
 ·have hR:=aj' hl
  have hi0:decide ((-1:Int)<0)=true:=by decide
  refine jd 5 fF (EF 126 s (by omega)) hl ?_
  apply WP.ret
  exact Ends.P (d:= .aQ [_,_,_,_,_]) rfl (by rw[hR];exact Le.trans (Le.of_eq (by simp +decide only[St.get,lk,W,ak,fA,↓reduceIte])) Aj)
 have hi0:decide ((i:Int)<0)=false:=decide_eq_false (by omega)
 have hle:i≤s.length:=by omega
 have hle1:i+1≤s.length:=by omega
 have hwi:IntKind.wrap .i64 ((i:Int)+1)=((i+1:Nat):Int):=by rw[wrap_i64 (by omega) (by omega)];rfl
 refine oC 5 fF (EF 126 s (by omega)) hl hi0 ?_
 refine WP.S fF fun _ z=>?_
 simp +decide only[TF,hle,↓reduceIte]
 refine aj.P (afQ (s.take i) (by simp only[adg];omega)) rfl rfl ?_
 simp +decide only[TF,jw,As.cs,↓reduceIte]
 apply z;clear z
 rcases jH 58 (s.drop (i+1)) with⟨hk,_⟩ | ⟨k,hk1,hk,_,_⟩
 ·have hk0:decide ((-1:Int)<0)=true:=by decide
  refine OY 2 fF (EF 58 (s.drop (i+1)) (by simp only[aht];omega)) hle1 hwi @ajy.{0} hk ?_
  refine WP.S fF fun _ z=>?_
  refine ah.take 3 fun J hJ=>?_
  simp +decide only[TF,↓reduceIte]
  refine hJ _ _ ?_;clear hJ J
  refine ah.part 31 rfl (fun q1=>?_) (fun q1=>?_)
  ·have hR:=aaN hl q1
   simp +decide only[TF,q1,↓reduceIte]
   apply z;clear z
   refine aG 2 fF ?_
   apply WP.ret
   exact Ends.P (d:= .aQ [_,_,_,_,_]) rfl (by rw[hR];exact Le.trans (Le.of_eq (by simp +decide only[St.get,lk,W,ak,fA,↓reduceIte])) Aj)
  have hf:=q1
  have hR:=akb hl hf hk
  simp +decide only[TF,q1,↓reduceIte]
  apply z;clear z
  refine aG 2 fF ?_
  apply WP.ret
  exact Ends.P (d:= .aQ [_,_,_,_,_]) rfl (by rw[hR];exact Le.trans (Le.of_eq (by simp +decide only[St.get,lk,W,ak,fA,↓reduceIte])) Aj)
 rw[aht] at hk1
 have hk0:decide ((k:Int)<0)=false:=decide_eq_false (by omega)
 have hwk:IntKind.wrap .i64 (((i+1:Nat):Int)+(k:Int))=((i+1+k:Nat):Int):=by rw[wrap_i64 (by omega) (by omega)];omega
 have hw2:IntKind.wrap .i64 ((i:Int)+2)=((i+2:Nat):Int):=by rw[wrap_i64 (by omega) (by omega)];rfl
 have hw3:IntKind.wrap .i64 (((i+2:Nat):Int)+(k:Int))=((i+2+k:Nat):Int):=by rw[wrap_i64 (by omega) (by omega)];omega
 have hb1:(i+1≤i+1+k)=True:=eq_true (by omega)
 have hb2:(i+1+k≤s.length)=True:=eq_true (by omega)
 have hb3:(i+2+k≤s.length)=True:=eq_true (by omega)
 have hd1:(s.take (i+1+k)).drop (i+1)=(s.drop (i+1)).take k:=by rw[List.drop_take];congr 1;omega
 have hd2:s.drop (i+2+k)=(s.drop (i+1)).drop (k+1):=by rw[alv];congr 1;omega
 refine OY 2 fF (EF 58 (s.drop (i+1)) (by simp only[aht];omega)) hle1 hwi @ajy.{0} hk ?_
 refine WP.S fF fun _ z=>?_
 refine ah.take 3 fun J hJ=>?_
 simp +decide only[TF,↓reduceIte]
 refine hJ _ _ ?_;clear hJ J
 refine ah.part 31 rfl (fun q2=>?_) (fun q2=>?_)
 ·have hR:=aaN hl q2
  simp +decide only[TF,q2,↓reduceIte]
  apply z;clear z
  refine aG 2 fF ?_
  apply WP.ret
  exact Ends.P (d:= .aQ [_,_,_,_,_]) rfl (by rw[hR];exact Le.trans (Le.of_eq (by simp +decide only[St.get,lk,W,ak,fA,↓reduceIte])) Aj)
 have hf:=q2
 simp +decide only[TF,hk0,q2,↓reduceIte]
 apply z;clear z
 iterate 4 first|(refine WP.D fF fun _ z=>?_;simp +decide only[TF,hwi,hwk,hw2,hw3,hb1,hb2,hb3,hd1,hd2,ajy,↓reduceIte];refine z _ _ (by kernel_rfl) ?_;clear z)|(apply WP.skip;show WP ..)|refine WP.cF ?_|apply WP.seq
 refine jd 1 fF (abP ((s.drop (i+1)).drop (k+1)) (by simp only[aht];omega)) @BQ.eq_def ?_
 refine WP.S fF fun _ z=>?_
 refine ah.take 3 fun J hJ=>?_
 simp +decide only[TF,↓reduceIte]
 refine hJ _ _ ?_;clear hJ J
 refine ah.part 57 rfl (fun q3=>?_) (fun q3=>?_)
 ·have hR:=af9 hl hf hk q3
  simp +decide only[TF,q3,↓reduceIte]
  apply z;clear z
  refine aG 2 fF ?_
  apply WP.ret
  exact Ends.P (d:= .aQ [_,_,_,_,_]) rfl (by rw[hR];exact Le.trans (Le.of_eq (by simp +decide only[St.get,lk,W,ak,fA,↓reduceIte])) Aj)
 have hx:=q3
 simp +decide only[TF,q3,↓reduceIte]
 refine aj.P (kG ((s.drop (i+1)).take k) (by simp only[aht,adg];omega)) rfl rfl ?_
 simp +decide only[TF,↓reduceIte]
 apply z;clear z
 refine WP.cond rfl (fun q4=>?_) (fun q4=>?_)
 ·have hR:=akc hl hf hk hx (by simpa using q4)
  refine aJ 1 fF q4 ?_
  apply WP.ret
  exact Ends.P (d:= .aQ [_,_,_,_,_]) rfl (by rw[hR];exact Le.trans (Le.of_eq (by simp +decide only[St.get,lk,W,ak,fA,↓reduceIte])) Aj)
 have hR:=akd hl hf hk hx (by simpa using q4)
 refine jd 2 fF hle q4 ?_
 apply WP.ret
 exact Ends.P (d:= .aQ [_,_,_,_,_]) rfl (by rw[hR];exact Le.of_eq (by simp +decide only[Xe,As.cs,St.get,lk,W,ak,fA,↓reduceIte]))
def EH (r:Rc)(a:As)(now:Int):As × Int × Rc:=
 match gZ r.rq a.req with
 |none=>(bF,6,r)
 |some q=>if decide (aN now≥q.2)=true then (bF,6,r) else if (q.1 == a.iw)=false then (bF,16,r) else
  if ((gG r.us r.uc a.id (gQ a.fD r.skew) now).1 != 0)=true then (bF,(gG r.us r.uc a.id (gQ a.fD r.skew) now).1,r)
  else (a,0,{ r with us:=(gG r.us r.uc a.id (gQ a.fD r.skew) now).2.1,uc:=(gG r.us r.uc a.id (gQ a.fD r.skew) now).2.2,rq:=xg r.rq a.req })
theorem Om {r:Rc}{a:As}{now:Int}{q:List UInt8 × Int}(h:gZ r.rq a.req=some q):EH r a now=if decide (aN now≥q.2)=true then (bF,6,r) else if (q.1 == a.iw)=false then (bF,16,r) else
  if ((gG r.us r.uc a.id (gQ a.fD r.skew) now).1 != 0)=true then (bF,(gG r.us r.uc a.id (gQ a.fD r.skew) now).1,r)
  else (a,0,{ r with us:=(gG r.us r.uc a.id (gQ a.fD r.skew) now).2.1,uc:=(gG r.us r.uc a.id (gQ a.fD r.skew) now).2.2,rq:=xg r.rq a.req }):=by unfold EH;rw[h]
def fM (ms:TS)(r:Rc)(s:List UInt8)(now:Int):As × Int × Rc:=
 match l9 s with
 |none=>(bF,4,r)
 |some (text,key,code,a)=>match gu ms a.iw with
  |none=>(bF,6,r)
  |some p=>if (jA p.f p.u now 0 != 0)=true then (bF,jA p.f p.u now 0,r) else
   if ((jg p.keys key now r.skew).2 != 0)=true then (bF,(jg p.keys key now r.skew).2,r) else
   if (code == yS (jg p.keys key now r.skew).1.sec text)=false then (bF,17,r) else
   if (a.jV == r.self)=false then (bF,15,r) else
   if (jA a.kK a.fD now r.skew != 0)=true then (bF,jA a.kK a.fD now r.skew,r) else EH r a now
section
variable {ms:TS} {r:Rc} {s text key code:List UInt8} {a:As} {p:jO} {now:Int}
theorem aaO (h:l9 s=none):fM ms r s now=(bF,4,r):=by unfold fM;rw[h]
theorem af_ (h:l9 s=some (text,key,code,a))(h1:gu ms a.iw=none):fM ms r s now=(bF,6,r):=by unfold fM;simp only[h,h1]
theorem af' (h:l9 s=some (text,key,code,a))(h1:gu ms a.iw=some p)(h2:(jA p.f p.u now 0 != 0)=true):fM ms r s now=(bF,jA p.f p.u now 0,r):=by unfold fM;simp only[h,h1];exact if_pos h2
theorem aaP (h:l9 s=some (text,key,code,a))(h1:gu ms a.iw=some p)(h2:(jA p.f p.u now 0 != 0)=false):fM ms r s now=
  if ((jg p.keys key now r.skew).2 != 0)=true then (bF,(jg p.keys key now r.skew).2,r) else
   if (code == yS (jg p.keys key now r.skew).1.sec text)=false then (bF,17,r) else
   if (a.jV == r.self)=false then (bF,15,r) else
   if (jA a.kK a.fD now r.skew != 0)=true then (bF,jA a.kK a.fD now r.skew,r) else EH r a now:=by
 unfold fM;simp only[h,h1];exact if_neg (by rw[h2];decide)
end
theorem Oo (ms:TS)(id:List UInt8)(t:Int):(gu ms id=none∧nX ms id t= .aQ [Wh,.int .i64 6])∨(∃p,gu ms id=some p∧(jA p.f p.u t 0 != 0)=true∧nX ms id t= .aQ [Wh,.int .i64 (jA p.f p.u t 0)])∨
  ∃p,gu ms id=some p∧(jA p.f p.u t 0 != 0)=false∧nX ms id t= .aQ [.agg p.cs,.int .i64 0]:=by
 cases h:gu ms id with
 |none=>exact .inl ⟨rfl,YC h⟩
 |some p=>
  cases h2:(jA p.f p.u t 0 != 0) with
  |true=>exact .inr (.inl ⟨p,rfl,h2,YD h h2⟩)
  |false=>exact .inr (.inr ⟨p,rfl,h2,Nj h h2⟩)
theorem alM {us:US}{c:Nat}{id:List UInt8}{u now:Int}(h:((gG us c id u now).1 != 0)=true):(gG us c id u now).2.1=us∧(gG us c id u now).2.2=c:=by
 unfold gG at h ⊢
 split
 ·rename_i h0;rw[if_pos h0] at h;simp at h
 ·exact⟨rfl,rfl⟩
theorem JZ (e:Int):Le (.aQ [.agg [.str [],.str [],.str [],.str [],.str [],.int .i64 0,.int .i64 0,.int .i64 0,.slice 0 true [] none],.int .i64 e]) (.aQ [.agg bF.cs,.int .i64 e]):=oV e
set_option maxRecDepth 10000
set_option maxHeartbeats 4000000
theorem RP {a b:List UInt8}(h:(!(a == b))=true):(a == b)=false:=by simpa using h
theorem RS {a b:List UInt8}(h:(!(a == b))=false):(a == b)=true:=by simpa using h
theorem ap2:((4:Int) != 0)=true:=by decide
abbrev dG:List Nat:=[0,1,2,3,8,9,10,11,12,13,14,15,16,17,18,19,20,23,34,46,62,70,78,92,113,119,137]
theorem vY (ms:TS)(c:Nat)(hms:TS.ok ms)(r:Rc)(hr:r.ok)(s:List UInt8)(hs:s.length≤1099511627776)(now:Int):aF Pr 39 [.ref 3 0,.ref 1 0,.str s,.int .i64 now] [(0,.map (sQ ms) c),(1,.box 138 [.map 0]),(2,.map (mE lV r.rq) r.rc),(3,.box 107 [.str r.self,.int .i64 r.skew,.map 2,.ref 4 0]),(4,.box 171 [.map 5,.int .i64 256]),(5,.map (mE qE r.us) r.uc)] (.aQ [.agg (fM ms r s now).1.cs,.int .i64 (fM ms r s now).2.1]) [(0,.map (sQ ms) c),(1,.box 138 [.map 0]),(2,.map (mE lV (fM ms r s now).2.2.rq) (fM ms r s now).2.2.rc),(3,.box 107 [.str (fM ms r s now).2.2.self,.int .i64 (fM ms r s now).2.2.skew,.map 2,.ref 4 0]),(4,.box 171 [.map 5,.int .i64 256]),(5,.map (mE qE (fM ms r s now).2.2.us) (fM ms r s now).2.2.uc)]:=by
 refine qX Tryz.func39 Tryz.ntmps39 ?_
 refine aJ 5 dG (Gx r) ?_
 rcases hD:l9 s with _ | ⟨text,key,code,a⟩
 ·have hR:=aaO (ms:=ms) (r:=r) (now:=now) hD
  refine WP.S dG fun _ z=>?_
  simp +decide only[TF,↓reduceIte]
  refine aj.P (RN s hs) rfl rfl ?_
  simp +decide only[TF,hD,Xe,As.cs,↓reduceIte]
  apply z;clear z
  refine aJ 4 dG @ap2 ?_
  apply WP.ret
  exact OD hR
 obtain⟨ht1,ht2⟩:=EG hD
 have Zc:=mF (jE ht2).1.1
 simp only at ht1 Zc
 refine WP.S dG fun _ z=>?_
 simp +decide only[TF,↓reduceIte]
 refine aj.P (RN s hs) rfl rfl ?_
 simp +decide only[TF,hD,Xe,As.cs,↓reduceIte]
 apply z;clear z
 refine aG 4 dG ?_
 rcases Oo ms a.iw now with⟨hF,hP⟩ | ⟨p,hF,hC,hP⟩ | ⟨p,hF,hC,hP⟩
 ·have hR:=af_ (r:=r) (now:=now) hD hF
  have hb:((6:Int) != 0)=true:=by decide
  refine CO 5 dG (BR ms c hms a.iw now) hP @Wh.eq_def hb ?_
  apply WP.ret
  exact OD hR
 ·have hR:=af' (r:=r) hD hF hC
  refine CO 5 dG (BR ms c hms a.iw now) hP @Wh.eq_def hC ?_
  apply WP.ret
  exact OD hR
 have hY:=aaP (r:=r) hD hF hC
 obtain⟨hpo,_⟩:=yV hms hF
 have Zd:=(Ed (id:=key) (now:=now) (skew:=r.skew) hpo.2.2.2.2).2
 have hb:((0:Int) != 0)=false:=by decide
 refine WP.S dG fun _ z=>?_
 simp +decide only[TF,↓reduceIte]
 refine aj.I (BR ms c hms a.iw now) rfl rfl ?_
 simp +decide only[TF,hP,jO.cs,↓reduceIte]
 apply z;clear z
 refine aJ 7 dG (VN p.keys p.nk key now r.skew hpo.2.2.1 hpo.2.2.2.1) ?_
 refine WP.cond rfl (fun q1=>?_) (fun q1=>?_)
 ·have hR:=hY.trans (if_pos q1)
  refine aJ 1 dG q1 ?_
  apply WP.ret
  exact OD hR
 rw[if_neg (by rw[q1];decide)] at hY
 refine jd 3 dG (aeM (jg p.keys key now r.skew).1.sec text Zd (by omega)) q1 ?_
 refine WP.cond rfl (fun q2=>?_) (fun q2=>?_)
 ·have Ze:=RP q2
  have hR:=hY.trans (if_pos Ze)
  refine aJ 1 dG q2 ?_
  apply WP.ret
  exact OD hR
 have Ze:=RS q2
 rw[if_neg (by rw[Ze];decide)] at hY
 refine aJ 3 dG q2 ?_
 refine WP.cond rfl (fun q3=>?_) (fun q3=>?_)
 ·have Ze:=RP q3
  have hR:=hY.trans (if_pos Ze)
  refine aJ 1 dG q3 ?_
  apply WP.ret
  exact OD hR
 have Ze:=RS q3
 rw[if_neg (by rw[Ze];decide)] at hY
 refine jd 4 dG (BP a.kK a.fD now r.skew) q3 ?_
 refine WP.cond rfl (fun q4=>?_) (fun q4=>?_)
 ·have hR:=hY.trans (if_pos q4)
  refine aJ 1 dG q4 ?_
  apply WP.ret
  exact OD hR
 rw[if_neg (by rw[q4];decide)] at hY
 refine aG 1 [] ?_
 rcases hQ:gZ r.rq a.req with _|q
 ·have hR:=hY.trans (by unfold EH;rw[hQ])
  refine oC 5 dG q4 hQ @aaM ?_
  apply WP.ret
  exact OD hR
 have hU:=Om (now:=now) hQ
 refine CO 2 dG q4 hQ @lV.eq_def @aaM ?_
 refine WP.D dG fun _ z=>?_
 simp +decide only[TF,↓reduceIte]
 refine aj.P (BD _ _) rfl rfl ?_
 simp +decide only[TF,qC,↓reduceIte]
 refine z _ _ (by kernel_rfl) ?_;clear z
 refine WP.cond rfl (fun q5=>?_) (fun q5=>?_)
 ·rw[if_pos (by simpa using q5)] at hU
  have hR:=hY.trans hU
  refine aJ 1 dG q5 ?_
  apply WP.ret
  exact OD hR
 rw[if_neg (by simpa using q5)] at hU
 refine aJ 3 dG q5 ?_
 refine WP.cond rfl (fun q6=>?_) (fun q6=>?_)
 ·rw[if_pos (RP q6)] at hU
  have hR:=hY.trans hU
  refine aJ 1 dG q6 ?_
  apply WP.ret
  exact OD hR
 rw[if_neg (by rw[RS q6];decide)] at hU
 refine aG 2 [] ?_
 refine WP.D dG fun _ z=>?_
 simp +decide only[TF,q6,↓reduceIte]
 refine aj.P (BD _ _) rfl rfl ?_
 simp +decide only[TF,↓reduceIte]
 refine aj.I (anU r.us r.uc a.id (gQ a.fD r.skew) now hr.nus (by omega)) rfl rfl ?_
 simp +decide only[TF,↓reduceIte]
 refine z _ _ (by kernel_rfl) ?_;clear z
 refine aG 1 dG ?_
 refine WP.cond rfl (fun q7=>?_) (fun q7=>?_)
 ·rw[if_pos q7] at hU
  have hR:=hY.trans hU
  obtain⟨hu1,hu2⟩:=alM q7
  refine oC 1 dG q7 hu1 hu2 ?_
  apply WP.ret
  exact OD hR
 rw[if_neg (by rw[q7];decide)] at hU
 have hR:=hY.trans hU
 refine jd 3 dG q7 @af7 ?_
 apply WP.ret
 refine Ends.imp (d:= .aQ [_,_]) (.inr rfl) rfl (by rw[hR];exact Le.of_eq (by simp +decide only[As.cs,St.get,W,ak,fA,↓reduceIte])) ?_ ?_ ?_
 ·simp
 ·simp[lk,aB,hR]
 simp[lk]
set_option maxRecDepth 20000
theorem Ut {c:UInt8}(h:∀d:Fin 16,JL d.val≠c)(n:Int):∀k:Nat,c ∉ yO n k
 | 0=>by simp[yO]
 |k+1=>by
  have h1:=h ⟨hdN n k,TD n k⟩
  simp only[yO,ael,not_or]
  exact⟨fun e=>h1 e.symm,Ut h n k⟩
theorem alN (k s:List UInt8):(58:UInt8) ∉ yS k s:=Ut (by decide) _ 16
theorem ai3 (k s:List UInt8):(126:UInt8) ∉ yS k s:=Ut (by decide) _ 16
theorem alO (k s:List UInt8):(UN (yS k s)).2=0:=by
 have:UN (yS k s)=_:=ah0 (vH _).1 (vH _).2
 rw[this]
theorem aga {s:List UInt8}(h:bg s=true):(126:UInt8) ∉ s:=by
 intro hm
 simp only[bg,ait,ami] at h
 have:=h.1.1 _ hm
 revert this;decide
theorem ai4 {k:Key}(h:bg k.id=true)(s:List UInt8):(126:UInt8) ∉ wU k s:=by
 unfold wU
 simp only[List.mem_append,ad1,not_or]
 exact⟨⟨aga h,by decide⟩,ai3 _ _⟩
theorem agb {a:As}{t:List UInt8}{k:Key}(he:dX a=(t,0))(hw:bg k.id=true):l9 (t++[126]++wU k t)=some (t,k.id,yS k.sec t,nrm a):=by
 have e1:t++[126]++wU k t=t++126::wU k t:=by simp
 have e2:wU k t=k.id++58::yS k.sec t:=by simp[wU]
 rw[e1]
 unfold l9
 rw[Xd (ai4 hw t),adf]
 simp only[aaE he]
 rw[if_neg (by decide),e2,Xd (alN _ _),adf]
 simp only
 rw[if_neg (by rw[alO];decide),if_neg (by rw[hw];decide)]
def AQ:List UInt8:=[105,100,112]
def meW:List UInt8:=[109,101]
def r1W:List UInt8:=[114,49]
def PI:jO:=Pn AQ [115]
def acG:At:=⟨[99,110],false,[[97],[98]]⟩
def uw:As:=⟨[97,49],[105,100,112],[109,101],[97,110,110],[114,49],10,30,2,false,[acG]⟩
theorem Xf:jh [⟨[67,78],false,[[98],[97]]⟩]=[acG]:=by
 have hs:bU [[98],[97]]=[[97],[98]]:=vK (by decide) (by unfold Asc;decide) (by intro x;simp;exact Or.comm)
 have hl:bG [67,78]=[99,110]:=by decide
 simp[jh,XH,hs,hl,acG]
theorem agc:nrm nH=uw:=by
 show As.mk _ _ _ _ _ _ _ _ (jh [⟨[67,78],false,[[98],[97]]⟩]).isEmpty (jh [⟨[67,78],false,[[98],[97]]⟩])=_
 rw[Xf];rfl
theorem aaQ:nH.ok:=by
 refine⟨⟨by decide,by decide,by decide,by decide,by decide⟩,⟨by unfold jo;decide,by unfold jo;decide,by unfold jo;decide⟩,by decide,nofun,?_⟩
 intro x hx
 have:x=⟨[67,78],false,[[98],[97]]⟩:=by simpa [nH] using hx
 subst this
 exact⟨by decide,by decide,nofun,by simp⟩
theorem Xg:bM nH=0:=by decide +kernel
theorem acH:Lib.itoa 10=[49,48]∧Lib.itoa 30=[51,48]∧Lib.itoa 2=[50]:=by
 refine⟨?_,?_,?_⟩ <;> simp[Lib.itoa,Lib.decDigits]
def TL:List UInt8:=(dX nH).1
theorem Oq:iL nH=bW nM (aC [97,49])++bW gJ (aC [105,100,112])++bW iy (aC [109,101])++bW ji (aC [97,110,110])++bW jT (aC [114,49])++bW kW [49,48]++bW mQ [51,48]++bW ql [50]++JO acG:=by
 obtain⟨h1,h2,h3⟩:=acH
 unfold iL
 show nG nH++((jh [⟨[67,78],false,[[98],[97]]⟩]).map JO).flatten=_
 rw[Xf]
 show (bW nM (aC [97,49])++bW gJ (aC [105,100,112])++bW iy (aC [109,101])++bW ji (aC [97,110,110])++bW jT (aC [114,49])++bW kW (Lib.itoa 10)++bW mQ (Lib.itoa 30)++bW ql (Lib.itoa 2))++_=_
 rw[h1,h2,h3]
 simp
theorem Gz:(iL nH).length=91:=by rw[Oq];decide +kernel
theorem zy:dX nH=(TL,0):=by
 have:dX nH=(iL nH,0):=Uj Xg rfl (by rw[Gz];decide)
 unfold TL;rw[this]
theorem ake:TL=iL nH:=by
 have:dX nH=(iL nH,0):=Uj Xg rfl (by rw[Gz];decide)
 unfold TL;rw[this]
theorem GH:TL.length=91:=by rw[ake,Gz]
theorem ai5:TL.take 6=[105,100,61,97,49,10]:=by rw[ake,Oq];decide +kernel
def ai6:As:=⟨[97,49],[105,100,112],[109,101],[97,110,110],[],10,30,2,false,[⟨[67,78],false,[[98],[97]]⟩]⟩
theorem alP:ai6.ok:=by
 refine⟨⟨by decide,by decide,by decide,by decide,by decide⟩,⟨by unfold jo;decide,by unfold jo;decide,by unfold jo;decide⟩,by decide,nofun,?_⟩
 intro x hx
 have:x=⟨[67,78],false,[[98],[97]]⟩:=by simpa [ai6] using hx
 subst this
 exact⟨by decide,by decide,nofun,by simp⟩
theorem agd:bM ai6=5:=by decide +kernel
def kX:Key:=ni [115]
theorem agf:xG [kX] 10=kX:=by kernel_rfl
theorem agh:eqK (xG [kX] 10) dP=false:=by kernel_rfl
def SL:List UInt8:=TL++[126]++wU kX TL
theorem agi:CG [kX] nH 10=(SL,0):=by
 have hs:lS [kX] TL 10=(wU kX TL,0):=by
  unfold lS;rw[agh,agf];rfl
 rw[Y4 (by rw[zy];rfl) (by rw[zy];rw[hs];rfl),zy]
 show (TL++[126]++(lS [kX] TL 10).1,(0:Int))=_
 rw[hs];rfl
theorem anX:∀k∈[kX],k.ok:=by simp[kX,ni,Key.ok]
theorem anY:(SL == TL++[126,107,49,58]++yS [115] TL)=true:=by simp[SL,wU,kX,ni]
theorem Uu:SL.length≤1099511627776:=by
 have:=GH
 have:=vJ [115] TL
 simp[SL,wU,kX,ni, *]
theorem agj:l9 SL=some (TL,[107,49],yS [115] TL,uw):=by
 have:=agb (k:=kX) zy (by decide)
 rw[agc] at this
 exact this
theorem ai7:l9 []=none:=by
 unfold l9
 rcases jH 126 [] with⟨h,_⟩ | ⟨i,hi,_⟩
 ·rw[Zb h];rfl
 ·simp at hi
def ML:TS:=[(AQ,PI,0)]
theorem Xh:PI.ok:=⟨by decide,by decide,by decide,nofun,by simp[PI,Pn,ni,Key.ok]⟩
theorem RU:TS.ok ML:=by
 intro e he
 rw[ad1.1 he]
 exact⟨Xh,by simp[PI,Pn]⟩
theorem agk:TS.ok []:=by simp[TS.ok]
theorem GI:anch [] 0 PI 0=(0,ML,1):=TQ (by decide +kernel) (by decide) rfl rfl
def R0:Rc:=⟨meW,0,[],0,[],0⟩
def R1:Rc:=⟨meW,0,[(r1W,(AQ,40),0)],1,[],0⟩
def R2:Rc:=⟨meW,0,[],1,[([97,49],30,0)],1⟩
def R3:Rc:=⟨meW,0,[(r1W,(AQ,40),1)],2,[([97,49],30,0)],1⟩
theorem agl:R0.ok:=⟨Jv.nil _,Jv.nil _,by decide,by decide,by decide⟩
theorem agm:R1.ok:=⟨⟨by simp[R1],by simp[R1],by simp[R1]⟩,Jv.nil _,by decide,by decide,by decide⟩
theorem akf:R2.ok:=⟨Jv.nil _,⟨by simp[R2],by simp[R2],by simp[R2]⟩,by decide,by decide,by decide⟩
theorem anZ:R3.ok:=⟨⟨by simp[R3],by simp[R3],by simp[R3]⟩,⟨by simp[R3],by simp[R3],by simp[R3]⟩,by decide,by decide,by decide⟩
theorem agn:newE meW 0=0:=by decide +kernel
theorem aaR:newE meW 601=2:=by decide +kernel
theorem alQ:gQ 0 0=0:=by decide
theorem acI (now:Int):lH [] now=[]:=rfl
theorem Ak (now:Int):fE [] now=[]:=by simp[fE,acI,Q9]
theorem agp {n:Int}(h:aN n<40):lH R1.rq n=R1.rq:=by simp[lH,R1,h]
theorem Xi {n:Int}(h:aN n<40):fE R1.rq n=[r1W]:=by
 unfold fE
 rw[agp h]
 simp[R1,bU]
theorem acJ:lI R0 r1W AQ 40 5=(0,R1):=by
 rw[Xb (by decide) (by decide) (by decide) (by show (fE [] 5).contains r1W=false;rw[Ak];rfl) (by show decide (((fE [] 5).length:Int)≥256)=false;rw[Ak];rfl)]
 rfl
theorem acK:lI R1 r1W AQ 40 5=(7,R1):=aaL (by decide) (by decide) (by decide) (by rw[Xi (by decide)];simp)
theorem acL:lI R2 r1W AQ 40 11=(0,R3):=by
 rw[Xb (by decide) (by decide) (by decide) (by show (fE [] 11).contains r1W=false;rw[Ak];rfl) (by show decide (((fE [] 11).length:Int)≥256)=false;rw[Ak];rfl)]
 rfl
theorem acM:oD R1.rq 10= .slice 1 false [[.str r1W]] none:=by
 unfold oD;rw[Xi (by decide)];rfl
theorem J9 {r:Rc}{now:Int}(hs:r.self=meW)(hk:r.skew=0)(hn:now=10∨now=12):fM ML r SL now=EH r uw now:=by
 have hf:gu ML uw.iw=some PI:=rfl
 have hc:(jA PI.f PI.u now 0 != 0)=false:=by rcases hn with rfl|rfl <;> decide
 have ha:jg PI.keys [107,49] now 0=(kX,0):=by rcases hn with rfl|rfl <;> kernel_rfl
 have hw:(jA uw.kK uw.fD now 0 != 0)=false:=by rcases hn with rfl|rfl <;> decide
 rw[aaP agj hf hc,hs,hk,ha,if_neg (by decide),if_neg (by simp[kX,ni]),if_neg (by decide),if_neg (by rw[hw];decide)]
theorem Uw:fM ML R0 [] 10=(bF,4,R0):=aaO ai7
theorem acN:fM ML R0 SL 10=(bF,6,R0):=by rw[J9 rfl rfl (.inl rfl)];rfl
theorem acO:fM ML R1 SL 10=(uw,0,R2):=by
 rw[J9 rfl rfl (.inl rfl),Om (q:=(AQ,40)) rfl,if_neg (by decide),if_neg (by decide)]
 have hu:gG R1.us R1.uc uw.id (gQ uw.fD R1.skew) 10=(0,[([97,49],30,0)],1):=by
  rw[Uo (by decide) (by decide) rfl];rfl
 rw[hu];rfl
theorem acP:fM ML R2 SL 10=(bF,6,R2):=by rw[J9 rfl rfl (.inl rfl)];rfl
theorem acQ:fM ML R3 SL 12=(bF,18,R3):=by
 rw[J9 rfl rfl (.inr rfl),Om (q:=(AQ,40)) rfl,if_neg (by decide),if_neg (by decide)]
 have hu:gG R3.us R3.uc uw.id (gQ uw.fD R3.skew) 12=(18,[([97,49],30,0)],1):=Un (old:=30) (by decide) (by decide) rfl (by decide)
 rw[hu];rfl
theorem alR:aF Pr 22 [.str meW,.int .i64 0] [] (.aQ [.ref 3 0,.int .i64 0]) [(2,.map (mE lV R0.rq) R0.rc),(3,.box 107 [.str R0.self,.int .i64 R0.skew,.map 2,.ref 4 0]),(4,.box 171 [.map 5,.int .i64 256]),(5,.map (mE qE R0.us) R0.uc)]:=by
 have:=WZ meW 0 (by decide) agn
 rw[alQ] at this
 exact this
set_option maxRecDepth 10000
set_option maxHeartbeats 16000000
set_option maxRecDepth 200000
theorem an0:decide ((TL.length:Int)<6)=false:=by rw[GH];decide
theorem an1:(6≤TL.length)=True:=eq_true (by rw[GH];decide)
theorem sN1:uw.sub=[97,110,110]:=rfl
theorem sN2:uw.ats=[acG]:=rfl
theorem sN3:uw.nl=false:=rfl
theorem aI1:acG.name=[99,110]:=rfl
theorem lw1:(((1:Nat):Int) != 1)=false:=by decide
theorem lw2:(((1:Nat):Int) == 1)=true:=by decide
theorem lw3:(((0:Nat):Int) == 0)=true:=by decide
abbrev ig:List Nat:=[0,1,2,3,5,6,7,8,9,10,11,13,15,16,17,18,19,20,22,23,25,26,55,99,181]
theorem J_:ay Pr 10 [] (.bool true):=by
 refine ay.W Tryz.func10 Tryz.ntmps10 ?_
 simp only[aT]
 refine WP.S ig fun _ z=>?_;simp +decide only[TF,St.lay,dl,↓reduceIte];apply z;clear z
 refine WP.S ig fun _ z=>?_
 simp +decide only[TF,↓reduceIte]
 refine aj.I (ajU) rfl rfl ?_
 simp +decide only[TF,St.lay,dl,↓reduceIte]
 apply z;clear z
 refine WP.S ig fun _ z=>?_
 simp +decide only[TF,↓reduceIte]
 refine aj.I (alR) rfl rfl ?_
 simp +decide only[TF,St.lay,dl,↓reduceIte]
 apply z;clear z
 refine WP.S ig fun _ z=>?_
 simp +decide only[TF,↓reduceIte]
 refine aj.pure (Jw meW 601 (by decide) (by rw[aaR];decide)) rfl rfl (by simp[As.cs]) ?_
 simp +decide only[TF,aaR,St.lay,dl,↓reduceIte]
 apply z;clear z
 apply WP.seq
 refine WP.S ig fun _ z=>?_
 simp +decide only[TF,St.lay,dl,↓reduceIte]
 refine aj.pure (sF AQ [115] (by decide)) rfl rfl (by simp[As.cs]) ?_
 simp +decide only[TF,St.lay,dl,↓reduceIte]
 refine aj.I (Nk [] 0 agk PI Xh 0) rfl rfl ?_
 simp +decide only[TF,GI,St.lay,dl,↓reduceIte]
 apply z;clear z
 iterate 2 first|(apply WP.skip;show WP ..)|refine WP.cF ?_
 refine WP.S ig fun _ z=>?_
 simp +decide only[TF,↓reduceIte]
 refine aj.pure (af0) rfl rfl (by simp[As.cs]) ?_
 simp +decide only[TF,St.lay,dl,As.cs,↓reduceIte]
 apply z;clear z
 iterate 2 (refine WP.S ig fun _ z=>?_;simp +decide only[TF,St.lay,dl,↓reduceIte];apply z;clear z)
 refine WP.S ig fun _ z=>?_
 simp +decide only[TF,St.lay,dl,↓reduceIte]
 refine aj.pure (zl nH aaQ) rfl rfl (by simp[At.cs]) ?_
 simp +decide only[TF,zy,St.lay,dl,↓reduceIte]
 apply z;clear z
 refine WP.D ig fun _ z=>?_
 simp +decide only[TF,↓reduceIte]
 refine aj.pure (Y6 [115]) rfl rfl (by simp[As.cs]) ?_
 simp +decide only[TF,St.lay,dl,↓reduceIte]
 refine aj.pure (acD [kX] false (by decide) nofun anX nH aaQ 10) rfl rfl (by simp[At.cs,Key.cs,ni,kX]) ?_
 simp +decide only[TF,agi,St.lay,dl,↓reduceIte]
 refine z _ _ (by kernel_rfl) ?_;clear z
 apply WP.seq
 refine WP.S ig fun _ z=>?_
 simp +decide only[TF,St.lay,dl,↓reduceIte]
 refine aj.pure (NR ai6 alP) rfl rfl (by simp[At.cs]) ?_
 simp +decide only[TF,agd,an0,an1,ai5,St.lay,dl,↓reduceIte]
 refine⟨by rw[GH];decide,?_⟩
 refine aj.pure (aeM [115] TL (by decide) (by rw[GH];decide)) rfl rfl (by simp[As.cs]) ?_
 simp +decide only[TF,anY,St.lay,dl,↓reduceIte]
 refine⟨by rw[abf,GH,vJ];decide,?_⟩
 apply z;clear z
 iterate 2 first|(apply WP.skip;show WP ..)|refine WP.cF ?_
 refine WP.S ig fun _ z=>?_
 simp +decide only[TF,St.lay,dl,↓reduceIte]
 refine aj.I (vY ML 1 RU R0 agl [] (by decide) 10) rfl rfl ?_
 simp +decide only[TF,Uw,St.lay,dl,As.cs,↓reduceIte]
 apply z;clear z
 refine WP.S ig fun _ z=>?_
 simp +decide only[TF,St.lay,dl,↓reduceIte]
 refine aj.I (vY ML 1 RU R0 agl SL Uu 10) rfl rfl ?_
 simp +decide only[TF,acN,St.lay,dl,As.cs,↓reduceIte]
 apply z;clear z
 refine WP.S ig fun _ z=>?_
 simp +decide only[TF,St.lay,dl,↓reduceIte]
 refine aj.I (Ai R0 agl r1W AQ 40 5 (by decide) (by decide)) rfl rfl ?_
 simp +decide only[TF,acJ,St.lay,dl,↓reduceIte]
 refine aj.I (Ai R1 agm r1W AQ 40 5 (by decide) (by decide)) rfl rfl ?_
 simp +decide only[TF,acK,St.lay,dl,↓reduceIte]
 apply z;clear z
 refine WP.S ig fun _ z=>?_
 simp +decide only[TF,St.lay,dl,↓reduceIte]
 refine aj.I (Gy R1 agm 10) rfl rfl ?_
 simp +decide only[TF,acM,St.lay,dl,↓reduceIte]
 apply z;clear z
 refine WP.S ig fun _ z=>?_
 simp +decide only[TF,St.lay,dl,↓reduceIte]
 refine aj.I (vY ML 1 RU R1 agm SL Uu 10) rfl rfl ?_
 simp +decide only[TF,acO,sN1,sN2,sN3,aI1,St.lay,dl,As.cs,At.cs,↓reduceIte]
 apply z;clear z
 refine WP.S ig fun _ z=>?_
 simp +decide only[TF,St.lay,dl,↓reduceIte]
 refine aj.I (vY ML 1 RU R2 akf SL Uu 10) rfl rfl ?_
 simp +decide only[TF,acP,St.lay,dl,As.cs,↓reduceIte]
 apply z;clear z
 refine WP.S ig fun _ z=>?_
 simp +decide only[TF,St.lay,dl,↓reduceIte]
 refine aj.I (Ai R2 akf r1W AQ 40 11 (by decide) (by decide)) rfl rfl ?_
 simp +decide only[TF,acL,St.lay,dl,↓reduceIte]
 apply z;clear z
 refine WP.S ig fun _ z=>?_
 simp +decide only[TF,St.lay,dl,↓reduceIte]
 refine aj.I (vY ML 1 RU R3 anZ SL Uu 12) rfl rfl ?_
 simp +decide only[TF,acQ,St.lay,dl,As.cs,↓reduceIte]
 apply z;clear z
 iterate 5 first|(refine WP.S ig fun _ z=>?_;simp +decide only[TF,lw1,St.lay,dl,↓reduceIte];apply z;clear z)|(apply WP.skip;show WP ..)|refine WP.cF ?_|apply WP.seq
 refine WP.S ig fun _ z=>?_
 simp +decide only[TF,lw2,St.lay,dl,↓reduceIte]
 refine aj.pure (Pv [114] [112] 5 1) rfl rfl (by simp[As.cs]) ?_
 simp +decide only[TF,St.lay,dl,↓reduceIte]
 refine aj.pure (Pq 1) rfl rfl (by simp[As.cs]) ?_
 simp +decide only[TF,lw3,St.lay,dl,↓reduceIte]
 apply z;clear z
 apply WP.ret
 exact Ends.P rfl (Le.of_eq (by simp +decide only[St.get,W,↓reduceIte]))
end Go.Proofs
