import Derived.Test.YtekopfoidhhedaaGreatDoorG13
import Derived.Test.YtekopfoidhhedaaGreatDoorG29
import Derived.Test.YtekopfoidhhedaaGreatDoorG23
set_option linter.unusedVariables false
set_option linter.unusedSimpArgs false
set_option linter.unnecessarySimpa false
set_option maxRecDepth 10000
namespace Go.Proofs
open Go Go.Id
set_option maxHeartbeats 8000000
theorem afQ (s:List UInt8)(hs:s.length≤1099511627776):ay Pr 13 [.str s] (jw s):=by
 by_cases hlong:4096<s.length
 ·
  have hX:jF s=(bF,3):=by unfold jF;rw[if_pos (by simp;omega)]
  refine ay.of_wp Tryz.func13 rfl (by kernel_rfl) Tryz.ntmps13 (by simp) ?_
  have hv:jw s= .aQ [.agg bF.cs,.int .i64 3]:=by unfold jw;rw[hX]
  rw[hv]
  simp only[aT]
  refine aJ 3 [0,2,3,11] @EV ?_
  refine WP.cond (b:=_) rfl (fun q1=>?_) (fun q1=>?_)
  ·
   refine aJ 1 [0,2,3] @EV ?_
   refine WP.ret ?_
   refine Ends.pure (.inr rfl) rfl (Le.trans (Le.of_eq ?_) (oV 3)) ?_
   · simp +decide only[TF,fA]
   · simp[bF,As.cs]
  ·
   exfalso
   simp at q1
   omega
 ·
  have hs4:s.length≤4096:=by omega
  have L0:=XI.cut hs4
  refine ay.adM (q1:=_) (q2:=_) (o1:=_) (o2:=_) (ZJ:=_) (Va:=_) (st1:=⟨[(0,.str s),(2,.ref 0 0),(3,.ref 1 0)],[(0,.box 24 [.str [],.str [],.str [],.str [],.str [],.int .i64 0,.int .i64 0,.int .i64 0,.slice 0 true [] none]),(1,.box 27 [.int .i64 0])]⟩)
   Tryz.func13 rfl (by kernel_rfl) Tryz.ntmps13 (by simp) rfl rfl rfl rfl rfl rfl rfl rfl (by decide) Tryz.func48 rfl Tryz.ntmps48 rfl (by kernel_rfl) rfl rfl rfl rfl rfl rfl rfl rfl rfl (by decide) (by decide) (by decide) (by decide) (by decide) rfl ?_ ?_ ?_
  · simp[jw]
  ·
   simp only[aT]
   refine WP.region (by kernel_rfl) fun K hK=>?_
   simp +decide only[TF,EV,↓reduceIte]
   refine hK _ _ ⟨rfl,?_⟩
   clear hK K
   refine aJ 1 [0,2,3,11] @EV ?_
   refine WP.cond (b:=_) rfl (fun q1=>?_) (fun q1=>?_)
   ·
    exfalso
    simp at q1
    omega
   ·
    refine WP.skip ⟨rfl,?_⟩
    exact Weak.store (by simp[St.get,lk,W,Le.refl]) (by simp[lk]) (by simp[lk]) (by simp[aB,lk]) (by simp[lk,MS])
  ·
   simp only[ag1,aj9]
   refine aJ 1 [0,2,3,4] (show ay Pr 49 [.str s,.str [10]] (.slice 1 false ((bH 10 [] s).map fun x=>[D.str x]) none) from by rw[← MX];exact abC s [10] (by omega) (by simp)) ?_
   rcases h1:nN nM (bH 10 [] s) with _ | ⟨z1,r1⟩
   ·
    have hX:=lG hs4 (aiM h1)
    refine WP.seq ?_
    refine WP.nS 1 (x:= .iface 83 l7) (by kernel_rfl) rfl rfl rfl fun K hK=>?_
    simp only[ahL,ajE]
    simp +decide only[TF,↓reduceIte]
    refine hK _ _ ?_;clear hK K
    refine jq.imp (qw 2 (by decide) L0 h1) rfl rfl (by simp[lk,aB]) (by simp[lk]) (by simp[lk]) ?_
    exact lN hX rfl rfl rfl rfl rfl rfl rfl
   ·
    obtain⟨L1,y1⟩:=ED L0 h1
    refine aJ 1 [0,2,3,4] (qp 2 (by decide) L0 h1) ?_
    rcases h2:nN gJ r1 with _ | ⟨z2,r2⟩
    ·
     have hX:=lG hs4 (aiN h1 h2)
     refine WP.seq ?_
     refine WP.nS 1 (x:= .iface 83 l7) (by kernel_rfl) rfl rfl rfl fun K hK=>?_
     simp only[ahL,ajE]
     simp +decide only[TF,↓reduceIte]
     refine hK _ _ ?_;clear hK K
     refine jq.imp (qw 2 (by decide) L1 h2) rfl rfl (by simp[lk,aB]) (by simp[lk]) (by simp[lk]) ?_
     exact lN hX rfl rfl rfl rfl rfl rfl rfl
    ·
     obtain⟨L2,y2⟩:=ED L1 h2
     refine aJ 1 [0,2,3,4] (qp 2 (by decide) L1 h2) ?_
     rcases h3:nN iy r2 with _ | ⟨z3,r3⟩
     ·
      have hX:=lG hs4 (aiO h1 h2 h3)
      refine WP.seq ?_
      refine WP.nS 1 (x:= .iface 83 l7) (by kernel_rfl) rfl rfl rfl fun K hK=>?_
      simp only[ahL,ajE]
      simp +decide only[TF,↓reduceIte]
      refine hK _ _ ?_;clear hK K
      refine jq.imp (qw 2 (by decide) L2 h3) rfl rfl (by simp[lk,aB]) (by simp[lk]) (by simp[lk]) ?_
      exact lN hX rfl rfl rfl rfl rfl rfl rfl
     ·
      obtain⟨L3,y3⟩:=ED L2 h3
      refine aJ 1 [0,2,3,4] (qp 2 (by decide) L2 h3) ?_
      rcases h4:nN ji r3 with _ | ⟨z4,r4⟩
      ·
       have hX:=lG hs4 (aiP h1 h2 h3 h4)
       refine WP.seq ?_
       refine WP.nS 1 (x:= .iface 83 l7) (by kernel_rfl) rfl rfl rfl fun K hK=>?_
       simp only[ahL,ajE]
       simp +decide only[TF,↓reduceIte]
       refine hK _ _ ?_;clear hK K
       refine jq.imp (qw 2 (by decide) L3 h4) rfl rfl (by simp[lk,aB]) (by simp[lk]) (by simp[lk]) ?_
       exact lN hX rfl rfl rfl rfl rfl rfl rfl
      ·
       obtain⟨L4,y4⟩:=ED L3 h4
       refine aJ 1 [0,2,3,4] (qp 2 (by decide) L3 h4) ?_
       rcases h5:nN jT r4 with _ | ⟨z5,r5⟩
       ·
        have hX:=lG hs4 (aiQ h1 h2 h3 h4 h5)
        refine WP.seq ?_
        refine WP.nS 1 (x:= .iface 83 l7) (by kernel_rfl) rfl rfl rfl fun K hK=>?_
        simp only[ahL,ajE]
        simp +decide only[TF,↓reduceIte]
        refine hK _ _ ?_;clear hK K
        refine jq.imp (qw 2 (by decide) L4 h5) rfl rfl (by simp[lk,aB]) (by simp[lk]) (by simp[lk]) ?_
        exact lN hX rfl rfl rfl rfl rfl rfl rfl
       ·
        obtain⟨L5,y5⟩:=ED L4 h5
        refine aJ 1 [0,2,3,4] (qp 2 (by decide) L4 h5) ?_
        rcases h6:Cm kW r5 with _ | ⟨z6,r6⟩
        ·
         have hX:=lG hs4 (aiR h1 h2 h3 h4 h5 h6)
         refine WP.seq ?_
         refine WP.nS 1 (x:= .iface 83 l7) (by kernel_rfl) rfl rfl rfl fun K hK=>?_
         simp only[ahL,ajE]
         simp +decide only[TF,↓reduceIte]
         refine hK _ _ ?_;clear hK K
         refine jq.imp (uN 2 (by decide) L5 h6) rfl rfl (by simp[lk,aB]) (by simp[lk]) (by simp[lk]) ?_
         exact lN hX rfl rfl rfl rfl rfl rfl rfl
        ·
         obtain⟨L6,y6⟩:=Uk L5 h6
         refine aJ 1 [0,2,3,4] (uM 2 (by decide) L5 h6) ?_
         rcases h7:Cm mQ r6 with _ | ⟨z7,r7⟩
         ·
          have hX:=lG hs4 (aiS h1 h2 h3 h4 h5 h6 h7)
          refine WP.seq ?_
          refine WP.nS 1 (x:= .iface 83 l7) (by kernel_rfl) rfl rfl rfl fun K hK=>?_
          simp only[ahL,ajE]
          simp +decide only[TF,↓reduceIte]
          refine hK _ _ ?_;clear hK K
          refine jq.imp (uN 2 (by decide) L6 h7) rfl rfl (by simp[lk,aB]) (by simp[lk]) (by simp[lk]) ?_
          exact lN hX rfl rfl rfl rfl rfl rfl rfl
         ·
          obtain⟨L7,y7⟩:=Uk L6 h7
          refine aJ 1 [0,2,3,4] (uM 2 (by decide) L6 h7) ?_
          rcases h8:Cm ql r7 with _ | ⟨z8,r8⟩
          ·
           have hX:=lG hs4 (aiT h1 h2 h3 h4 h5 h6 h7 h8)
           refine WP.seq ?_
           refine WP.nS 1 (x:= .iface 83 l7) (by kernel_rfl) rfl rfl rfl fun K hK=>?_
           simp only[ahL,ajE]
           simp +decide only[TF,↓reduceIte]
           refine hK _ _ ?_;clear hK K
           refine jq.imp (uN 2 (by decide) L7 h8) rfl rfl (by simp[lk,aB]) (by simp[lk]) (by simp[lk]) ?_
           exact lN hX rfl rfl rfl rfl rfl rfl rfl
          ·
           obtain⟨L8,y8⟩:=Uk L7 h8
           have hR:=aiU h1 h2 h3 h4 h5 h6 h7 h8
           refine aJ 3 [0,2,3,4] (uM 2 (by decide) L7 h8) ?_
           refine WP.lp [0,2,3,4] (X:={x:(List (List UInt8)) × (List At) // match x with|(ls,acc)=>XI ls∧zo r8.length r8 []=zo ls.length ls acc∧Ju acc∧acc.length+ls.length≤1000000}) (fun x=>match x with| ⟨(ls,acc),_⟩=>[]) (fun x=>match x with| ⟨(ls,acc),_⟩=>[(3,.aI 75 2 acc.length),(0,.box 24 [.str z1,.str z2,.str z3,.str z4,.str z5,.int .i64 z6,.int .i64 z7,.int .i64 z8,.slice 2 acc.isEmpty (acc.map At.cs) (some 3)]),(1,.box 27 [.int .i64 0]),(2,.box 88 [.slice 1 false (ls.map fun x=>[D.str x]) none])]) (fun x=>match x with| ⟨(ls,acc),_⟩=>ls.length) (by simp +decide only[W,↓reduceIte];rfl) ?_ ⟨(r8,[]),⟨L8,rfl,nofun,by have:=L8.sz;simp;omega⟩⟩ ?_
           rotate_left
           · refine Weak.trans (Weak.store (st':=⟨[(0,.str s),(2,.ref 0 0),(3,.ref 1 0),(4,.ref 2 0)],[(0,.box 24 [.str z1,.str z2,.str z3,.str z4,.str z5,.int .i64 z6,.int .i64 z7,.int .i64 z8,.slice 0 true [] none]),(1,.box 27 [.int .i64 0]),(2,.box 88 [.slice 1 false (r8.map fun x=>[D.str x]) none])]⟩) (by simp[St.get,lk,keep,ins,W,Le.refl]) (by simp[lk]) (by simp[lk]) (by simp[aB,lk]) (by simp[lk])) ?_;refine Weak.trans (Weak.ghost 3 75 2 (F':=[(0,.str s),(2,.ref 0 0),(3,.ref 1 0),(4,.ref 2 0)]) (σ':=[(0,.box 24 [.str z1,.str z2,.str z3,.str z4,.str z5,.int .i64 z6,.int .i64 z7,.int .i64 z8,.slice 2 true (([]:List At).map At.cs) (some 3)]),(1,.box 27 [.int .i64 0]),(2,.box 88 [.slice 1 false (r8.map fun x=>[D.str x]) none])]) (by simp[lk]) (by simp[zO,wJ]) (by simp[BK,OT,PV,wJ])) ?_;exact Weak.store (by simp[St.get,lk,Le.refl]) (by simp[lk]) (by simp[lk]) (by simp[aB,lk]) (by simp[lk])
           rintro ⟨⟨ls,acc⟩,⟨hL,hI,hA,hn9⟩⟩
           dsimp only
           simp only[abT]
           refine aG 2 [0,2,3,4,47] ?_
           refine WP.cond (b:=_) rfl (fun q1=>?_) (fun q1=>?_)
           ·
            have hlt:1<ls.length:=anR q1
            refine aG 2 [] ?_
            rcases acz ls with⟨hn,ht⟩ | ⟨q,hn,hu,ht⟩ | ⟨q,l,hn,hu,hl1,ht⟩ | ⟨q,n,v,l,hn,hu,ht⟩
            ·
             have hX:=lG hs4 (by rw[hR,hI,Ul hlt ht];rfl)
             refine WP.seq ?_
             refine WP.nS 1 (x:= .iface 83 l7) (by kernel_rfl) rfl rfl rfl fun K hK=>?_
             simp only[ahL,ajE]
             simp +decide only[TF,q1,↓reduceIte]
             refine hK _ _ ?_;clear hK K
             refine jq.imp (WT 2 (by decide) hL hn) rfl rfl (by simp[lk,aB]) (by simp[lk]) (by simp[lk]) ?_
             exact lN hX rfl rfl rfl rfl rfl rfl rfl
            ·
             have hX:=lG hs4 (by rw[hR,hI,Ul hlt ht];rfl)
             obtain⟨M1,M2,M3⟩:=EC hL hn
             refine OY 1 [0,2,3,4,5,6] (zu 2 (by decide) hL hn) (c_split q.1 (by omega)) q1 hu @vW.eq_def ?_
             rcases True.intro with _
             ·
              refine WP.seq ?_
              refine WP.nS 7 (x:= .iface 83 l7) (by kernel_rfl) rfl rfl rfl fun K hK=>?_
              simp only[ahL,ajE]
              simp +decide only[TF,e40,↓reduceIte]
              refine hK _ _ ?_;clear hK K
              refine jq.imp (uo) rfl rfl (by simp[lk,aB]) (by simp[lk]) (by simp[lk]) ?_
              exact lN hX rfl rfl rfl rfl rfl rfl rfl
            ·
             have hX:=lG hs4 (by rw[hR,hI,Ul hlt ht];rfl)
             obtain⟨M1,M2,M3⟩:=EC hL hn
             have hl2:=anP hl1
             refine OY 1 [0,2,3,4,5,6] (zu 2 (by decide) hL hn) (c_split q.1 (by omega)) q1 hu @vW.eq_def ?_
             rcases True.intro with _
             ·
              refine WP.seq ?_
              refine WP.nS 7 (x:= .iface 83 l7) (by kernel_rfl) rfl rfl rfl fun K hK=>?_
              simp only[ahL,ajE]
              simp +decide only[TF,hl2,↓reduceIte]
              refine hK _ _ ?_;clear hK K
              refine jq.imp (uo) rfl rfl (by simp[lk,aB]) (by simp[lk]) (by simp[lk]) ?_
              exact lN hX rfl rfl rfl rfl rfl rfl rfl
            ·
             obtain⟨M1,M2,M3⟩:=EC hL hn
             have hl2:decide (((l.length+1+1:Nat):Int)>1)=true:=decide_eq_true (by omega)
             have hao:=afM M2 hu
             have h1l:(1≤l.length+1+1)=True:=eq_true (by omega)
             have htk:List.take l.length (l.map fun x=>[D.str x])=l.map fun x=>[D.str x]:=ajr (by simp)
             refine zG7 2 [0,2,3,4,5,6] (zu 2 (by decide) hL hn) (c_split q.1 (by omega)) (Gl) q1 hu @vW.eq_def hl2 ?_
             refine WP.drawn (by kernel_rfl) (by kernel_rfl) fun K hK=>?_
             simp +decide only[TF,h1l,htk,↓reduceIte]
             refine⟨⟨by simp only[abf,ac',abN,acS];omega,by simp only[abf,ac',abN,acS];omega⟩,?_⟩
             refine hK _ _ (by kernel_rfl) ?_
             clear hK K
             show ∃y,_∧Weak _ _ _
             refine⟨⟨(q.2,acc++[⟨n,false,v::l⟩]),M1,hI.trans (aiV hlt M3 ht),hA.snoc hao,by simp only[abf,abN,acS];omega⟩,by dsimp only;omega,?_⟩
             exact Weak.store (by simp[St.get,lk,Le.refl]) (by simp[lk,JM,At.cs]) (by simp[lk]) (by simp[aB,lk,fV,fH,-List.map_append,-List.mem_map,-List.mem_append]) (by simp[lk])
           ·
            have hge:¬ 1<ls.length:=anS q1
            have hE:rdA (bH 10 [] s)=some ⟨z1,z2,z3,z4,z5,z6,z7,z8,acc.isEmpty,acc⟩:=by rw[hR,hI,afL hge];rfl
            have hA9:As.ok ⟨z1,z2,z3,z4,z5,z6,z7,z8,acc.isEmpty,acc⟩:=⟨⟨by simp only;omega,by simp only;omega,by simp only;omega,by simp only;omega,by simp only;omega⟩,⟨y6,y7,y8⟩,by simp only;omega,fun e=>List.isEmpty_iff.1 e,hA⟩
            refine aG 1 [] ?_
            refine WP.weak (st':=⟨[(0,.str s),(2,.ref 0 0),(3,.ref 1 0)],[(0,.box 24 [.str z1,.str z2,.str z3,.str z4,.str z5,.int .i64 z6,.int .i64 z7,.int .i64 z8,.slice 2 acc.isEmpty (acc.map At.cs) none]),(1,.box 27 [.int .i64 0])]⟩) ?_ ?_
            ·
             refine Weak.trans (Weak.akO 0 24 [.str z1,.str z2,.str z3,.str z4,.str z5,.int .i64 z6,.int .i64 z7,.int .i64 z8,.slice 2 acc.isEmpty (acc.map At.cs) (some 3)] [.str z1,.str z2,.str z3,.str z4,.str z5,.int .i64 z6,.int .i64 z7,.int .i64 z8,.slice 2 acc.isEmpty (acc.map At.cs) none] (by simp[lk]) ⟨Le.refl _,Le.refl _,Le.refl _,Le.refl _,Le.refl _,Le.refl _,Le.refl _,Le.refl _,Le.fg _,trivial⟩) ?_
             exact Weak.store (by simp[St.get,lk,W,Le.refl]) (by simp[lk,W]) (by simp[lk]) (by simp[aB,lk]) (by simp[lk])
            refine aJ 1 [0,2,3,7,8] (zl ⟨z1,z2,z3,z4,z5,z6,z7,z8,acc.isEmpty,acc⟩ hA9) ?_
            rcases aiW ((dX ⟨z1,z2,z3,z4,z5,z6,z7,z8,acc.isEmpty,acc⟩).2 == 0) ((dX ⟨z1,z2,z3,z4,z5,z6,z7,z8,acc.isEmpty,acc⟩).1 == s) with g1 | ⟨g1,g2⟩ | ⟨g1,g2⟩
            ·
             have hX:=afN hs4 hE g1
             refine WP.seq ?_
             refine WP.nS 7 (x:= .iface 83 l7) (by kernel_rfl) rfl rfl rfl fun K hK=>?_
             simp only[ahL,ajE]
             simp +decide only[TF,g1,↓reduceIte]
             refine hK _ _ ?_;clear hK K
             refine jq.imp (uo) rfl rfl (by simp[lk,aB]) (by simp[lk]) (by simp[lk]) ?_
             exact lN hX rfl rfl rfl rfl rfl rfl rfl
            ·
             have hX:=afO hs4 hE g2
             refine WP.seq ?_
             refine WP.nS 7 (x:= .iface 83 l7) (by kernel_rfl) rfl rfl rfl fun K hK=>?_
             simp only[ahL,ajE]
             simp +decide only[TF,g1,g2,↓reduceIte]
             refine hK _ _ ?_;clear hK K
             refine jq.imp (uo) rfl rfl (by simp[lk,aB]) (by simp[lk]) (by simp[lk]) ?_
             exact lN hX rfl rfl rfl rfl rfl rfl rfl
            ·
             have hX:=afP hs4 hE g1 g2
             refine oC 2 [2,3] (Gl) g1 g2 ?_
             refine WP.ret ?_
             refine⟨_,_,.aK,_,.no,.inl ⟨.inr rfl,rfl⟩,fun M γ w=> .aK,?_⟩
             simp +decide only[lk,aT,TF,↓reduceIte]
             refine aJ 1 [0,1,2,7] @EV ?_
             refine WP.cond (b:=false) rfl (fun q1=>by cases q1) (fun _=>?_)
             refine WP.skip ⟨.inl rfl,_,rfl,Le.of_eq ?_⟩
             unfold jw;rw[hX]
             simp +decide only[TF,fA,As.cs]
set_option maxRecDepth 10000
def gQ (t d:Int):Int:=aN (aN t+aN d)
theorem zx (t:Int):0≤aN t∧aN t≤1099511627776:=by unfold aN;split <;> (try split) <;> omega
theorem aiY {t:Int}(h0:0≤t)(h1:t≤1099511627776):aN t=t:=by unfold aN;rw[if_neg (by omega),if_neg (by omega)]
theorem Gp (t:Int):aN (aN t)=aN t:=aiY (zx t).1 (zx t).2
theorem qC (t:Int):gQ t 0=aN t:=by
 have:aN 0=0:=rfl
 unfold gQ
 rw[this,Int.add_zero,Gp]
theorem afR (t d:Int):IntKind.wrap .i64 (aN t+aN d)=aN t+aN d:=by
 have:=zx t;have:=zx d
 exact wrap_i64 (by omega) (by omega)
abbrev jG (α:Type):=List (List UInt8 × α × Nat)
section
variable {α:Type}
def gZ:jG α→List UInt8→Option α
 | [],_=>none
 |(k,d,_)::es,s=>if s=k then some d else gZ es s
def CB:jG α→List UInt8→α→jG α
 | [],_,_=>[]
 |(k,d,n)::es,s,x=>if s=k then (k,x,n)::es else (k,d,n)::CB es s x
def qx (es:jG α)(c:Nat)(s:List UInt8)(x:α):jG α:=match gZ es s with|some _=>CB es s x|none=>es++[(s,x,c)]
def uq (es:jG α)(c:Nat)(s:List UInt8):Nat:=match gZ es s with|some _=>c|none=>c+1
def xg:jG α→List UInt8→jG α
 | [],_=>[]
 |(k,d,n)::es,s=>if s=k then es else (k,d,n)::xg es s
def mE (f:α→D)(l:jG α):AO:=l.map fun e=>(e.1,f e.2.1,e.2.2)
theorem Og (f:α→D):∀(l:jG α) (s:List UInt8),jL (mE f l) s=(gZ l s).map f
 | [],_=>rfl
 |(k,d,n)::es,s=>by
  show (if s=k then some (f d) else jL (mE f es) s)=_
  rw[Og f es s,gZ]
  split <;> rfl
theorem aj6 (f:α→D):∀(l:jG α) (s:List UInt8) (x:α),Sr (mE f l) s (f x)=mE f (CB l s x)
 | [],_,_=>rfl
 |(k,d,n)::es,s,x=>by
  show (if s=k then (k,f x,n)::mE f es else (k,f d,n)::Sr (mE f es) s (f x))=_
  rw[aj6 f es s x,CB]
  split <;> rfl
theorem aj7 (f:α→D)(l:jG α)(c:Nat)(s:List UInt8)(x:α):Jy (mE f l) c s (f x)=mE f (qx l c s x):=by
 unfold Jy qx
 rw[Og]
 cases gZ l s with
 |none=>simp[mE]
 |some y=>exact aj6 f l s x
theorem afS (f:α→D)(l:jG α)(c:Nat)(s:List UInt8):Kt (mE f l) c s=uq l c s:=by
 unfold Kt uq
 rw[Og]
 cases gZ l s <;> rfl
theorem aj8 (f:α→D):∀(l:jG α) (s:List UInt8),EZ (mE f l) s=mE f (xg l s)
 | [],_=>rfl
 |(k,d,n)::es,s=>by
  show (if s=k then mE f es else (k,f d,n)::EZ (mE f es) s)=_
  rw[aj8 f es s,xg]
  split <;> rfl
theorem alJ (f:α→D)(l:jG α):(mE f l).length=l.length:=by simp[mE]
theorem Oh {f:α→D}{l:jG α}{e:List UInt8 × D × Nat}(h:e∈mE f l):∃x,(e.1,x,e.2.2)∈l∧e.2.1=f x:=by
 obtain⟨⟨a,b,c⟩,hy,rfl⟩:=List.mem_map.1 h
 exact⟨b,hy,rfl⟩
theorem aiZ (f:α→D)(l:jG α):(mE f l).map (·.1)=l.map (·.1):=by simp[mE]
theorem ai0 (f:α→D)(l:jG α):(mE f l).map (·.2.2)=l.map (·.2.2):=by simp[mE]
theorem afT (g:Nat→Nat)(f:α→D)(h:∀x,bK g (f x)=f x)(l:jG α):(mE f l).map (fun e=>(e.1,bK g e.2.1,e.2.2))=mE f l:=by
 simp only[mE,List.map_map]
 refine ajb fun e _=>?_
 simp[h]
structure Jv (l:jG α) (c:Nat):Prop where
 keys:(l.map (·.1)).Nodup
 born:(l.map (·.2.2)).Nodup
 lt:∀e∈l,e.2.2<c
theorem Jv.es {l:jG α}{c:Nat}(h:Jv l c)(f:α→D):ah' (mE f l,c):=
 ⟨by show ((mE f l).map _).Nodup;rw[aiZ];exact h.keys,by show ((mE f l).map _).Nodup;rw[ai0];exact h.born,fun e he=>by
  obtain⟨x,hx,_⟩:=Oh he
  exact h.lt _ hx⟩
theorem Jv.nil (c:Nat):Jv ([]:jG α) c:=⟨by simp,by simp,by simp⟩
theorem WW:∀{l:jG α} {s:List UInt8} {x:α},gZ l s=some x→∃n,(s,x,n)∈l
 |(k,d,n)::es,s,x,h=>by
  unfold gZ at h
  split at h
  ·rename_i e;cases h;subst e;exact⟨n,by simp⟩
  ·obtain⟨m,hm⟩:=WW h;exact⟨m,by simp[hm]⟩
theorem Gq:∀{l:jG α} {s:List UInt8},gZ l s=none↔s ∉ l.map (·.1)
 | [],s=>by simp[gZ]
 |(k,d,n)::es,s=>by
  unfold gZ
  split
  ·rename_i e;simp[e]
  ·rename_i e;rw[Gq];simp[e]
theorem Jv.filter {l:jG α}{c:Nat}(h:Jv l c)(p:List UInt8 × α × Nat→Bool):Jv (l.filter p) c:=
 ⟨(List.filter_sublist.map _).nodup h.keys,(List.filter_sublist.map _).nodup h.born,fun e he=>h.lt e (ak1.1 he).1⟩
theorem Um:∀{l:jG α},(l.map (·.1)).Nodup→∀s,xg l s=l.filter fun e=>!(e.1 == s)
 | [],_,_=>rfl
 |(k,d,n)::es,h,s=>by
  rw[ag1,anE] at h
  unfold xg
  split
  ·rename_i e;subst e
   rw[List.filter_cons_of_neg (by simp)]
   refine (List.filter_eq_self.2 fun e he=>?_).symm
   have:e.1≠s:=fun q=>h.1 (q ▸ List.mem_map.2 ⟨e,he,rfl⟩)
   simpa using this
  ·rename_i e
   rw[List.filter_cons_of_pos (by simpa using fun q=>e q.symm),Um h.2 s]
theorem Gs:∀(l:jG α) (s:List UInt8) (x:α),(CB l s x).map (·.1)=l.map (·.1)
 | [],_,_=>rfl
 |(k,d,n)::es,s,x=>by unfold CB;split <;> simp[Gs es s x]
theorem Gt:∀(l:jG α) (s:List UInt8) (x:α),(CB l s x).map (·.2.2)=l.map (·.2.2)
 | [],_,_=>rfl
 |(k,d,n)::es,s,x=>by unfold CB;split <;> simp[Gt es s x]
theorem Jv.put {l:jG α}{c:Nat}(h:Jv l c)(s:List UInt8)(x:α):Jv (qx l c s x) (uq l c s):=by
 unfold qx uq
 cases hf:gZ l s with
 |some y=>
  refine⟨by simp only;rw[Gs];exact h.keys,by simp only;rw[Gt];exact h.born,fun e he=>?_⟩
  have:e.2.2∈(CB l s x).map (·.2.2):=List.mem_map_of_mem he
  rw[Gt,List.mem_map] at this
  obtain⟨f,hf,e2⟩:=this
  have:=h.lt f hf
  simp only at *;omega
 |none=>
  have hn:=Gq.1 hf
  refine⟨?_,?_,fun e he=>?_⟩
  ·simp only[List.map_append,ag1,aj9]
   rw[List.nodup_append]
   refine⟨h.keys,by simp,fun a ha b hb=>?_⟩
   simp at hb;subst hb
   rintro rfl;exact hn ha
  ·simp only[List.map_append,ag1,aj9]
   rw[List.nodup_append]
   refine⟨h.born,by simp,fun a ha b hb=>?_⟩
   simp at hb;subst hb
   obtain⟨e,he,rfl⟩:=List.mem_map.1 ha
   have:=h.lt e he
   omega
  ·rcases List.mem_append.1 he with he|he
   ·have:=h.lt e he;simp only at *;omega
   ·simp at he;subst he;simp
theorem WX (l:jG α)(c:Nat)(s:List UInt8)(x:α):(qx l c s x).length≤l.length+1:=by
 unfold qx
 split
 ·have:=congrArg List.length (Gs l s x)
  simp at this;omega
 ·simp
theorem WY:∀(l:jG α) (s:List UInt8),(xg l s).length≤l.length
 | [],_=>by simp[xg]
 |(k,d,n)::es,s=>by unfold xg;have:=WY es s;split <;> simp;omega
end
def lV (x:List UInt8 × Int):D:= .agg [.str x.1,.int .i64 x.2]
def qE (x:Int):D:= .int .i64 x
abbrev RQ:=jG (List UInt8 × Int)
abbrev US:=jG Int
@[simp] theorem afU {S:Nat→Prop}(l:RQ):(∀e∈mE lV l,bY S e.2.1)↔True:=by
 simp only[iff_true]
 intro e he
 obtain⟨x,_,h⟩:=Oh he
 rw[h];simp[lV]
@[simp] theorem afV {S:Nat→Prop}(l:US):(∀e∈mE qE l,bY S e.2.1)↔True:=by
 simp only[iff_true]
 intro e he
 obtain⟨x,_,h⟩:=Oh he
 rw[h];simp[qE]
@[simp] theorem aoV {S:Nat→Prop}(l:RQ):(∀(a:List UInt8) (d:D) (n:Nat),(a,d,n)∈mE lV l→bY S d)↔True:=by
 simp only[iff_true]
 intro a d n he
 exact (afU (S:=S) l).2 trivial _ he
@[simp] theorem aoW {S:Nat→Prop}(l:US):(∀(a:List UInt8) (d:D) (n:Nat),(a,d,n)∈mE qE l→bY S d)↔True:=by
 simp only[iff_true]
 intro a d n he
 exact (afV (S:=S) l).2 trivial _ he
structure Rc where
 self:List UInt8
 skew:Int
 rq:RQ
 rc:Nat
 us:US
 uc:Nat
structure Rc.ok (r:Rc):Prop where
 rq:Jv r.rq r.rc
 us:Jv r.us r.uc
 skew:0≤r.skew∧r.skew≤600
 nrq:r.rq.length≤100000
 nus:r.us.length≤200
def lH (rq:RQ)(now:Int):RQ:=rq.filter fun e=>decide (aN now<e.2.1.2)
def fE (rq:RQ)(now:Int):List (List UInt8):=bU ((lH rq now).map (·.1))
def oD (rq:RQ)(now:Int):D:= .slice 1 (fE rq now).isEmpty ((fE rq now).map fun x=>[.str x]) none
@[simp] theorem amh {S:Nat→Prop}(rq:RQ)(now:Int):bY S (oD rq now)↔True:=by simp[oD,fH]
structure WI (rq:RQ) (now:Int) (seen:List Nat) (ks:List (List UInt8)):Prop where
 nodup:ks.Nodup
 old:∀k∈ks,∃d n,(k,d,n)∈rq∧aN now<d.2∧n∈seen
 all:∀e∈rq,e.2.2∈seen→aN now<e.2.1.2→e.1∈ks
theorem WI.nil (rq:RQ)(now:Int):WI rq now [] []:=⟨by simp,by simp,by simp⟩
theorem Y2 {α:Type}{l:jG α}(h:(l.map (·.1)).Nodup){k:List UInt8}{x y:α}{n m:Nat}(h1:(k,x,n)∈l)(h2:(k,y,m)∈l):x=y∧n=m:=by
 obtain⟨i,hi,e1⟩:=aja.1 h1
 obtain⟨j,hj,e2⟩:=aja.1 h2
 have:=(apb (i:=i) (j:=j) (h₀:=by simpa using hi) (h₁:=by simpa using hj) h).1 (by simp[e1,e2])
 subst this
 rw[e1] at e2
 cases e2;exact⟨rfl,rfl⟩
theorem J8 {α:Type}{l:jG α}(h:(l.map (·.2.2)).Nodup){k k':List UInt8}{x y:α}{n:Nat}(h1:(k,x,n)∈l)(h2:(k',y,n)∈l):k=k'∧x=y:=by
 obtain⟨i,hi,e1⟩:=aja.1 h1
 obtain⟨j,hj,e2⟩:=aja.1 h2
 have:=(apb (i:=i) (j:=j) (h₀:=by simpa using hi) (h₁:=by simpa using hj) h).1 (by simp[e1,e2])
 subst this
 rw[e1] at e2
 cases e2;exact⟨rfl,rfl⟩
theorem WI.step {rq:RQ}{c:Nat}{now:Int}(hq:Jv rq c){seen:List Nat}{ks:List (List UInt8)}(h:WI rq now seen ks){k:List UInt8}{x:List UInt8 × Int}{n:Nat}(he:(k,x,n)∈rq)(hs:n ∉ seen)(hw:decide (aN now<x.2)=true):WI rq now (seen++[n]) (ks++[k]):=by
 have hw':aN now<x.2:=of_decide_eq_true hw
 refine⟨?_,fun a ha=>?_,fun f hf hfs hfw=>?_⟩
 ·rw[List.nodup_append]
  refine⟨h.nodup,by simp,fun a ha b hb=>?_⟩
  simp at hb;subst hb
  rintro rfl
  obtain⟨d,m,h3,_,h4⟩:=h.old _ ha
  exact hs ((Y2 hq.keys he h3).2 ▸ h4)
 ·rcases List.mem_append.1 ha with ha|ha
  ·obtain⟨d,m,h3,h5,h4⟩:=h.old a ha;exact⟨d,m,h3,h5,by simp[h4]⟩
  ·simp at ha;subst ha;exact⟨x,n,he,hw',by simp⟩
 ·rcases List.mem_append.1 hfs with hfs|hfs
  ·exact List.mem_append_left _ (h.all f hf hfs hfw)
  ·simp at hfs
   obtain⟨a,y,m⟩:=f
   simp only at hfs;subst hfs
   rw[(J8 hq.born hf he).1];simp
theorem WI.skip {rq:RQ}{c:Nat}{now:Int}(hq:Jv rq c){seen:List Nat}{ks:List (List UInt8)}(h:WI rq now seen ks){k:List UInt8}{x:List UInt8 × Int}{n:Nat}(he:(k,x,n)∈rq)(hs:n ∉ seen)(hw:decide (aN now<x.2)=false):WI rq now (seen++[n]) ks:=by
 have hw':¬aN now<x.2:=of_decide_eq_false hw
 refine⟨h.nodup,fun a ha=>?_,fun f hf hfs hfw=>?_⟩
 ·obtain⟨d,m,h3,h5,h4⟩:=h.old a ha;exact⟨d,m,h3,h5,by simp[h4]⟩
 ·rcases List.mem_append.1 hfs with hfs|hfs
  ·exact h.all f hf hfs hfw
  ·simp at hfs
   obtain⟨a,y,m⟩:=f
   simp only at hfs hfw;subst hfs
   rw[(J8 hq.born hf he).2] at hfw
   exact absurd hfw hw'
theorem WI.len {rq:RQ}{now:Int}{seen:List Nat}{ks:List (List UInt8)}(h:WI rq now seen ks):ks.length≤rq.length:=by
 rw[← ac' (f:=fun e:List UInt8 × (List UInt8 × Int) × Nat=>e.1)]
 exact F6 h.nodup fun x hx=>by
  obtain⟨d,n,h1,_⟩:=h.old x hx
  exact List.mem_map.2 ⟨_,h1,rfl⟩
theorem Y3 {rq:RQ}{c:Nat}(hq:Jv rq c)(now:Int):((lH rq now).map (·.1)).Nodup:=(hq.filter _).keys
theorem Gu {rq:RQ}{now:Int}{k:List UInt8}:k∈fE rq now↔∃d n,(k,d,n)∈rq∧aN now<d.2:=by
 unfold fE lH
 rw[oQ,List.mem_map]
 constructor
 ·rintro ⟨⟨a,d,n⟩,h,rfl⟩
  rw[ak1] at h
  exact⟨d,n,h.1,by simpa using h.2⟩
 ·rintro ⟨d,n,h,hw⟩
  exact⟨(k,d,n),ak1.2 ⟨h,by simpa using hw⟩,rfl⟩
theorem WI.done {rq:RQ}{c:Nat}{now:Int}(hq:Jv rq c){seen:List Nat}{ks:List (List UInt8)}(h:WI rq now seen ks)(hl:jc (mE lV rq) seen=[]):bU ks=fE rq now:=by
 refine vK h.nodup (zZ (Y3 hq now)) fun x=>?_
 show x∈ks↔x∈fE rq now
 rw[Gu]
 constructor
 ·intro hx
  obtain⟨d,n,h1,h2,_⟩:=h.old x hx
  exact⟨d,n,h1,h2⟩
 ·rintro ⟨d,n,h1,h2⟩
  refine h.all _ h1 ?_ h2
  by_cases hs:n∈seen
  ·exact hs
  ·exfalso
   have:(x,lV d,n)∈jc (mE lV rq) seen:=by unfold jc;rw[ak1];exact⟨List.mem_map.2 ⟨_,h1,rfl⟩,by simpa using hs⟩
   rw[hl] at this;simp at this
theorem RG (rq:RQ)(now:Int):(fE rq now).length≤rq.length:=by
 unfold fE
 rw[dL,ac']
 exact List.length_filter_le _ _
set_option maxRecDepth 10000
theorem acA (b:Nat):eG Tryz.prog .neq 105 true (.map b) .bI=some (aH (.bool true)):=by
 simp[eG,isEq,eqNil,FH]
theorem acB (b:Nat):eG Tryz.prog .neq 169 true (.map b) .bI=some (aH (.bool true)):=by
 simp[eG,isEq,eqNil,FK]
def newE (self:List UInt8)(skew:Int):Int:=if (!(bg self))=true then 5 else if decide (gQ skew 0>600)=true then 2 else 0
theorem afW {self:List UInt8}{skew:Int}(h:bg self=false):newE self skew=5:=by unfold newE;rw[if_pos (by rw[h];rfl)]
theorem afX {self:List UInt8}{skew:Int}(h:bg self=true)(h2:decide (gQ skew 0>600)=true):newE self skew=2:=by unfold newE;rw[if_neg (by rw[h];decide),if_pos h2]
theorem Gv {self:List UInt8}{skew:Int}:newE self skew=0↔(bg self=true∧decide (gQ skew 0>600)=false):=by
 unfold newE
 split
 ·rename_i h;simp at h;rw[h];simp
 split
 ·rename_i h h2;rw[h2];simp
 ·rename_i h h2;exact⟨fun _=>⟨by simpa using h,by simpa using h2⟩,fun _=>rfl⟩
def CG (l:List Key)(a:As)(now:Int):List UInt8 × Int:=if ((dX a).2 != 0)=true then ([],(dX a).2) else if ((lS l (dX a).1 now).2 != 0)=true then ([],(lS l (dX a).1 now).2) else ((dX a).1++[126]++(lS l (dX a).1 now).1,0)
theorem afY {l:List Key}{a:As}{now:Int}(h:((dX a).2 != 0)=true):CG l a now=([],(dX a).2):=by unfold CG;rw[if_pos h]
theorem afZ {l:List Key}{a:As}{now:Int}(h:((dX a).2 != 0)=false)(h2:((lS l (dX a).1 now).2 != 0)=true):CG l a now=([],(lS l (dX a).1 now).2):=by unfold CG;rw[if_neg (by rw[h];decide),if_pos h2]
theorem Y4 {l:List Key}{a:As}{now:Int}(h:((dX a).2 != 0)=false)(h2:((lS l (dX a).1 now).2 != 0)=false):CG l a now=((dX a).1++[126]++(lS l (dX a).1 now).1,0):=by
 unfold CG;rw[if_neg (by rw[h];decide),if_neg (by rw[h2];decide)]
theorem Oi (a:As):(dX a).1.length≤4096:=by
 unfold dX
 split
 ·simp
 split
 ·simp
 ·rename_i h;simp at h;show (iL a).length≤4096;omega
theorem RH {l:List Key}(hl:∀k∈l,k.ok)(s:List UInt8)(now:Int):(lS l s now).1.length≤1099511627800:=by
 unfold lS
 split
 ·simp
 ·have h1:=(YA now hl).1
  have h2:=vJ (xG l now).sec s
  simp[wU]
  omega
def ni (s:List UInt8):Key:=⟨[107,49],s,0,50,0,80⟩
def Pn (id s:List UInt8):jO:=⟨id,[104,116,116,112,115,58,47,47]++id,[ni s],false,0,100⟩
def nH:As:=⟨[97,49],[105,100,112],[109,101],[97,110,110],[114,49],10,30,2,false,[⟨[67,78],false,[[98],[97]]⟩]⟩
set_option maxHeartbeats 4000000
theorem aaI (h:55<Tryz.prog.types.size):(Tryz.prog.types[55]'h).size=5:=by kernel_rfl
theorem BD (t d:Int):ay Pr 65 [.int .i64 t,.int .i64 d] (.int .i64 (gQ t d)):=by
 refine gK Tryz.func65 Tryz.ntmps65 ?_
 refine aG 1 [0,1,4] ?_
 refine WP.S [0,1,4] fun _ z=>?_
 simp +decide only[TF,↓reduceIte]
 refine aj.P (vk _) rfl rfl ?_
 simp +decide only[TF,↓reduceIte]
 refine aj.P (vk _) rfl rfl ?_
 simp +decide only[TF,afR,↓reduceIte]
 refine aj.P (vk _) rfl rfl ?_
 simp +decide only[TF,↓reduceIte]
 apply z;clear z
 apply WP.ret
 exact Bq @gQ.eq_def
theorem Y5:aF Pr 66 [.int .i64 256] [] (.aQ [.ref 1 0,.int .i64 0]) [(1,.box 171 [.map 0,.int .i64 256]),(0,.map [] 0)]:=by
 refine qX Tryz.func66 Tryz.ntmps66 ?_
 refine aJ 6 [0,2,3,9] @F5 ?_
 apply WP.ret
 exact zT0
abbrev Gw:List Nat:=[0,1,4,5,6,7,13,15]
theorem acC (self:List UInt8)(skew:Int)(hs:self.length≤140737488355328)(h1:(!(bg self))=false)(h2:decide (gQ skew 0>600)=false):aF Pr 22 [.str self,.int .i64 skew] [] (.aQ [.ref 3 0,.int .i64 0]) [(2,.map [] 0),(3,.box 107 [.str self,.int .i64 (gQ skew 0),.map 2,.ref 1 0]),(1,.box 171 [.map 0,.int .i64 256]),(0,.map [] 0)]:=by
 refine qX Tryz.func22 Tryz.ntmps22 ?_
 refine aG 1 Gw ?_
 refine WP.S Gw fun _ z=>?_
 simp +decide only[TF,↓reduceIte]
 refine aj.P (BD _ _) rfl rfl ?_
 simp +decide only[TF,↓reduceIte]
 apply z;clear z
 refine OY 10 Gw (kG self hs) (Y5) h1 h2 @F5 ?_
 apply WP.ret
 refine Ends.imp (d:= .aQ [_,_]) (.inr rfl) rfl (Le.of_eq (by simp[St.get,lk,W])) ?_ ?_ ?_
 ·simp[lk]
 ·simp[lk,aB]
 simp[lk]
theorem WZ (self:List UInt8)(skew:Int)(hs:self.length≤140737488355328)(h:newE self skew=0):aF Pr 22 [.str self,.int .i64 skew] [] (.aQ [.ref 3 0,.int .i64 0]) [(2,.map [] 0),(3,.box 107 [.str self,.int .i64 (gQ skew 0),.map 2,.ref 4 0]),(4,.box 171 [.map 5,.int .i64 256]),(5,.map [] 0)]:=by
 obtain⟨f,g,h1,h2⟩:=lg [5,4,2,3] (by simp)
 have:=aF.rename h1 (acC self skew hs (by rw[(Gv.1 h).1];rfl) (Gv.1 h).2)
 have f0:f 0=5:=h2 0 5 rfl
 have f1:f 1=4:=h2 1 4 rfl
 have f2:f 2=2:=h2 2 2 rfl
 have f3:f 3=3:=h2 3 3 rfl
 simpa [kC,lU,bK,iG,f0,f1,f2,f3] using this
abbrev nI:List Nat:=[0,1,4,5,6,13,15]
theorem Jw (self:List UInt8)(skew:Int)(hs:self.length≤140737488355328)(h:newE self skew≠0):ay Pr 22 [.str self,.int .i64 skew] (.aQ [.aV,.int .i64 (newE self skew)]):=by
 refine gK Tryz.func22 Tryz.ntmps22 ?_
 refine aG 1 nI ?_
 refine WP.S nI fun _ z=>?_
 simp +decide only[TF,↓reduceIte]
 refine aj.P (BD _ _) rfl rfl ?_
 simp +decide only[TF,↓reduceIte]
 apply z;clear z
 refine aJ 2 nI (kG self hs) ?_
 refine WP.cond rfl (fun q1=>?_) (fun q1=>?_)
 ·simp only[adh] at q1
  have hR:=afW (skew:=skew) q1
  refine aJ 1 nI q1 ?_
  apply WP.ret
  exact Ends.P (d:= .aQ [_,_]) rfl (Le.of_eq (by simp +decide only[St.get,lk,W,hR,↓reduceIte]))
 simp only[afE] at q1
 refine aJ 3 nI q1 ?_
 refine WP.cond rfl (fun q2=>?_) (fun q2=>?_)
 ·have hR:=afX (by assumption) q2
  refine aJ 1 nI q2 ?_
  apply WP.ret
  exact Ends.P (d:= .aQ [_,_]) rfl (Le.of_eq (by simp +decide only[St.get,lk,W,hR,↓reduceIte]))
 exact absurd (Gv.2 ⟨by assumption,q2⟩) h
theorem Gx (r:Rc):aF Pr 74 [.ref 3 0] [(2,.map (mE lV r.rq) r.rc),(3,.box 107 [.str r.self,.int .i64 r.skew,.map 2,.ref 4 0]),(4,.box 171 [.map 5,.int .i64 256]),(5,.map (mE qE r.us) r.uc)] (.bool true) [(2,.map (mE lV r.rq) r.rc),(3,.box 107 [.str r.self,.int .i64 r.skew,.map 2,.ref 4 0]),(4,.box 171 [.map 5,.int .i64 256]),(5,.map (mE qE r.us) r.uc)]:=by
 refine qX Tryz.func74 Tryz.ntmps74 ?_
 refine aJ 2 [0,2] @acA ?_
 apply WP.ret
 exact ZN
theorem BF:ay Pr 74 [.aV] (.bool false):=by
 refine gK Tryz.func74 Tryz.ntmps74 ?_
 refine aG 2 [0,2] ?_
 apply WP.ret
 exact Ya
theorem ai1 (us:US)(c:Nat):aF Pr 144 [.ref 4 0] [(4,.box 171 [.map 5,.int .i64 256]),(5,.map (mE qE us) c)] (.bool true) [(4,.box 171 [.map 5,.int .i64 256]),(5,.map (mE qE us) c)]:=by
 refine qX Tryz.func144 Tryz.ntmps144 ?_
 refine aJ 2 [0,2] @acB ?_
 apply WP.ret
 exact ZN
abbrev vX:List Nat:=[0,2,4,6,7,8,9,10,11,18,28]
theorem acD (l:List Key)(nl:Bool)(hn:l.length≤1099511627776)(hnl:nl=true→l=[])(hl:∀k∈l,k.ok)(a:As)(ha:a.ok)(now:Int):ay Pr 19 [.slice 6 nl (l.map Key.cs) none,.agg [.str a.id,.str a.iw,.str a.jV,.str a.sub,.str a.req,.int .i64 a.kK,.int .i64 a.fD,.int .i64 a.lvl,.slice 2 a.nl (a.ats.map At.cs) none],.int .i64 now] (.aQ [.str (CG l a now).1,.int .i64 (CG l a now).2]):=by
 have hlen:=Oi a
 have hsl:=RH hl (dX a).1 now
 refine gK Tryz.func19 Tryz.ntmps19 ?_
 refine aJ 4 vX (zl a ha) ?_
 refine WP.cond rfl (fun q1=>?_) (fun q1=>?_)
 ·have hR:=afY (l:=l) (now:=now) q1
  refine aJ 1 vX q1 ?_
  apply WP.ret
  exact Ends.P (d:= .aQ [_,_]) rfl (Le.of_eq (by simp +decide only[St.get,lk,W,hR,↓reduceIte]))
 refine jd 4 vX (aeO l nl hn hnl hl (dX a).1 (by omega) now) q1 ?_
 refine WP.cond rfl (fun q2=>?_) (fun q2=>?_)
 ·have hR:=afZ (by assumption) q2
  refine aJ 1 vX q2 ?_
  apply WP.ret
  exact Ends.P (d:= .aQ [_,_]) rfl (Le.of_eq (by simp +decide only[St.get,lk,W,hR,↓reduceIte]))
 have hR:=Y4 (by assumption) q2
 refine aG 1 [] ?_
 refine WP.S vX fun _ z=>?_
 simp +decide only[TF,q2,↓reduceIte]
 refine⟨by omega,by simp only[abf,abN,acS];omega,?_⟩
 apply z;clear z
 apply WP.ret
 exact Ends.P (d:= .aQ [_,_]) rfl (Le.of_eq (by simp +decide only[St.get,lk,W,hR,↓reduceIte]))
abbrev qy:List Nat:=[0,2,4,6,7,8,9,10,17,27]
theorem W9 (l:List Key)(nl:Bool)(hn:l.length≤1099511627776)(hnl:nl=true→l=[])(hl:∀k∈l,k.ok)(a:As)(ha:a.ok)(now:Int):ay Pr 20 [.slice 6 nl (l.map Key.cs) none,.agg [.str a.id,.str a.iw,.str a.jV,.str a.sub,.str a.req,.int .i64 a.kK,.int .i64 a.fD,.int .i64 a.lvl,.slice 2 a.nl (a.ats.map At.cs) none],.int .i64 now] (.aQ [.str (CG l a now).1,.int .i64 (CG l a now).2]):=by
 have hlen:=Oi a
 have hsl:=RH hl (dX a).1 now
 refine gK Tryz.func20 Tryz.ntmps20 ?_
 refine aJ 4 qy (BA a ha) ?_
 refine WP.cond rfl (fun q1=>?_) (fun q1=>?_)
 ·have hR:=afY (l:=l) (now:=now) q1
  refine aJ 1 qy q1 ?_
  apply WP.ret
  exact Ends.P (d:= .aQ [_,_]) rfl (Le.of_eq (by simp +decide only[St.get,lk,W,hR,↓reduceIte]))
 refine jd 4 qy (aeP l nl hn hnl hl (dX a).1 (by omega) now) q1 ?_
 refine WP.cond rfl (fun q2=>?_) (fun q2=>?_)
 ·have hR:=afZ (by assumption) q2
  refine aJ 1 qy q2 ?_
  apply WP.ret
  exact Ends.P (d:= .aQ [_,_]) rfl (Le.of_eq (by simp +decide only[St.get,lk,W,hR,↓reduceIte]))
 have hR:=Y4 (by assumption) q2
 refine aG 1 [] ?_
 refine WP.S qy fun _ z=>?_
 simp +decide only[TF,q2,↓reduceIte]
 refine⟨by omega,by simp only[abf,abN,acS];omega,?_⟩
 apply z;clear z
 apply WP.ret
 exact Ends.P (d:= .aQ [_,_]) rfl (Le.of_eq (by simp +decide only[St.get,lk,W,hR,↓reduceIte]))
theorem Y6 (s:List UInt8):ay Pr 37 [.str s] (.slice 6 false ([ni s].map Key.cs) none):=by
 refine gK Tryz.func37 Tryz.ntmps37 ?_
 refine aG 2 [0,2] ?_
 apply WP.ret
 exact Ends.pure (.inr rfl) rfl (Le.of_eq (by simp +decide only[St.get,W,ni,Key.cs,↓reduceIte])) (by simp[ni,Key.cs])
theorem sF (id s:List UInt8)(h:id.length≤1000):ay Pr 27 [.str id,.str s] (.agg (Pn id s).cs):=by
 refine gK Tryz.func27 Tryz.ntmps27 ?_
 refine aG 1 [0,1,4] ?_
 refine WP.S [0,1,4] fun _ z=>?_
 simp +decide only[TF,↓reduceIte]
 refine⟨by first|omega|(simp only[abf,abN,acS];omega),?_⟩
 refine aj.P (Y6 s) rfl rfl ?_
 simp +decide only[TF,↓reduceIte]
 apply z;clear z
 apply WP.ret
 exact Ends.pure (.inr rfl) rfl (Le.of_eq (by simp +decide only[W,ak,aaI,Pn,jO.cs,Key.cs,ni])) (by simp[jO.cs,Pn,ni,Key.cs])
theorem af0:ay Pr 42 [] (.agg nH.cs):=by
 refine gK Tryz.func42 Tryz.ntmps42 ?_
 refine aG 2 [0] ?_
 apply WP.ret
 exact Ends.pure (.inr rfl) rfl (Le.of_eq (by simp +decide only[W,ak,fA,nH,As.cs,At.cs])) (by simp[nH,As.cs,At.cs])
@[simp] theorem apZ (t:Nat)(l:RQ):(∀(a:List UInt8) (d:D) (n:Nat),(a,d,n)∈mE lV l→Fr t d)↔True:=by
 simp only[iff_true]
 intro a d n h
 obtain⟨x,_,e⟩:=Oh h
 simp only at e;subst e
 exact .agg (by simp)
@[simp] theorem ap0 (t:Nat)(l:US):(∀(a:List UInt8) (d:D) (n:Nat),(a,d,n)∈mE qE l→Fr t d)↔True:=by
 simp only[iff_true]
 intro a d n h
 obtain⟨x,_,e⟩:=Oh h
 simp only at e;subst e
 exact .int _ _
theorem RI {rq:RQ}{now:Int}{ks:List (List UInt8)}(h:bU ks=fE rq now):Le (.slice 1 ks.isEmpty ((bU ks).map fun x=>[D.str x]) none) (oD rq now):=by
 have e2:ks.isEmpty=(fE rq now).isEmpty:=by
  have:=congrArg List.length h
  rw[dL] at this
  rw[agZ,List.isEmpty_iff_length_eq_zero,List.isEmpty_iff_length_eq_zero,this]
 unfold oD
 rw[← h,← e2] at *
 rw[h,e2]
 exact Le.refl _
def Po (us:US)(id:List UInt8)(u now:Int):Int:=if bg id=false then 5 else if decide (aN u≤aN now)=true then 13 else match gZ us id with|some old=>if decide (old>aN now)=true then 18 else 0|none=>0
def gG (us:US)(c:Nat)(id:List UInt8)(u now:Int):Int × US × Nat:=if Po us id u now=0 then (0,qx us c id (aN u),uq us c id) else (Po us id u now,us,c)
theorem af2 {us:US}{c:Nat}{id:List UInt8}{u now e:Int}(h:Po us id u now=e)(he:e≠0):gG us c id u now=(e,us,c):=by unfold gG;rw[if_neg (by rw[h];exact he),h]
theorem aj_ {us:US}{c:Nat}{id:List UInt8}{u now:Int}(h:Po us id u now=0):gG us c id u now=(0,qx us c id (aN u),uq us c id):=by unfold gG;rw[if_pos h]
section
variable {us:US} {c:Nat} {id:List UInt8} {u now:Int}
theorem W_ (h:bg id=false):gG us c id u now=(5,us,c):=af2 (by unfold Po;rw[if_pos h]) (by decide)
theorem Oj (h:bg id=true)(h2:decide (aN u≤aN now)=true):gG us c id u now=(13,us,c):=af2 (by unfold Po;rw[if_neg (by rw[h];decide),if_pos h2]) (by decide)
theorem Un {old:Int}(h:bg id=true)(h2:decide (aN u≤aN now)=false)(h3:gZ us id=some old)(h4:decide (old>aN now)=true):gG us c id u now=(18,us,c):=
 af2 (by unfold Po;rw[if_neg (by rw[h];decide),if_neg (by rw[h2];decide),h3];exact if_pos h4) (by decide)
theorem af4 {old:Int}(h:bg id=true)(h2:decide (aN u≤aN now)=false)(h3:gZ us id=some old)(h4:decide (old>aN now)=false):gG us c id u now=(0,qx us c id (aN u),uq us c id):=
 aj_ (by unfold Po;rw[if_neg (by rw[h];decide),if_neg (by rw[h2];decide),h3];exact if_neg (by rw[h4];decide))
theorem Uo (h:bg id=true)(h2:decide (aN u≤aN now)=false)(h3:gZ us id=none):gG us c id u now=(0,qx us c id (aN u),uq us c id):=
 aj_ (by unfold Po;rw[if_neg (by rw[h];decide),if_neg (by rw[h2];decide),h3])
end
theorem af5 (us:US)(c:Nat)(s:List UInt8)(x:Int):Jy (mE qE us) c s (.int .i64 x)=mE qE (qx us c s x):=aj7 qE us c s x
theorem aaJ (us:US)(c:Nat)(s:List UInt8):Kt (mE qE us) c s=uq us c s:=afS qE us c s
theorem aaK (us:US)(s:List UInt8):jL (mE qE us) s=(gZ us s).map qE:=Og qE us s
theorem anT {us:US}(h:us.length≤200):decide (((mE qE us).length:Int)<256)=true:=decide_eq_true (by rw[alJ];omega)
def Ur (r:Rc)(id p:List UInt8)(u now:Int):Int:=if (!(bg id) || !(bg p))=true then 5 else if decide (aN u≤aN now)=true then 13 else if (fE r.rq now).contains id=true then 7 else if decide (((fE r.rq now).length:Int)≥256)=true then 3 else 0
def lI (r:Rc)(id p:List UInt8)(u now:Int):Int × Rc:=if Ur r id p u now=0 then (0,{ r with rq:=qx (lH r.rq now) r.rc id (p,aN u),rc:=uq (lH r.rq now) r.rc id }) else (Ur r id p u now,r)
theorem Xa {r:Rc}{id p:List UInt8}{u now e:Int}(h:Ur r id p u now=e)(he:e≠0):lI r id p u now=(e,r):=by unfold lI;rw[if_neg (by rw[h];exact he),h]
section
variable {r:Rc} {id p:List UInt8} {u now:Int}
theorem Y7 (h:bg id=false):lI r id p u now=(5,r):=Xa (by unfold Ur;rw[if_pos (by rw[h];rfl)]) (by decide)
theorem Y8 (h:bg id=true)(h1:bg p=false):lI r id p u now=(5,r):=Xa (by unfold Ur;rw[if_pos (by rw[h,h1];rfl)]) (by decide)
theorem Y9 (h:bg id=true)(h1:bg p=true)(h2:decide (aN u≤aN now)=true):lI r id p u now=(13,r):=Xa (by unfold Ur;rw[if_neg (by rw[h,h1];decide),if_pos h2]) (by decide)
theorem aaL (h:bg id=true)(h1:bg p=true)(h2:decide (aN u≤aN now)=false)(h3:(fE r.rq now).contains id=true):lI r id p u now=(7,r):=Xa (by unfold Ur;rw[if_neg (by rw[h,h1];decide),if_neg (by rw[h2];decide),if_pos h3]) (by decide)
theorem af6 (h:bg id=true)(h1:bg p=true)(h2:decide (aN u≤aN now)=false)(h3:(fE r.rq now).contains id=false)(h4:decide (((fE r.rq now).length:Int)≥256)=true):lI r id p u now=(3,r):=
 Xa (by unfold Ur;rw[if_neg (by rw[h,h1];decide),if_neg (by rw[h2];decide),if_neg (by rw[h3];decide),if_pos h4]) (by decide)
theorem Xb (h:bg id=true)(h1:bg p=true)(h2:decide (aN u≤aN now)=false)(h3:(fE r.rq now).contains id=false)(h4:decide (((fE r.rq now).length:Int)≥256)=false):
  lI r id p u now=(0,{ r with rq:=qx (lH r.rq now) r.rc id (p,aN u),rc:=uq (lH r.rq now) r.rc id }):=by
 unfold lI
 rw[if_pos (by unfold Ur;rw[if_neg (by rw[h,h1];decide),if_neg (by rw[h2];decide),if_neg (by rw[h3];decide),if_neg (by rw[h4];decide)])]
end
theorem alK (rq:RQ)(c:Nat)(s p:List UInt8)(u:Int):Jy (mE lV rq) c s (.agg [.str p,.int .i64 u])=mE lV (qx rq c s (p,u)):=aj7 lV rq c s (p,u)
theorem ai2 (rq:RQ)(c:Nat)(s:List UInt8):Kt (mE lV rq) c s=uq rq c s:=afS lV rq c s
theorem aaM (rq:RQ)(s:List UInt8):jL (mE lV rq) s=(gZ rq s).map lV:=Og lV rq s
theorem af7 (rq:RQ)(s:List UInt8):EZ (mE lV rq) s=mE lV (xg rq s):=aj8 lV rq s
def lT (rq:RQ)(now:Int)(seen:List Nat):RQ:=rq.filter fun e=>!(seen.contains e.2.2) || decide (aN now<e.2.1.2)
theorem acE (rq:RQ)(now:Int):lT rq now []=rq:=by
 unfold lT
 exact List.filter_eq_self.2 fun e _=>by simp
theorem Y_ {rq:RQ}{c:Nat}{now:Int}(hq:Jv rq c){seen:List Nat}{k:List UInt8}{x:List UInt8 × Int}{n:Nat}(he:(k,x,n)∈rq)(hw:k∈fE rq now):lT rq now (seen++[n])=lT rq now seen:=by
 obtain⟨d,m,h1,h2⟩:=Gu.1 hw
 have h3:=(Y2 hq.keys he h1).1
 subst h3
 unfold lT
 refine List.filter_congr fun e hm=>?_
 by_cases hn:e.2.2=n
 ·obtain⟨a,y,m'⟩:=e
  simp only at hn;subst hn
  obtain⟨rfl,rfl⟩:=J8 hq.born hm he
  simp[h2]
 ·simp[hn]
theorem af8 {rq:RQ}{c:Nat}{now:Int}(hq:Jv rq c){seen:List Nat}{k:List UInt8}{x:List UInt8 × Int}{n:Nat}(he:(k,x,n)∈rq)(hw:k ∉ fE rq now):xg (lT rq now seen) k=lT rq now (seen++[n]):=by
 have hnw:¬aN now<x.2:=fun h=>hw (Gu.2 ⟨x,n,he,h⟩)
 unfold lT
 rw[Um (hq.filter _).keys]
 rw[List.filter_filter]
 refine List.filter_congr fun e hm=>?_
 obtain⟨a,y,m⟩:=e
 by_cases hn:m=n
 ·subst hn
  obtain⟨rfl,rfl⟩:=J8 hq.born hm he
  simp[hnw]
 ·have hk:a≠k:=fun e2=>hn (by subst e2;exact (Y2 hq.keys hm he).2)
  simp[hn,hk]
theorem Za {rq:RQ}{now:Int}{seen:List Nat}(hl:jc (mE lV (lT rq now seen)) seen=[]):lT rq now seen=lH rq now:=by
 unfold lT lH
 refine List.filter_congr fun e hm=>?_
 obtain⟨a,y,m⟩:=e
 by_cases hs:m∈seen
 ·simp[hs]
 ·exfalso
  have h1:(a,y,m)∈lT rq now seen:=ak1.2 ⟨hm,by simp[hs]⟩
  have:(a,lV y,m)∈jc (mE lV (lT rq now seen)) seen:=by
   unfold jc;rw[ak1];exact⟨List.mem_map.2 ⟨_,h1,rfl⟩,by simpa using hs⟩
  rw[hl] at this;simp at this
theorem acF {rq:RQ}{now:Int}{seen:List Nat}{e:List UInt8 × (List UInt8 × Int) × Nat}(h:e∈lT rq now seen):e∈rq:=(ak1.1 h).1
theorem Xc {rq:RQ}{now:Int}{seen:List Nat}{k:List UInt8}{x:List UInt8 × Int}{n:Nat}(h:(k,lV x,n)∈jc (mE lV (lT rq now seen)) seen):(jc (mE lV (lT rq now (seen++[n]))) (seen++[n])).length<(jc (mE lV (lT rq now seen)) seen).length:=by
 have e:jc (mE lV (lT rq now (seen++[n]))) (seen++[n])=jc (mE lV (lT rq now seen)) (seen++[n]):=by
  unfold jc mE lT
  rw[List.filter_map,List.filter_map,List.filter_filter,List.filter_filter]
  congr 1
  refine List.filter_congr fun e _=>?_
  simp only[Function.comp,List.contains_eq_mem,List.mem_append,ad1]
  by_cases h1:e.2.2∈seen <;> by_cases h2:e.2.2=n <;> simp[h1,h2]
 rw[e]
 have:=TT h
 exact this
end Go.Proofs
