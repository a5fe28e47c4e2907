import Derived.Test.YtekopfoidhhedaaGreatDoorG13
import Derived.Test.YtekopfoidhhedaaGreatDoorG35
set_option linter.unusedVariables false
set_option linter.unusedSimpArgs false
set_option linter.unnecessarySimpa false
set_option maxRecDepth 10000
namespace Go.Proofs
open Go Go.Id
set_option maxHeartbeats 16000000
set_option maxRecDepth 100000
theorem Zz (W0:World)(v0:Value)(self:List UInt8)(skew:Int)(l:List lJ)(nl:Bool)(hnl:nl=true→l=[])(hb:∀o∈l,o.a.big)(hv0:Rep (fun _ _=>False) (fun _=>none) W0 (.slice 16 nl (l.map lJ.cs) none) v0):ay (Pr.since W0) 5 [.str self,.int .i64 skew,.val v0] (.bool true):=by
 refine gK Tryz.func5 Tryz.ntmps5 ?_
 refine oC 2 [0,1,2] @EV @dF.aS @St.put.eq_def ?_
 refine WP.srV 2 v0 (.slice 16 nl (l.map lJ.cs) none) [0,1,2,25] (by kernel_rfl) (by simp[St.get,lk,W]) hv0 (by kernel_rfl) fun K hK=>?_
 simp +decide only[TF,EV,dF.aS,St.put,St.lay,dl,↓reduceIte]
 refine aj.pure (ay.since (Xm l nl hnl hb) W0) rfl rfl (by simp[fV]) ?_
 refine ah.take 2 fun J hJ=>?_
 simp +decide only[TF,EV,dF.aS,St.put,St.lay,dl,↓reduceIte]
 refine hJ _ _ ?_;clear hJ J
 refine ah.part 21 rfl (fun q1=>?_) (fun q1=>?_)
 ·
  simp only[adh] at q1
  simp +decide only[TF,EV,q1,dF.aS,St.put,St.lay,dl,↓reduceIte]
  refine hK _ _ ?_;clear hK K
  refine WP.cond (b:=true) (by rfl) (fun _=>?_) nofun
  refine CO 1 [6] (ay.since (J_) W0) @EV @dF.aS @St.put.eq_def ?_
  refine WP.ret ?_
  exact Ends.pure (.inr rfl) rfl (Le.of_eq (by simp +decide only[St.get,W,↓reduceIte])) (by simp)
 ·
  simp only[afE] at q1
  have hl:uy l=true:=by simpa using q1
  obtain⟨hn16,hok⟩:=acT hb hl
  simp +decide only[TF,EV,q1,dF.aS,St.put,St.lay,dl,↓reduceIte]
  refine hK _ _ ?_;clear hK K
  refine WP.cond (b:=_) rfl (fun q2=>?_) (fun q2=>?_)
  ·
   refine OY 1 [6] (ay.since (J_) W0) q2 @EV @dF.aS @St.put.eq_def ?_
   refine WP.ret ?_
   exact Ends.pure (.inr rfl) rfl (Le.of_eq (by simp +decide only[St.get,W,↓reduceIte])) (by simp)
  ·
   have hs3:self.length≤300:=by have:=of_decide_eq_false q2;omega
   refine aG 1 [] ?_
   rcases Decidable.em (newE self skew=0) with h9|h9
   ·
    have ap9:=al4 h9
    refine zG6 4 [0,1,2,7,8,9,10,49] ((WZ self skew (by omega) h9).since W0) ((XE self skew (by omega) h9).since W0) @EV q2 @dF.aS @St.put.eq_def ?_
    refine WP.cond (b:=false) (by rfl) nofun (fun _=>?_)
    refine OY 2 [2,7,9,11,12] ((agE).since W0) ((XD).since W0) @EV @St.put.eq_def @dF.aS ?_
    refine WP.weak (st':=⟨[(12,.ref 16 0),(11,.ref 1 0),(9,.ref 11 0),(7,.ref 3 0),(2,.val v0)],[(15,.aI 55 5 0),(12,.aI 213 2 0),(10,.aI 126 3 0),(0,.map (sQ dI) 2),(1,.box 138 [.map 0]),(2,.map [] 0),(3,.box 107 [.str self,.int .i64 (gQ skew 0),.map 2,.ref 4 0]),(4,.box 171 [.map 5,.int .i64 256]),(5,.map [] 0),(11,.box 114 [.bool true,.str self,.int .i64 (gQ skew 0),.slice 3 true [] (some 10),.ref 13 0]),(13,.box 174 [.int .i64 256,.slice 2 true [] (some 12)]),(16,.box 117 [.slice 5 true [] (some 15)])]⟩) (Weak.trans (Weak.store (st':=⟨[(12,.ref 16 0),(11,.ref 1 0),(9,.ref 11 0),(7,.ref 3 0),(2,.val v0)],[(0,.map (sQ dI) 2),(1,.box 138 [.map 0]),(2,.map [] 0),(3,.box 107 [.str self,.int .i64 (gQ skew 0),.map 2,.ref 4 0]),(4,.box 171 [.map 5,.int .i64 256]),(5,.map [] 0),(11,.box 114 [.bool true,.str self,.int .i64 (gQ skew 0),.slice 0 true [] none,.ref 13 0]),(13,.box 174 [.int .i64 256,.slice 0 true [] none]),(16,.box 117 [.slice 0 true [] none])]⟩) (by simp[St.get,lk,W,Le.refl]) (by simp[lk]) (by simp[lk]) (by simp[aB,lk]) (by simp[lk])) (Weak.trans (Weak.ghost 10 126 3 (F':=[(12,.ref 16 0),(11,.ref 1 0),(9,.ref 11 0),(7,.ref 3 0),(2,.val v0)]) (σ':=[(0,.map (sQ dI) 2),(1,.box 138 [.map 0]),(2,.map [] 0),(3,.box 107 [.str self,.int .i64 (gQ skew 0),.map 2,.ref 4 0]),(4,.box 171 [.map 5,.int .i64 256]),(5,.map [] 0),(11,.box 114 [.bool true,.str self,.int .i64 (gQ skew 0),.slice 3 true [] (some 10),.ref 13 0]),(13,.box 174 [.int .i64 256,.slice 0 true [] none]),(16,.box 117 [.slice 0 true [] none])]) (by simp[lk]) (by simp[zO,wJ]) (by simp[BK,OT,PV,wJ])) (Weak.trans (Weak.ghost 12 213 2 (F':=[(12,.ref 16 0),(11,.ref 1 0),(9,.ref 11 0),(7,.ref 3 0),(2,.val v0)]) (σ':=[(10,.aI 126 3 0),(0,.map (sQ dI) 2),(1,.box 138 [.map 0]),(2,.map [] 0),(3,.box 107 [.str self,.int .i64 (gQ skew 0),.map 2,.ref 4 0]),(4,.box 171 [.map 5,.int .i64 256]),(5,.map [] 0),(11,.box 114 [.bool true,.str self,.int .i64 (gQ skew 0),.slice 3 true [] (some 10),.ref 13 0]),(13,.box 174 [.int .i64 256,.slice 2 true [] (some 12)]),(16,.box 117 [.slice 0 true [] none])]) (by simp[lk]) (by simp[zO,wJ]) (by simp[BK,OT,PV,wJ])) (Weak.ghost 15 55 5 (F':=[(12,.ref 16 0),(11,.ref 1 0),(9,.ref 11 0),(7,.ref 3 0),(2,.val v0)]) (σ':=[(12,.aI 213 2 0),(10,.aI 126 3 0),(0,.map (sQ dI) 2),(1,.box 138 [.map 0]),(2,.map [] 0),(3,.box 107 [.str self,.int .i64 (gQ skew 0),.map 2,.ref 4 0]),(4,.box 171 [.map 5,.int .i64 256]),(5,.map [] 0),(11,.box 114 [.bool true,.str self,.int .i64 (gQ skew 0),.slice 3 true [] (some 10),.ref 13 0]),(13,.box 174 [.int .i64 256,.slice 2 true [] (some 12)]),(16,.box 117 [.slice 5 true [] (some 15)])]) (by simp[lk]) (by simp[zO,wJ]) (by simp[BK,OT,PV,wJ]))))) ?_
    refine WP.sr [2,7,9,11,12] (by kernel_rfl) fun K hK=>?_
    simp +decide only[TF,EV,dF.aS,St.put,St.lay,dl,↓reduceIte]
    refine aj.pure (ay.since (sF AQ [115] (by decide)) W0) rfl rfl (by simp[fV]) ?_
    simp +decide only[TF,EV,St.put,St.lay,dl,↓reduceIte]
    refine aj.imp ((ES [] true (fun _=>rfl) (by decide) ou.nil 0 PI Xh 0).since W0) rfl rfl (by simp[lk,aB,og]) (by simp[lk]) (by simp[lk,og]) ?_
    simp +decide only[TF,EV,St.put,St.lay,dl,Sl,GI,↓reduceIte]
    refine hK _ _ ?_;clear hK K
    refine zG7 3 [2,7,9,11,12,73] (ay.since (sF ajd [111] (by decide)) W0) ((ES ML false nofun (by decide) al1 1 PO agC 0).since W0) @EV @dF.aS @St.put.eq_def @Sl @aaX ?_
    refine WP.cond (b:=false) (by rfl) nofun (fun _=>?_)
    refine oC 4 [2,7,9,11,12,13] @EV @dF.aS @St.put.eq_def ?_
    refine WP.lp [2,7,9,11,12] (X:={x:(Nat) × (Rc) × (Bool) × (Bool) // match x with|(k,r,nq,nu)=>k≤l.length∧r.at k∧(nq=true→r.rq=[])∧(nu=true→r.us=[])}) (fun x=>match x with| ⟨(k,r,nq,nu),_⟩=>[(13,.int .i64 k)]) (fun x=>match x with| ⟨(k,r,nq,nu),_⟩=>[(0,.map (sQ dI) 2),(1,.box 138 [.map 0]),(2,.map (mE lV r.rq) r.rc),(3,.box 107 [.str r.self,.int .i64 r.skew,.map 2,.ref 4 0]),(4,.box 171 [.map 5,.int .i64 256]),(5,.map (mE qE r.us) r.uc),(10,.aI 126 3 r.rq.length),(11,.box 114 [.bool true,.str r.self,.int .i64 r.skew,.slice 3 nq (r.rq.map jM) (some 10),.ref 13 0]),(12,.aI 213 2 r.us.length),(13,.box 174 [.int .i64 256,.slice 2 nu (r.us.map n_) (some 12)]),(15,.aI 55 5 dI.length),(16,.box 117 [.slice 5 false (og dI) (some 15)])]) (fun x=>match x with| ⟨(k,r,nq,nu),_⟩=>l.length - k) (by simp +decide only[W,↓reduceIte];rfl) ?_ ⟨(0,⟨self,gQ skew 0,[],0,[],0⟩,true,true),⟨ada _,ap9,fun _=>rfl,fun _=>rfl⟩⟩ ?_
    rotate_left
    · exact CP @mE.eq_def @og.eq_def
    rintro ⟨⟨k,r,nq,nu⟩,⟨hk,hat,hnq,hnu⟩⟩
    dsimp only
    simp only[abS,abT]
    refine WP.seq ?_
    refine WP.srV 2 v0 (.slice 16 nl (l.map lJ.cs) none) [2,7,9,11,12,13,77] (by kernel_rfl) (by simp[St.get,lk]) hv0 (by kernel_rfl) fun K hK=>?_
    simp +decide only[TF,EV,dF.aS,St.put,St.lay,dl,↓reduceIte]
    refine hK _ _ ?_;clear hK K
    refine WP.cond (b:=_) rfl (fun q3=>?_) (fun q3=>?_)
    ·
     have hlt:=aO q3
     have hg:(l.map lJ.cs)[k]?=some [.int .i64 l[k].call,.int .i64 l[k].fD,.int .i64 l[k].now,.str l[k].id,.str l[k].part,.str l[k].a.id,.str l[k].a.iw,.str l[k].a.jV,.str l[k].a.sub,.str l[k].a.req,.int .i64 l[k].a.kK,.int .i64 l[k].a.fD,.int .i64 l[k].a.lvl,.slice 2 l[k].a.nl (l[k].a.ats.map At.cs) none,.str l[k].sec,.str l[k].s]:=getM hlt
     have hnf:=aX hnl hlt
     have hoo:=hok _ (adb hlt)
     have aju:=aoa (ms:=dI) hat (by omega) l[k]
     have hnr:r.rq.length≤1000:=by have:=hat.nrq;omega
     have ajv:r.us.length≤200:=by have:=hat.nus;omega
     have ap_:(bV dI r l[k]).2.2.rq.length≤1000:=by have:=aju.nrq;omega
     have hwl:(fE (bV dI r l[k]).2.2.rq l[k].now).length≤1000:=by have:=RG (bV dI r l[k]).2.2.rq l[k].now;omega
     refine aG 3 [] ?_
     refine WP.amW ⟨[(2,.val v0),(7,.ref 3 0),(9,.ref 11 0),(11,.ref 1 0),(12,.ref 16 0),(13,.int .i64 k),(14,.ref 17 0),(15,.int .i64 (bV dI r l[k]).2.1),(16,.ref 18 0),(17,.int .i64 (bV dI r l[k]).2.1)],[(0,.map (sQ dI) 2),(1,.box 138 [.map 0]),(2,.map (mE lV (bV dI r l[k]).2.2.rq) (bV dI r l[k]).2.2.rc),(3,.box 107 [.str (bV dI r l[k]).2.2.self,.int .i64 (bV dI r l[k]).2.2.skew,.map 2,.ref 4 0]),(4,.box 171 [.map 5,.int .i64 256]),(5,.map (mE qE (bV dI r l[k]).2.2.us) (bV dI r l[k]).2.2.uc),(10,.aI 126 3 (bV dI r l[k]).2.2.rq.length),(11,.box 114 [.bool true,.str (bV dI r l[k]).2.2.self,.int .i64 (bV dI r l[k]).2.2.skew,.slice 3 (Xp (bV dI r l[k]).2.1 nq) ((bV dI r l[k]).2.2.rq.map jM) (some 10),.ref 13 0]),(12,.aI 213 2 (bV dI r l[k]).2.2.us.length),(13,.box 174 [.int .i64 256,.slice 2 (nuP r l[k] nu) ((bV dI r l[k]).2.2.us.map n_) (some 12)]),(15,.aI 55 5 dI.length),(16,.box 117 [.slice 5 false (og dI) (some 15)]),(17,.box 24 (As.cs (bV dI r l[k]).1)),(18,.box 24 (As.cs (bV dI r l[k]).1))]⟩ ?_ ?_
     ·
      rcases Zx dI r l[k] with h1 | ⟨h1,h0⟩ | ⟨h1,h0,hu⟩ | ⟨h1,h0,hu⟩
      ·
       have hr2:=agU h1
       have hn2:=aol (nu:=nu) h1
       have hn3:Xp (bV dI r l[k]).2.1 nq=nq:=if_neg h1
       refine WP.qI 2 v0 (.slice 16 nl (l.map lJ.cs) none) (by kernel_rfl) (by simp[St.get,W]) hv0 (by kernel_rfl) fun K hK=>?_
       simp +decide only[TF,EV,q3,hg,hnf,dF.aS,St.put,St.lay,dl,↓reduceIte]
       refine aj.imp ((ajh dI 2 zA r hat.ok l[k] hoo).since W0) rfl rfl (by simp[lk,aB]) (by simp[lk]) (by simp[lk]) ?_
       simp +decide only[TF,EV,hr2,dF.aS,St.put,As.cs,St.lay,dl,↓reduceIte]
       refine hK _ _ ?_;clear hK K
       show WP _ _ _ _ _ _
       refine WP.qI 2 v0 (.slice 16 nl (l.map lJ.cs) none) (by kernel_rfl) (by simp[St.get,W]) hv0 (by kernel_rfl) fun K hK=>?_
       simp +decide only[TF,EV,hg,hnf,dF.aS,St.put,St.lay,dl,↓reduceIte]
       refine aj.imp ((Xz dI zA (by decide) Ko r hat.ok nq nu hnq hnu hnr ajv l[k] hoo h1).since W0) rfl rfl (by simp[lk,aB]) (by simp[lk]) (by simp[lk]) ?_
       simp +decide only[TF,EV,dF.aS,St.put,As.cs,St.lay,dl,↓reduceIte]
       refine hK _ _ ?_;clear hK K
       show Weak _ _ _
       exact Weak.store (by simp[St.get,lk,W,Le.refl]) (by simp[lk,W,As.cs,hr2,hn2,hn3]) (by simp[lk]) (by simp[aB,lk,As.cs]) (by simp[lk])
      ·
       have hu2:=aa6 (ms:=dI) (r:=r) h0
       have hn2:=aom (nu:=nu) h1 h0
       obtain⟨hsf,hsk⟩:=Uz dI r l[k]
       refine WP.qI 2 v0 (.slice 16 nl (l.map lJ.cs) none) (by kernel_rfl) (by simp[St.get,W]) hv0 (by kernel_rfl) fun K hK=>?_
       simp +decide only[TF,EV,q3,hg,hnf,dF.aS,St.put,St.lay,dl,↓reduceIte]
       refine aj.imp ((ajh dI 2 zA r hat.ok l[k] hoo).since W0) rfl rfl (by simp[lk,aB]) (by simp[lk]) (by simp[lk]) ?_
       simp +decide only[TF,EV,h1,hu2,hsf,hsk,dF.aS,St.put,As.cs,St.lay,dl,↓reduceIte]
       refine hK _ _ ?_;clear hK K
       show WP _ _ _ _ _ _
       refine WP.qI 2 v0 (.slice 16 nl (l.map lJ.cs) none) (by kernel_rfl) (by simp[St.get,W]) hv0 (by kernel_rfl) fun K hK=>?_
       simp +decide only[TF,EV,hg,hnf,dF.aS,St.put,St.lay,dl,↓reduceIte]
       refine aj.imp ((XA dI zA (by decide) Ko r hat.ok nq nu hnq hnu hnr ajv l[k] hoo h1 h0).since W0) rfl rfl (by simp[lk,aB]) (by simp[lk]) (by simp[lk]) ?_
       simp +decide only[TF,EV,dF.aS,St.put,As.cs,St.lay,dl,↓reduceIte]
       refine hK _ _ ?_;clear hK K
       show Weak _ _ _
       refine Weak.trans (Weak.store (st':=⟨[(2,.val v0),(7,.ref 3 0),(9,.ref 11 0),(11,.ref 1 0),(12,.ref 16 0),(13,.int .i64 k),(14,.ref 17 0),(15,.int .i64 (bV dI r l[k]).2.1),(16,.ref 18 0),(17,.int .i64 (bV dI r l[k]).2.1)],[(0,.map (sQ dI) 2),(1,.box 138 [.map 0]),(2,.map (mE lV (bV dI r l[k]).2.2.rq) (bV dI r l[k]).2.2.rc),(3,.box 107 [.str (bV dI r l[k]).2.2.self,.int .i64 (bV dI r l[k]).2.2.skew,.map 2,.ref 4 0]),(4,.box 171 [.map 5,.int .i64 256]),(5,.map (mE qE (bV dI r l[k]).2.2.us) (bV dI r l[k]).2.2.uc),(14,.aI 126 3 (bV dI r l[k]).2.2.rq.length),(11,.box 114 [.bool true,.str (bV dI r l[k]).2.2.self,.int .i64 (bV dI r l[k]).2.2.skew,.slice 3 (Xp (bV dI r l[k]).2.1 nq) ((bV dI r l[k]).2.2.rq.map jM) (some 14),.ref 13 0]),(12,.aI 213 2 (bV dI r l[k]).2.2.us.length),(13,.box 174 [.int .i64 256,.slice 2 (nuP r l[k] nu) ((bV dI r l[k]).2.2.us.map n_) (some 12)]),(15,.aI 55 5 dI.length),(16,.box 117 [.slice 5 false (og dI) (some 15)]),(17,.box 24 (As.cs (bV dI r l[k]).1)),(18,.box 24 (As.cs (bV dI r l[k]).1))]⟩) (by simp[St.get,lk,W,Le.refl,h1]) (by simp[lk,W,As.cs,h1,hu2,hn2,hsf,hsk,Sl]) (by simp[lk]) (by simp[aB,lk,As.cs]) (by simp[lk])) ?_
       exact agQ (r:=(bV dI r l[k]).2.2) rfl rfl (by simp[St.get,lk,bK,swR])
      ·
       have hn2:=agV (nu:=nu) h1 h0
       obtain⟨hsf,hsk⟩:=Uz dI r l[k]
       refine WP.qI 2 v0 (.slice 16 nl (l.map lJ.cs) none) (by kernel_rfl) (by simp[St.get,W]) hv0 (by kernel_rfl) fun K hK=>?_
       simp +decide only[TF,EV,q3,hg,hnf,dF.aS,St.put,St.lay,dl,↓reduceIte]
       refine aj.imp ((ajh dI 2 zA r hat.ok l[k] hoo).since W0) rfl rfl (by simp[lk,aB]) (by simp[lk]) (by simp[lk]) ?_
       simp +decide only[TF,EV,h1,hsf,hsk,dF.aS,St.put,As.cs,St.lay,dl,↓reduceIte]
       refine hK _ _ ?_;clear hK K
       show WP _ _ _ _ _ _
       refine WP.qI 2 v0 (.slice 16 nl (l.map lJ.cs) none) (by kernel_rfl) (by simp[St.get,W]) hv0 (by kernel_rfl) fun K hK=>?_
       simp +decide only[TF,EV,hg,hnf,dF.aS,St.put,St.lay,dl,↓reduceIte]
       refine aj.imp ((XB dI zA (by decide) Ko r hat.ok nq nu hnq hnu hnr ajv l[k] hoo h1 h0 hu).since W0) rfl rfl (by simp[lk,aB]) (by simp[lk]) (by simp[lk]) ?_
       simp +decide only[TF,EV,dF.aS,St.put,As.cs,St.lay,dl,↓reduceIte]
       refine hK _ _ ?_;clear hK K
       show Weak _ _ _
       refine Weak.trans (Weak.store (st':=⟨[(2,.val v0),(7,.ref 3 0),(9,.ref 11 0),(11,.ref 1 0),(12,.ref 16 0),(13,.int .i64 k),(14,.ref 17 0),(15,.int .i64 (bV dI r l[k]).2.1),(16,.ref 23 0),(17,.int .i64 (bV dI r l[k]).2.1)],[(0,.map (sQ dI) 2),(1,.box 138 [.map 0]),(2,.map (mE lV (bV dI r l[k]).2.2.rq) (bV dI r l[k]).2.2.rc),(3,.box 107 [.str (bV dI r l[k]).2.2.self,.int .i64 (bV dI r l[k]).2.2.skew,.map 2,.ref 4 0]),(4,.box 171 [.map 5,.int .i64 256]),(5,.map (mE qE (bV dI r l[k]).2.2.us) (bV dI r l[k]).2.2.uc),(22,.aI 126 3 (bV dI r l[k]).2.2.rq.length),(11,.box 114 [.bool true,.str (bV dI r l[k]).2.2.self,.int .i64 (bV dI r l[k]).2.2.skew,.slice 3 (Xp (bV dI r l[k]).2.1 nq) ((bV dI r l[k]).2.2.rq.map jM) (some 22),.ref 13 0]),(12,.aI 213 2 (bV dI r l[k]).2.2.us.length),(13,.box 174 [.int .i64 256,.slice 2 (nuP r l[k] nu) ((bV dI r l[k]).2.2.us.map n_) (some 12)]),(15,.aI 55 5 dI.length),(16,.box 117 [.slice 5 false (og dI) (some 15)]),(17,.box 24 (As.cs (bV dI r l[k]).1)),(23,.box 24 (As.cs (bV dI r l[k]).1))]⟩) (by simp[St.get,lk,W,Le.refl,h1]) (by simp[lk,W,As.cs,h1,hn2,hsf,hsk,Sl]) (by simp[lk]) (by simp[aB,lk,As.cs]) (by simp[lk])) ?_
       exact agR (r:=(bV dI r l[k]).2.2) rfl rfl (by simp[St.get,lk,bK,swY])
      ·
       have hn2:=agV (nu:=nu) h1 h0
       obtain⟨hsf,hsk⟩:=Uz dI r l[k]
       have ap':nu=false:=by cases hh:nu with|false=>rfl|true=>exact absurd (by rw[hnu hh];rfl) hu
       subst ap'
       refine WP.weak (st':=⟨[(2,.val v0),(7,.ref 3 0),(9,.ref 11 0),(11,.ref 1 0),(12,.ref 16 0),(13,.int .i64 k)],[(0,.map (sQ dI) 2),(1,.box 138 [.map 0]),(2,.map (mE lV r.rq) r.rc),(3,.box 107 [.str r.self,.int .i64 r.skew,.map 2,.ref 4 0]),(4,.box 171 [.map 5,.int .i64 256]),(5,.map (mE qE r.us) r.uc),(10,.aI 126 3 r.rq.length),(11,.box 114 [.bool true,.str r.self,.int .i64 r.skew,.slice 3 nq (r.rq.map jM) (some 10),.ref 13 0]),(12,.arr 213 (wz r.us)),(13,.box 174 [.int .i64 256,.arr 12 2 r.us.length]),(15,.aI 55 5 dI.length),(16,.box 117 [.slice 5 false (og dI) (some 15)])]⟩) (agO rfl rfl ?_) ?_
       ·
        simp only[ael,akg,or_false]
        rintro p (rfl|rfl|rfl|rfl|rfl|rfl)
        · exact⟨by simp[St.get,W],.val _⟩
        · exact⟨by simp[St.get,lk,W],.ref (by decide)⟩
        · exact⟨by simp[St.get,lk,W],.ref (by decide)⟩
        · exact⟨by simp[St.get,lk,W],.ref (by decide)⟩
        · exact⟨by simp[St.get,lk,W],.ref (by decide)⟩
        · exact⟨by simp[St.get,lk,W],.int _ _⟩
       refine WP.qI 2 v0 (.slice 16 nl (l.map lJ.cs) none) (by kernel_rfl) (by simp[St.get,lk]) hv0 (by kernel_rfl) fun K hK=>?_
       simp +decide only[TF,EV,hg,hnf,dF.aS,St.put,St.lay,dl,↓reduceIte]
       refine aj.imp ((ajh dI 2 zA r hat.ok l[k] hoo).since W0) rfl rfl (by simp[lk,aB]) (by simp[lk]) (by simp[lk]) ?_
       simp +decide only[TF,EV,h1,hsf,hsk,dF.aS,St.put,As.cs,St.lay,dl,↓reduceIte]
       refine hK _ _ ?_;clear hK K
       show WP _ _ _ _ _ _
       refine WP.qI 2 v0 (.slice 16 nl (l.map lJ.cs) none) (by kernel_rfl) (by simp[St.get,W]) hv0 (by kernel_rfl) fun K hK=>?_
       simp +decide only[TF,EV,hg,hnf,dF.aS,St.put,St.lay,dl,↓reduceIte]
       refine aj.imp ((XC dI zA (by decide) Ko r hat.ok nq hnq hnr ajv l[k] hoo h1 h0 hu).since W0) rfl rfl (by simp[lk,aB]) (by simp[lk]) (by simp[lk]) ?_
       simp +decide only[TF,EV,dF.aS,St.put,As.cs,St.lay,dl,↓reduceIte]
       refine hK _ _ ?_;clear hK K
       show Weak _ _ _
       refine Weak.trans (Weak.store (st':=⟨[(2,.val v0),(7,.ref 3 0),(9,.ref 11 0),(11,.ref 1 0),(12,.ref 16 0),(13,.int .i64 k),(14,.ref 17 0),(15,.int .i64 (bV dI r l[k]).2.1),(16,.ref 23 0),(17,.int .i64 (bV dI r l[k]).2.1)],[(0,.map (sQ dI) 2),(1,.box 138 [.map 0]),(2,.map (mE lV (bV dI r l[k]).2.2.rq) (bV dI r l[k]).2.2.rc),(3,.box 107 [.str (bV dI r l[k]).2.2.self,.int .i64 (bV dI r l[k]).2.2.skew,.map 2,.ref 4 0]),(4,.box 171 [.map 5,.int .i64 256]),(5,.map (mE qE (bV dI r l[k]).2.2.us) (bV dI r l[k]).2.2.uc),(22,.aI 126 3 (bV dI r l[k]).2.2.rq.length),(11,.box 114 [.bool true,.str (bV dI r l[k]).2.2.self,.int .i64 (bV dI r l[k]).2.2.skew,.slice 3 (Xp (bV dI r l[k]).2.1 nq) ((bV dI r l[k]).2.2.rq.map jM) (some 22),.ref 13 0]),(12,.arr 213 (wz (bV dI r l[k]).2.2.us)),(13,.box 174 [.int .i64 256,.arr 12 2 (bV dI r l[k]).2.2.us.length]),(15,.aI 55 5 dI.length),(16,.box 117 [.slice 5 false (og dI) (some 15)]),(17,.box 24 (As.cs (bV dI r l[k]).1)),(23,.box 24 (As.cs (bV dI r l[k]).1))]⟩) (by simp[St.get,lk,W,Le.refl,h1]) (by simp[lk,W,As.cs,h1,hsf,hsk,Sl]) (by simp[lk]) (by simp[aB,lk,As.cs]) (by simp[lk])) ?_
       refine Weak.trans (agS (st':=⟨[(2,.val v0),(7,.ref 3 0),(9,.ref 11 0),(11,.ref 1 0),(12,.ref 16 0),(13,.int .i64 k),(14,.ref 17 0),(15,.int .i64 (bV dI r l[k]).2.1),(16,.ref 18 0),(17,.int .i64 (bV dI r l[k]).2.1)],[(0,.map (sQ dI) 2),(1,.box 138 [.map 0]),(2,.map (mE lV (bV dI r l[k]).2.2.rq) (bV dI r l[k]).2.2.rc),(3,.box 107 [.str (bV dI r l[k]).2.2.self,.int .i64 (bV dI r l[k]).2.2.skew,.map 2,.ref 4 0]),(4,.box 171 [.map 5,.int .i64 256]),(5,.map (mE qE (bV dI r l[k]).2.2.us) (bV dI r l[k]).2.2.uc),(10,.aI 126 3 (bV dI r l[k]).2.2.rq.length),(11,.box 114 [.bool true,.str (bV dI r l[k]).2.2.self,.int .i64 (bV dI r l[k]).2.2.skew,.slice 3 (Xp (bV dI r l[k]).2.1 nq) ((bV dI r l[k]).2.2.rq.map jM) (some 10),.ref 13 0]),(12,.arr 213 (wz (bV dI r l[k]).2.2.us)),(13,.box 174 [.int .i64 256,.arr 12 2 (bV dI r l[k]).2.2.us.length]),(15,.aI 55 5 dI.length),(16,.box 117 [.slice 5 false (og dI) (some 15)]),(17,.box 24 (As.cs (bV dI r l[k]).1)),(18,.box 24 (As.cs (bV dI r l[k]).1))]⟩) (r:=(bV dI r l[k]).2.2) rfl rfl (by simp[St.get,lk,bK,swY])) ?_
       rw[agV h1 h0]
       exact agP (r:=(bV dI r l[k]).2.2) rfl rfl (by simp[St.get,lk])
     ·
      have hao:=al3 (ms:=dI) (r:=r) (o:=l[k])
      refine WP.sdV 2 v0 (.slice 16 nl (l.map lJ.cs) none) [2,7,9,11,12,13,126] (by kernel_rfl) (by kernel_rfl) (by simp[St.get,lk]) hv0 (by kernel_rfl) fun K hK=>?_
      simp +decide only[TF,EV,hnf,dF.aS,St.put,As.cs,St.lay,dl,↓reduceIte]
      refine aj.pure (ay.since (Zk (bV dI r l[k]).1 hao) W0) rfl rfl (by simp[At.cs]) ?_
      simp +decide only[TF,EV,hg,dF.aS,St.put,St.lay,dl,↓reduceIte]
      refine aj.imp ((Gy (bV dI r l[k]).2.2 aju.ok l[k].now).since W0) rfl rfl (by simp[lk,aB]) (by simp[lk]) (by simp[lk]) ?_
      simp +decide only[TF,EV,hg,dF.aS,St.put,St.lay,dl,oD,↓reduceIte]
      refine aj.imp ((UH (bV dI r l[k]).2.2 aju.ok (Xp (bV dI r l[k]).2.1 nq) (nuP r l[k] nu) (agX hnq) (agW hnu) ap_ l[k].now).since W0) rfl rfl (by simp[lk,aB]) (by simp[lk]) (by simp[lk]) ?_
      simp +decide only[TF,EV,St.put,St.lay,dl,oD,↓reduceIte]
      refine aj.pure (ay.since (agY (fE (bV dI r l[k]).2.2.rq l[k].now) (fE (bV dI r l[k]).2.2.rq l[k].now).isEmpty (by omega) (fun h=>by simpa using h)) W0) rfl rfl (by simp[fV]) ?_
      simp +decide only[TF,EV,dF.aS,St.put,St.lay,dl,↓reduceIte]
      refine hK _ _ (by kernel_rfl) ?_
      clear hK K
      refine WP.cond (b:=false) (by rfl) nofun (fun _=>?_)
      refine oC 2 [] @EV @dF.aS @St.put.eq_def ?_
      show ∃y,_∧Weak _ _ _
      refine⟨⟨(k+1,(bV dI r l[k]).2.2,(Xp (bV dI r l[k]).2.1 nq),(nuP r l[k] nu)),?_⟩,?_,?_⟩
      · exact⟨by dsimp only;omega,aju,agX hnq,agW hnu⟩
      · dsimp only;omega
      · exact zY1 (aU hlt (show l.length≤140737488355328 by omega))
    ·
     have hge:=aP q3
     refine OY 2 [6] (ay.since (J_) W0) q3 @EV @dF.aS @St.put.eq_def ?_
     refine WP.ret ?_
     exact Ends.pure (.inr rfl) rfl (Le.of_eq (by simp +decide only[St.get,W,↓reduceIte])) (by simp)
   ·
    have hne:(newE self skew != 0)=true:=by simpa using h9
    refine zG7 4 [0,1,2,7,8,9,10,49] (ay.since (Jw self skew (by omega) h9) W0) (ay.since (Zv self skew (by omega) h9) W0) @EV q2 @dF.aS @St.put.eq_def hne ?_
    refine WP.cond (b:=true) (by rfl) (fun _=>?_) nofun
    refine OY 1 [6] (ay.since (J_) W0) @EV hne @dF.aS @St.put.eq_def ?_
    refine WP.ret ?_
    exact Ends.pure (.inr rfl) rfl (Le.of_eq (by simp +decide only[St.get,W,↓reduceIte])) (by simp)
end Go.Proofs
namespace Go.Proofs
end Go.Proofs
