import Derived.Test.YtekopfoidhhedaaGreatDoorG12
import Derived.Test.YtekopfoidhhedaaGreatDoorG14
import Derived.Test.YtekopfoidhhedaaGreatDoorG04
import Derived.ChangeMaps5
set_option linter.unusedVariables false
set_option linter.unusedSimpArgs false
set_option maxRecDepth 10000
namespace Go.Proofs
open Go Go.Id
set_option maxHeartbeats 16000000
set_option maxRecDepth 100000
theorem akr (n:Int):(if (if (1099511627776:Int)<n then 1099511627776 else n)>0 then (if (1099511627776:Int)<n then (1099511627776:Int) else n) else 0)=aZ n:=by
 unfold aZ;repeat' split <;> omega
theorem ajE {a:As}(h:(a.iP == [111,116,104,101,114])=true):ado a=[111]:=if_pos (show a.iP=ah2 from eq_of_beq h)
theorem akg {a:As}(h:(a.iP == [111,116,104,101,114])=false):ado a=[115]:=if_neg (fun e=>by rw[e] at h;simp[ah2] at h)
theorem aks {t:Int}(h1:decide (t<0)=false)(h2:decide (t>600)=false):0≤t∧t≤600:=by
 have:=of_decide_eq_false h1;have:=of_decide_eq_false h2;omega
theorem af6 {k:Int}(h0:0≤k)(h1:k≤600):iQ k 0=k:=by rw[zZ,o_ h0 (by omega)]
theorem aiv {k:Int}(h0:0≤k)(h1:k≤600):aG Pr 22 [.str [109,101],.int .i64 k] [] (.aJ [.ref 3 0,.int .i64 0]) [(2,.map [] 0),(3,.box 107 [.str H7,.int .i64 k,.map 2,.ref 4 0]),(4,.box 171 [.map 5,.int .i64 256]),(5,.map [] 0)]:=by
 have:=Ui H7 k (by decide) (V8.2 ⟨by decide,by rw[af6 h0 h1];exact decide_eq_false (by omega)⟩)
 rw[af6 h0 h1] at this
 exact this
theorem akj {k:Int}(h0:0≤k)(h1:k≤600):(⟨H7,k,[],0,[],0⟩:Rc).at 0:=⟨⟨GL.nil _,GL.nil _,⟨h0,h1⟩,by simp,by simp⟩,by simp,by simp⟩
theorem adi (ms:TS)(r:Rc)(o:Opx):(doX ms r o).2.2.self=r.self∧(doX ms r o).2.2.skew=r.skew:=by
 unfold doX
 split
 · unfold qB;split <;> exact⟨rfl,rfl⟩
 ·
  unfold lV
  split
  · exact⟨rfl,rfl⟩
  split
  · exact⟨rfl,rfl⟩
  split
  · exact⟨rfl,rfl⟩
  split
  · exact⟨rfl,rfl⟩
  split
  · exact⟨rfl,rfl⟩
  split
  · exact⟨rfl,rfl⟩
  split
  · exact⟨rfl,rfl⟩
  unfold Wq
  split
  · exact⟨rfl,rfl⟩
  repeat' split
  all_goals exact⟨rfl,rfl⟩
theorem aiD {r:Rc}{o:Opx}{m:Nat}{k:Int}(hat:r.at m)(hself:r.self=H7)(hsk:r.skew=k)(hk0:0≤k)(hk1:k≤600)(h0:(o.call == 0)=false)(h:(doX QE r o).2.1=0):
  (doX QE r o).1.ok∧(dw (doX QE r o).1).2=0∧adl o=(dw (doX QE r o).1).1++[126,107,49,58]++qx (ado (doX QE r o).1) (dw (doX QE r o).1).1∧((doX QE r o).1.jI == [109,101])=true∧
  decide (aZ o.now+k<(doX QE r o).1.jd)=false∧decide (aZ o.now - k≥(doX QE r o).1.fG)=false∧decide (aZ o.now≥100)=false∧IntKind.wrap .i64 (aZ o.now+k)=aZ o.now+k∧IntKind.wrap .i64 (aZ o.now - k)=aZ o.now - k∧
  (fQ r.rq (aZ o.now)).any (fun x=>x == (doX QE r o).1.req)=true∧(fQ (doX QE r o).2.2.rq (aZ o.now)).any (fun x=>x == (doX QE r o).1.req)=false∧
  IntKind.wrap .i64 (((fQ r.rq (aZ o.now)).length:Int) - 1)=((fQ (doX QE r o).2.2.rq (aZ o.now)).length:Int)∧(fQ r.rq (aZ o.now)).length≤100000∧(fQ (doX QE r o).2.2.rq (aZ o.now)).length≤100000:=by
 rw[ah_ h0] at h ⊢
 obtain⟨a,r',e,h1,h2,h3,h4,h5,h6,h7,h8,h9,h10,h11,h12,h13⟩:=ahT hat.ok hself hsk h
 rw[e]
 dsimp only
 have hl:=CO o.now
 have hn:=hat.ok.nrq
 have hw:=Zn r.rq (aZ o.now)
 refine⟨h1,by rw[h3],h4,by rw[h5];rfl,decide_eq_false (by omega),decide_eq_false (by omega),decide_eq_false (by omega),wrap_i64 (by omega) (by omega),wrap_i64 (by omega) (by omega),h11,h12,?_,by omega,?_⟩
 ·
  show IntKind.wrap .i64 (((fQ r.rq (aZ o.now)).length:Int) - 1)=((fQ r'.rq (aZ o.now)).length:Int)
  rw[wrap_i64 (by omega) (by omega)];omega
 · show (fQ r'.rq (aZ o.now)).length≤100000;omega
abbrev aam:List Nat:=[0,1,4,5,6,7,8,9,10,11,12,13,14,15,16,27,44,48,80,88,129,151]
theorem ah9 (skew:Int)(l:List Opx)(nl:Bool)(hnl:nl=true→l=[])(hb:∀o∈l,o.a.big):ak Pr 7 [.int .i64 skew,.slice 16 nl (l.map Opx.cs) none] (.bool true):=by
 refine ak.W Tryz.func7 Tryz.ntmps7 ?_
 simp only[ay,Nat.zero_add]
 iterate 2 first|(refine WP.S aam fun _ z=>?_;simp +decide only[TF,St.lay,dl,↓reduceIte];apply z;clear z)|apply WP.seq
 refine WP.S aam fun _ z=>?_
 simp +decide only[TF,St.lay,dl,↓reduceIte]
 refine aj.pure (afz l nl hnl hb) rfl rfl (by simp[fg]) ?_
 refine ah.take 2 fun J hJ=>?_
 simp +decide only[TF,St.lay,dl,↓reduceIte]
 refine hJ _ _ ?_;clear hJ J
 refine ah.part 20 rfl (fun q1=>?_) (fun q1=>?_)
 ·simp only[Bool.not_eq_true'] at q1
  simp +decide only[TF,q1,St.lay,dl,↓reduceIte]
  apply z;clear z
  refine WP.cT ?_
  refine WP.S aam fun _ z=>?_
  simp +decide only[TF,↓reduceIte]
  refine aj.pure (fF) rfl rfl (by simp[aO]) ?_
  simp +decide only[TF,St.lay,dl,↓reduceIte]
  apply z;clear z
  apply WP.ret
  exact Ends.P rfl (Le.of_eq (by simp +decide only[St.get,W,↓reduceIte]))
 simp only[Bool.not_eq_false'] at q1
 have hl:ab_ l=true:=by simpa using q1
 obtain⟨hn16,hok⟩:=af2 hb hl
 refine ah.take 4 fun J hJ=>?_
 simp +decide only[TF,q1,St.lay,dl,↓reduceIte]
 refine hJ _ _ ?_;clear hJ J
 refine ah.part 24 rfl (fun q2=>?_) (fun q2=>?_)
 ·simp +decide only[TF,q2,St.lay,dl,↓reduceIte]
  apply z;clear z
  refine WP.cT ?_
  refine WP.S aam fun _ z=>?_
  simp +decide only[TF,↓reduceIte]
  refine aj.pure (fF) rfl rfl (by simp[aO]) ?_
  simp +decide only[TF,St.lay,dl,↓reduceIte]
  apply z;clear z
  apply WP.ret
  exact Ends.P rfl (Le.of_eq (by simp +decide only[St.get,W,↓reduceIte]))
 simp +decide only[TF,q2,St.lay,dl,↓reduceIte]
 apply z;clear z
 refine WP.cond rfl (fun q3=>?_) (fun q3=>?_)
 ·refine WP.S aam fun _ z=>?_
  simp +decide only[TF,q3,↓reduceIte]
  refine aj.pure (fF) rfl rfl (by simp[aO]) ?_
  simp +decide only[TF,St.lay,dl,↓reduceIte]
  apply z;clear z
  apply WP.ret
  exact Ends.P rfl (Le.of_eq (by simp +decide only[St.get,W,↓reduceIte]))
 obtain⟨hk0,hk1⟩:=aks (t:=skew) (by assumption) (by assumption)
 apply WP.skip;show WP ..
 refine WP.S aam fun _ z=>?_
 simp +decide only[TF,q3,St.lay,dl,↓reduceIte]
 refine aj.I (aiv hk0 hk1) rfl rfl ?_
 simp +decide only[TF,St.lay,dl,↓reduceIte]
 apply z;clear z
 refine WP.S aam fun _ z=>?_
 simp +decide only[TF,↓reduceIte]
 refine aj.I (ade) rfl rfl ?_
 simp +decide only[TF,St.lay,dl,↓reduceIte]
 apply z;clear z
 iterate 5 first|(refine WP.S aam fun _ z=>?_;simp +decide only[TF,St.lay,dl,↓reduceIte];apply z;clear z)|(apply WP.skip;show WP ..)|refine WP.cF ?_|apply WP.seq
 refine WP.S [0,1,5,7,8] fun _ z=>?_;simp +decide only[TF,St.lay,dl,↓reduceIte];apply z;clear z
 apply WP.block
 refine WP.lp [0,1,5,7] (X:={x:(Nat) × (Rc) // match x with|(k,r)=>k≤l.length∧r.at k∧r.self=H7∧r.skew=skew}) (fun x=>match x with| ⟨(k,r),_⟩=>[(8,.int .i64 k)]) (fun x=>match x with| ⟨(k,r),_⟩=>[(0,.map (yh QE) 2),(1,.box 138 [.map 0]),(2,.map (mE kH r.rq) r.rc),(3,.box 107 [.str r.self,.int .i64 r.skew,.map 2,.ref 4 0]),(4,.box 171 [.map 5,.int .i64 256]),(5,.map (mE oJ r.us) r.uc)]) (fun x=>match x with| ⟨(k,r),_⟩=>l.length - k) (by simp +decide only[W,↓reduceIte];rfl) ?_ ⟨(0,⟨H7,skew,[],0,[],0⟩),⟨Nat.zero_le _,akj hk0 hk1,rfl,rfl⟩⟩ ?_
 rotate_left
 ·exact Weak.store (by simp[St.get,lk,W,Le.refl]) (by simp[lk,mE]) (by simp[lk]) (by simp[aA,lk]) (by simp[lk])
 rintro ⟨⟨k,r⟩,⟨hk,hat,hself,hsk⟩⟩
 dsimp only
 simp only[List.cons_append,List.nil_append]
 iterate 2 first|(refine WP.S aam fun _ z=>?_;simp +decide only[TF,St.lay,dl,↓reduceIte];apply z;clear z)|apply WP.seq
 refine WP.cond rfl (fun q4=>?_) (fun q4=>?_)
 ·have hlt:=aK q4
  have hg:(l.map Opx.cs)[k]?=some [.int .i64 l[k].call,.int .i64 l[k].fG,.int .i64 l[k].now,.str l[k].id,.str l[k].part,.str l[k].a.id,.str l[k].a.iP,.str l[k].a.jI,.str l[k].a.sub,.str l[k].a.req,.int .i64 l[k].a.jd,.int .i64 l[k].a.fG,.int .i64 l[k].a.lvl,.slice 2 l[k].a.nl (l[k].a.ats.map At.cs) none,.str l[k].sec,.str l[k].s]:=getM hlt
  have hnf:=bH hnl hlt
  have hoo:=hok _ (List.getElem_mem hlt)
  iterate 4 first|(refine WP.S aam fun _ z=>?_;simp +decide only[TF,q4,hg,hnf,St.lay,dl,akr,↓reduceIte];apply z;clear z)|(apply WP.skip;show WP ..)|apply WP.block|apply WP.seq
  refine WP.S aam fun _ z=>?_
  simp +decide only[TF,St.lay,dl,↓reduceIte]
  refine aj.I (Ed r hat.ok (aZ l[k].now)) rfl rfl ?_
  simp +decide only[TF,St.lay,dl,rH,↓reduceIte]
  apply z;clear z
  refine WP.S aam fun _ z=>?_
  simp +decide only[TF,hg,St.lay,dl,↓reduceIte]
  refine aj.I (akt QE 2 QF r hat.ok l[k] hoo) rfl rfl ?_
  simp +decide only[TF,As.cs,St.lay,dl,↓reduceIte]
  apply z;clear z
  apply WP.seq
  refine WP.S aam fun _ z=>?_
  refine ah.take 7 fun J hJ=>?_
  simp +decide only[TF,hg,St.lay,dl,↓reduceIte]
  refine hJ _ _ ?_;clear hJ J
  refine ah.part 77 rfl (fun q5=>?_) (fun q5=>?_)
  ·simp +decide only[TF,q5,St.lay,dl,↓reduceIte]
   apply z;clear z
   iterate 3 first|(refine WP.R fun _ z=>?_;simp +decide only[TF,St.lay,dl,↓reduceIte];apply z;clear z)|(apply WP.exit;show WP ..)|refine WP.cT ?_
   show ∃y,_∧Weak _ _ _
   refine⟨⟨(k+1,(doX QE r l[k]).2.2),?_⟩,?_,?_⟩
   ·exact⟨by dsimp only;omega,adq hat (by omega) l[k],(adi QE r l[k]).1.trans hself,(adi QE r l[k]).2.trans hsk⟩
   ·dsimp only;omega
   exact Weak.store (by simp[St.get,lk,Le.refl,aT hlt (show l.length≤140737488355328 by omega),hnf]) (by simp[lk]) (by simp[lk]) (by simp[aA,lk]) (by simp[lk])
  simp +decide only[TF,q5,St.lay,dl,↓reduceIte]
  apply z;clear z
  refine WP.cond rfl (fun q6=>?_) (fun q6=>?_)
  ·iterate 2 first|(refine WP.R fun _ z=>?_;simp +decide only[TF,q6,St.lay,dl,↓reduceIte];apply z;clear z)|(apply WP.exit;show WP ..)
   show ∃y,_∧Weak _ _ _
   refine⟨⟨(k+1,(doX QE r l[k]).2.2),?_⟩,?_,?_⟩
   ·exact⟨by dsimp only;omega,adq hat (by omega) l[k],(adi QE r l[k]).1.trans hself,(adi QE r l[k]).2.trans hsk⟩
   ·dsimp only;omega
   exact Weak.store (by simp[St.get,lk,Le.refl,aT hlt (show l.length≤140737488355328 by omega),hnf]) (by simp[lk]) (by simp[lk]) (by simp[aA,lk]) (by simp[lk])
  obtain⟨hao,he2,hS,hau,hi1,hi2,hi3,hw1,hw2,hh1,hh2,hlen,akw,akx⟩:=aiD (o:=l[k]) hat hself hsk hk0 hk1 (by assumption) (by simpa using q6)
  apply WP.skip;show WP ..
  refine WP.S aam fun _ z=>?_
  simp +decide only[TF,q6,St.lay,dl,↓reduceIte]
  refine aj.pure (jY (doX QE r l[k]).1 hao) rfl rfl (by simp[aO]) ?_
  simp +decide only[TF,he2,St.lay,dl,↓reduceIte]
  apply z;clear z
  iterate 3 first|(refine WP.S aam fun _ z=>?_;simp +decide only[TF,St.lay,dl,↓reduceIte];apply z;clear z)|apply WP.seq
  refine WP.cond rfl (fun q7=>?_) (fun q7=>?_)
  ·have alO:ado (doX QE r l[k]).1=[111]:=ajE q7
   have hS2:=hS
   rw[alO] at hS2
   iterate 2 first|(refine WP.R fun _ z=>?_;simp +decide only[TF,q7,St.lay,dl,↓reduceIte];apply z;clear z;show WP ..)|apply WP.seq
   refine WP.S aam fun _ z=>?_
   simp +decide only[TF,hg,St.lay,dl,↓reduceIte]
   refine aj.pure (ad1 l[k] hoo) rfl rfl (by simp[aO]) ?_
   simp +decide only[TF,hS2,St.lay,dl,↓reduceIte]
   refine⟨by have:=CP (doX QE r l[k]).1;omega,?_⟩
   first|refine aj.pure (aa' [111] (dw (doX QE r l[k]).1).1 (by decide) (by have:=CP (doX QE r l[k]).1;omega)) rfl rfl (by simp) ?_|refine aj.pure (aa' [115] (dw (doX QE r l[k]).1).1 (by decide) (by have:=CP (doX QE r l[k]).1;omega)) rfl rfl (by simp) ?_
   simp +decide only[TF,hau,hi1,hi2,hi3,hw1,hw2,St.lay,dl,↓reduceIte]
   refine⟨by simp only[List.length_append,List.length_cons,List.length_nil,sW];have:=CP (doX QE r l[k]).1;omega,?_⟩
   apply z;clear z
   iterate 2 first|(apply WP.skip;show WP ..)|refine WP.cF ?_
   refine WP.S aam fun _ z=>?_
   simp +decide only[TF,St.lay,dl,↓reduceIte]
   refine aj.I (Ed (doX QE r l[k]).2.2 (adq hat (by omega) l[k]).ok (aZ l[k].now)) rfl rfl ?_
   simp +decide only[TF,St.lay,dl,rH,↓reduceIte]
   apply z;clear z
   refine WP.S aam fun _ z=>?_
   simp +decide only[TF,hlen,St.lay,dl,↓reduceIte]
   refine aj.pure (adp (fQ r.rq (aZ l[k].now)) _ (doX QE r l[k]).1.req (by omega) (fun h=>by simpa using h)) rfl rfl (by simp[fE]) ?_
   simp +decide only[TF,hh1,St.lay,dl,↓reduceIte]
   refine aj.pure (adp (fQ (doX QE r l[k]).2.2.rq (aZ l[k].now)) _ (doX QE r l[k]).1.req (by omega) (fun h=>by simpa using h)) rfl rfl (by simp[fE]) ?_
   simp +decide only[TF,hh2,St.lay,dl,↓reduceIte]
   apply z;clear z
   iterate 3 first|(refine WP.R fun _ z=>?_;simp +decide only[TF,St.lay,dl,↓reduceIte];apply z;clear z)|(apply WP.skip;show WP ..)|refine WP.cF ?_
   show ∃y,_∧Weak _ _ _
   refine⟨⟨(k+1,(doX QE r l[k]).2.2),?_⟩,?_,?_⟩
   ·exact⟨by dsimp only;omega,adq hat (by omega) l[k],(adi QE r l[k]).1.trans hself,(adi QE r l[k]).2.trans hsk⟩
   ·dsimp only;omega
   exact Weak.store (by simp[St.get,lk,Le.refl,aT hlt (show l.length≤140737488355328 by omega),hnf]) (by simp[lk]) (by simp[lk]) (by simp[aA,lk]) (by simp[lk])
  have alO:ado (doX QE r l[k]).1=[115]:=akg q7
  have hS2:=hS
  rw[alO] at hS2
  iterate 2 first|(apply WP.skip;show WP ..)|apply WP.seq
  refine WP.S aam fun _ z=>?_
  simp +decide only[TF,hg,q7,St.lay,dl,↓reduceIte]
  refine aj.pure (ad1 l[k] hoo) rfl rfl (by simp[aO]) ?_
  simp +decide only[TF,hS2,St.lay,dl,↓reduceIte]
  refine⟨by have:=CP (doX QE r l[k]).1;omega,?_⟩
  first|refine aj.pure (aa' [111] (dw (doX QE r l[k]).1).1 (by decide) (by have:=CP (doX QE r l[k]).1;omega)) rfl rfl (by simp) ?_|refine aj.pure (aa' [115] (dw (doX QE r l[k]).1).1 (by decide) (by have:=CP (doX QE r l[k]).1;omega)) rfl rfl (by simp) ?_
  simp +decide only[TF,hau,hi1,hi2,hi3,hw1,hw2,St.lay,dl,↓reduceIte]
  refine⟨by simp only[List.length_append,List.length_cons,List.length_nil,sW];have:=CP (doX QE r l[k]).1;omega,?_⟩
  apply z;clear z
  iterate 2 first|(apply WP.skip;show WP ..)|refine WP.cF ?_
  refine WP.S aam fun _ z=>?_
  simp +decide only[TF,St.lay,dl,↓reduceIte]
  refine aj.I (Ed (doX QE r l[k]).2.2 (adq hat (by omega) l[k]).ok (aZ l[k].now)) rfl rfl ?_
  simp +decide only[TF,St.lay,dl,rH,↓reduceIte]
  apply z;clear z
  refine WP.S aam fun _ z=>?_
  simp +decide only[TF,hlen,St.lay,dl,↓reduceIte]
  refine aj.pure (adp (fQ r.rq (aZ l[k].now)) _ (doX QE r l[k]).1.req (by omega) (fun h=>by simpa using h)) rfl rfl (by simp[fE]) ?_
  simp +decide only[TF,hh1,St.lay,dl,↓reduceIte]
  refine aj.pure (adp (fQ (doX QE r l[k]).2.2.rq (aZ l[k].now)) _ (doX QE r l[k]).1.req (by omega) (fun h=>by simpa using h)) rfl rfl (by simp[fE]) ?_
  simp +decide only[TF,hh2,St.lay,dl,↓reduceIte]
  apply z;clear z
  iterate 3 first|(refine WP.R fun _ z=>?_;simp +decide only[TF,St.lay,dl,↓reduceIte];apply z;clear z)|(apply WP.skip;show WP ..)|refine WP.cF ?_
  show ∃y,_∧Weak _ _ _
  refine⟨⟨(k+1,(doX QE r l[k]).2.2),?_⟩,?_,?_⟩
  ·exact⟨by dsimp only;omega,adq hat (by omega) l[k],(adi QE r l[k]).1.trans hself,(adi QE r l[k]).2.trans hsk⟩
  ·dsimp only;omega
  exact Weak.store (by simp[St.get,lk,Le.refl,aT hlt (show l.length≤140737488355328 by omega),hnf]) (by simp[lk]) (by simp[lk]) (by simp[aA,lk]) (by simp[lk])
 have hge:=aN q4
 apply WP.exit;show WP ..
 refine WP.S aam fun _ z=>?_
 simp +decide only[TF,q4,↓reduceIte]
 refine aj.pure (fF) rfl rfl (by simp[aO]) ?_
 simp +decide only[TF,St.lay,dl,↓reduceIte]
 apply z;clear z
 apply WP.ret
 exact Ends.P rfl (Le.of_eq (by simp +decide only[St.get,W,↓reduceIte]))
end Go.Proofs
set_option maxRecDepth 100000
namespace Go.Proofs.YtekopfoidhhedaaGreatDoor.RwOnly
open Go Go.Id Go.Proofs Go.ChangeShapes Go.ChangeMaps Go.WideShapes Go.ChangeAt Go.RowKit Go.Proofs.YtekopfoidhhedaaGreatDoor.Rw
theorem contract (H:Type)(enc:TypeId × Value→H)(W:World)(base:Nat)(args:Array Value)(ds gs:List (DataW H))(before:List MemPlace)
    (hval:∀(j:Nat) t v,Tryz.f7.params[j]?=some t→args[j]?=some v→Value.okWide Tryz.prog W .any base t v)
    (hW:DataW.Whole enc Tryz.prog Tryz.f7.params.toList Rows.assertionOnlySpec.vars false W args.toList ds gs before) (hL:laidMetH Tryz.prog zq W) (hS:W.ShapedOpen Tryz.prog):
    Calls Tryz.prog 7 args W fun e W'=>∃v,e= .returned v∧Rows.assertionOnlySpec.post enc Tryz.prog Tryz.f7 false true false false W args v W':=by
  have hW':=hW
  obtain⟨p,q,hA0,hV,rfl,hfz,hnd⟩:=hW
  have hA:DataW.TrodAll enc Tryz.prog W 0 (fun _=>true) true Tryz.f7.params.toList args.toList ds p:=hA0
  rw[Tryz.params7] at hA hval
  obtain⟨al⟩:=args
  dsimp only at hA
  obtain⟨v0,_,d0,_,p_0,_,rfl,rfl,rfl,h0,hA⟩:=trodAll_cons hA
  obtain⟨v1,_,d1,_,p_1,_,rfl,rfl,rfl,h1,hA⟩:=trodAll_cons hA
  obtain⟨rfl,rfl,rfl⟩:=trodAll_nil hA
  obtain⟨rfl,rfl⟩:=trodVars_none hV
  obtain⟨n0,r0⟩:=QJ (hval 0 3 v0 rfl rfl) h0
  obtain⟨l1,nl1,akv,hb1,r1⟩:=ain (hval 1 39 v1 rfl rfl) h1
  refine (ak.run (ah9 n0 l1 nl1 akv hb1) W (Hu hL hS) (Hw hS) [v0,v1] rfl (Rw.K_ r0 (Rw.one r1))).mono ?_
  rintro e W' ⟨v,rfl,hr,hb⟩
  cases hr
  exact⟨_,rfl,CV hW' rfl hb (of_decide_eq_true (by kernel_rfl)) (by kernel_rfl) rfl rfl rfl⟩
abbrev wit:Array Value:=#[.int .i64 0,.slice none 0 0]
theorem reads (os:Os){H:Type}(enc:TypeId × Value→H):(DataW.whole enc Tryz.prog (RS os wit) Tryz.f7.params.toList Rows.assertionOnlySpec.vars false wit.toList 8).map (fun x=>(x.1,x.2.1))=some ([.lit (.int .i64 0),.nil],[]):=by kernel_rfl
theorem lifted (os:Os)(started:os.Started)(H:Type)(enc:TypeId × Value→H)(F:Stop.Interp):
    ReturnsInHanded {} Tryz.checked os 7 .any ((OpenSpec.ofChange Rows.assertionOnlySpec).preRow enc Tryz.prog Tryz.f7 Rows.assertionOnlyRow.domain false Rows.assertionOnlyRow.laid) (((OpenSpec.ofChange Rows.assertionOnlySpec).at F).post enc Tryz.prog Tryz.f7 false true false false):=by
  obtain⟨⟨x1,x2,x3⟩,hx,hx1⟩:=Option.map_eq_some_iff.1 (reads os enc)
  simp only[Prod.mk.injEq] at hx1
  obtain⟨rfl,rfl⟩:=hx1
  refine returnsInHanded_of_row (C:=Tryz.checked) (s:=OpenSpec.ofChange Rows.assertionOnlySpec) own started (by kernel_rfl) Tryz.func7
    (witness_row_atRef (enc:=enc) (C:=Tryz.checked) false (laidWorld os) wit rfl (by kernel_rfl) (by kernel_rfl) (by kernel_rfl)
      (OpenSpec.preRow_of_cond 8 hx (by kernel_rfl) (fun k hk=>by cases hk) (by kernel_rfl) (laid_met os _))) ?_
  intro W base args ds gs before hval hW _ _ _ hL hS _
  exact contract H enc W base args ds gs before hval hW hL hS
set_option maxHeartbeats 40000000 in
theorem closed:joinedFacts Tryz.pinned.checked.prog 7 Tryz.f7 (OpenSpec.ofChange Rows.assertionOnlySpec).bare Rows.assertionOnlyRow=true:=by
  unfold joinedFacts
  simp only[Bool.and_eq_true]
  repeat' apply And.intro
  all_goals (as_aux_lemma=>kernel_rfl)
theorem hfn:Tryz.pinned.checked.prog.funcNamed Rows.assertionOnlyRow.func=some 7:=by kernel_rfl
theorem hinst:Tryz.f7.isInstance Tryz.pinned.checked.prog Rows.assertionOnlyRow.origin Rows.assertionOnlyRow.targs:=of_decide_eq_true (by kernel_rfl)
theorem hwrap:Tryz.f7.isWrapper Tryz.pinned.checked.prog Rows.assertionOnlyRow.wrapper Rows.assertionOnlyRow.mainSum:=by
  unfold Func.isWrapper;first|(rw[if_pos (by decide +kernel)];kernel_rfl)|(rw[if_neg (by decide +kernel)];exact⟨rfl,rfl⟩)
theorem La (os:Os)(started:os.Started)(H:Type)(enc:TypeId × Value→H)(_:∀a b,enc a=enc b→a=b)(F:Stop.Interp):
    ReturnsInHanded Rows.assertionOnlyRow.assume Tryz.pinned.checked os 7 .any (Rows.assertionOnlyRow.pre enc Tryz.pinned.checked.prog Tryz.f7 (OpenSpec.ofChange Rows.assertionOnlySpec)) (((OpenSpec.ofChange Rows.assertionOnlySpec).at F).post enc Tryz.pinned.checked.prog Tryz.f7 Rows.assertionOnlyRow.apart Rows.assertionOnlyRow.fresh Rows.assertionOnlyRow.handsOn Rows.assertionOnlyRow.again):=by
  rw[OpenClaim.pre_eq_preRow];exact lifted os started H enc F
theorem said:Rows.AssertionOnlySaid:=
  OpenClaim.holds_of_cond 7 Tryz.f7 rfl rfl rfl rfl rfl rfl rfl ⟨rfl,rfl,rfl,rfl,rfl⟩ rfl rfl rfl rfl rfl hfn Tryz.func7 closed hinst hwrap La
theorem plain (f:FuncId)(fn:Func)(hf:Tryz.pinned.checked.prog.funcNamed Rows.assertionOnlyRow.func=some f)(hfn:Tryz.pinned.checked.prog.funcs[f]?=some fn):
    true=Tryz.pinned.checked.prog.looks []∧∀(j:Nat) t,fn.params[j]?=some t→Tryz.pinned.checked.prog.wantsStandIn t=false:=by
  obtain rfl:f=7:=Option.some.inj ((show Tryz.prog.funcNamed Rows.assertionOnlyRow.func=some 7 by kernel_rfl).symm.trans hf) |>.symm
  obtain rfl:fn=Tryz.f7:=(Option.some.inj (Tryz.func7.symm.trans hfn)).symm
  refine⟨by kernel_rfl,fun j t ht=>?_⟩
  have hall:(Tryz.f7.params.toList.all fun t=>Tryz.prog.wantsStandIn t == false)=true:=by kernel_rfl
  exact eq_of_beq (List.all_eq_true.1 hall t (by simpa using Array.mem_of_getElem? ht))
theorem card:Rows.AssertionOnlyCardSaid:=
  Claim7.holds_tied_plain_at .later [] _ _ _ _ said (fun _ h=>by cases h) (by kernel_rfl) (fun _ h=>by cases h) assertionOnly_row_tie rfl ⟨rfl,rfl⟩ (by kernel_rfl) rfl plain (by kernel_rfl)
end Go.Proofs.YtekopfoidhhedaaGreatDoor.RwOnly
#print axioms Go.Proofs.YtekopfoidhhedaaGreatDoor.RwOnly.card
