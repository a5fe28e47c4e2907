import Derived.Test.YtekopfoidhhedaaGreatDoorG13
import Derived.Test.YtekopfoidhhedaaGreatDoorG33
set_option linter.unusedVariables false
set_option linter.unusedSimpArgs false
set_option linter.unnecessarySimpa false
set_option maxRecDepth 10000
namespace Go.Proofs
open Go Go.Id
set_option maxHeartbeats 4000000
abbrev dS:List Nat:=[0,1,2,3,4,10,11,14,26,29,36,39]
theorem Oz (r:Rc)(hr:r.ok)(nl nu:Bool)(hnl:nl=true→r.rq=[])(hnu:nu=true→r.us=[])(hn:r.rq.length≤1000)(id p:List UInt8)(u now:Int)(hid:id.length≤140737488355328)(hp:p.length≤140737488355328)(h:(lI r id p u now).1≠0):aF Pr 72 [.ref 1 0,.str id,.str p,.int .i64 u,.int .i64 now] [(0,.aI 126 3 r.rq.length),(1,.box 114 [.bool true,.str r.self,.int .i64 r.skew,.slice 3 nl (r.rq.map jM) (some 0),.ref 3 0]),(2,.aI 213 2 r.us.length),(3,.box 174 [.int .i64 256,.slice 2 nu (r.us.map n_) (some 2)])] (.int .i64 (lI r id p u now).1) [(0,.aI 126 3 r.rq.length),(1,.box 114 [.bool true,.str r.self,.int .i64 r.skew,.slice 3 nl (r.rq.map jM) (some 0),.ref 3 0]),(2,.aI 213 2 r.us.length),(3,.box 174 [.int .i64 256,.slice 2 nu (r.us.map n_) (some 2)])]:=by
 have hwl:=UF r.rq (aN now)
 refine qX Tryz.func72 Tryz.ntmps72 ?_
 refine oC 8 dS (sH r.self r.skew r.rq nl hnl hn r.us nu) (iR u) (iR now) ?_
 refine WP.S dS fun _ z=>?_
 simp +decide only[TF,St.lay,dl,↓reduceIte]
 refine aj.P (iI _ (by assumption)) rfl rfl ?_
 refine ah.take 2 fun J hJ=>?_
 simp +decide only[TF,St.lay,dl,↓reduceIte]
 refine hJ _ _ ?_;clear hJ J
 refine ah.part 22 rfl (fun q1=>?_) (fun q1=>?_)
 ·simp only[adh] at q1
  have hR:=Y7 (r:=r) (p:=p) (u:=u) (now:=now) (by simpa using q1)
  simp +decide only[TF,q1,St.lay,dl,↓reduceIte]
  apply z;clear z
  refine aG 2 dS ?_
  apply WP.ret
  exact Me hR
 simp only[afE] at q1
 have hw1:bg id=true:=by simpa using q1
 simp +decide only[TF,q1,St.lay,dl,↓reduceIte]
 refine aj.P (iI _ (by assumption)) rfl rfl ?_
 simp +decide only[TF,St.lay,dl,↓reduceIte]
 apply z;clear z
 refine WP.cond rfl (fun q2=>?_) (fun q2=>?_)
 ·have hR:=Y8 (r:=r) (u:=u) (now:=now) hw1 (by simpa using q2)
  refine aJ 1 dS q2 ?_
  apply WP.ret
  exact Me hR
 have hw2:bg p=true:=by simpa using q2
 refine aJ 3 dS q2 ?_
 refine WP.cond rfl (fun q3=>?_) (fun q3=>?_)
 ·have hR:=Y9 (r:=r) hw1 hw2 q3
  refine aJ 1 dS q3 ?_
  apply WP.ret
  exact Me hR
 have h2:=q3
 refine jd 3 dS (uO r.self r.skew r.rq nl hnl hn r.us nu (aN now)) q3 ?_
 refine WP.S dS fun _ z=>?_
 simp +decide only[TF,St.lay,dl,↓reduceIte]
 refine aj.pure (oW (BG r.rq (aN now)) _ (fun h=>by simpa using h) (by omega) id) rfl rfl (by simp[qL]) ?_
 simp +decide only[TF,St.lay,dl,↓reduceIte]
 apply z;clear z
 refine WP.cond rfl (fun q4=>?_) (fun q4=>?_)
 ·have hR:=aaL (r:=r) hw1 hw2 h2 (Xr.trans q4)
  refine aJ 1 dS q4 ?_
  apply WP.ret
  exact Me hR
 have h3:(fE r.rq now).contains id=false:=Xr.trans q4
 refine aJ 3 dS q4 ?_
 refine WP.cond rfl (fun q5=>?_) (fun q5=>?_)
 ·have hR:=af6 (r:=r) hw1 hw2 h2 h3 (by rw[EO];exact q5)
  refine aJ 1 dS q5 ?_
  apply WP.ret
  exact Me hR
 have hR:=Xb (r:=r) (p:=p) (u:=u) (now:=now) hw1 hw2 h2 h3 (by rw[EO];exact q5)
 exact absurd (by rw[hR]) h
abbrev g_:List Nat:=[0,1,2,3,4,10,11,14,26,29,36,39]
theorem OA (r:Rc)(hr:r.ok)(nl nu:Bool)(hnl:nl=true→r.rq=[])(hnu:nu=true→r.us=[])(hn:r.rq.length≤1000)(id p:List UInt8)(u now:Int)(hid:id.length≤140737488355328)(hp:p.length≤140737488355328)(h:(lI r id p u now).1=0):aF Pr 72 [.ref 1 0,.str id,.str p,.int .i64 u,.int .i64 now] [(0,.aI 126 3 r.rq.length),(1,.box 114 [.bool true,.str r.self,.int .i64 r.skew,.slice 3 nl (r.rq.map jM) (some 0),.ref 3 0]),(2,.aI 213 2 r.us.length),(3,.box 174 [.int .i64 256,.slice 2 nu (r.us.map n_) (some 2)])] (.int .i64 0) [(0,.aI 126 3 r.rq.length),(4,.aI 126 3 (lI r id p u now).2.rq.length),(1,.box 114 [.bool true,.str r.self,.int .i64 r.skew,.slice 3 false ((lI r id p u now).2.rq.map jM) (some 4),.ref 3 0]),(2,.aI 213 2 r.us.length),(3,.box 174 [.int .i64 256,.slice 2 nu (r.us.map n_) (some 2)])]:=by
 have hwl:=UF r.rq (aN now)
 refine qX Tryz.func72 Tryz.ntmps72 ?_
 refine oC 8 g_ (sH r.self r.skew r.rq nl hnl hn r.us nu) (iR u) (iR now) ?_
 refine WP.S g_ fun _ z=>?_
 simp +decide only[TF,St.lay,dl,↓reduceIte]
 refine aj.P (iI _ (by assumption)) rfl rfl ?_
 refine ah.take 2 fun J hJ=>?_
 simp +decide only[TF,St.lay,dl,↓reduceIte]
 refine hJ _ _ ?_;clear hJ J
 refine ah.part 22 rfl (fun q1=>?_) (fun q1=>?_)
 ·simp only[adh] at q1
  have hR:=Y7 (r:=r) (p:=p) (u:=u) (now:=now) (by simpa using q1)
  exact absurd h (by rw[hR];simp)
 simp only[afE] at q1
 have hw1:bg id=true:=by simpa using q1
 simp +decide only[TF,q1,St.lay,dl,↓reduceIte]
 refine aj.P (iI _ (by assumption)) rfl rfl ?_
 simp +decide only[TF,St.lay,dl,↓reduceIte]
 apply z;clear z
 refine WP.cond rfl (fun q2=>?_) (fun q2=>?_)
 ·have hR:=Y8 (r:=r) (u:=u) (now:=now) hw1 (by simpa using q2)
  exact absurd h (by rw[hR];simp)
 have hw2:bg p=true:=by simpa using q2
 refine aJ 3 g_ q2 ?_
 refine WP.cond rfl (fun q3=>?_) (fun q3=>?_)
 ·have hR:=Y9 (r:=r) hw1 hw2 q3
  exact absurd h (by rw[hR];simp)
 have h2:=q3
 refine jd 3 g_ (uO r.self r.skew r.rq nl hnl hn r.us nu (aN now)) q3 ?_
 refine WP.S g_ fun _ z=>?_
 simp +decide only[TF,St.lay,dl,↓reduceIte]
 refine aj.pure (oW (BG r.rq (aN now)) _ (fun h=>by simpa using h) (by omega) id) rfl rfl (by simp[qL]) ?_
 simp +decide only[TF,St.lay,dl,↓reduceIte]
 apply z;clear z
 refine WP.cond rfl (fun q4=>?_) (fun q4=>?_)
 ·have hR:=aaL (r:=r) hw1 hw2 h2 (Xr.trans q4)
  exact absurd h (by rw[hR];simp)
 have h3:(fE r.rq now).contains id=false:=Xr.trans q4
 refine aJ 3 g_ q4 ?_
 refine WP.cond rfl (fun q5=>?_) (fun q5=>?_)
 ·have hR:=af6 (r:=r) hw1 hw2 h2 h3 (by rw[EO];exact q5)
  exact absurd h (by rw[hR];simp)
 have hR:=Xb (r:=r) (p:=p) (u:=u) (now:=now) hw1 hw2 h2 h3 (by rw[EO];exact q5)
 have hPN:(lI r id p u now).2.rq.map jM=(BG r.rq (aN now)).map jM++[[.str id,.str p,.int .i64 (aN u)]]:=by rw[hR];dsimp only;rw[agM h3,List.map_append];rfl
 have hPS:=hPN.symm
 have hPL:(lI r id p u now).2.rq.length=(BG r.rq (aN now)).length+1:=by rw[hR];dsimp only;rw[agM h3,abf];rfl
 refine aG 1 [] ?_
 refine WP.S g_ fun _ z=>?_
 simp +decide only[TF,q5,hPS,hPL,St.lay,dl,↓reduceIte]
 repeat (refine⟨⟨by (try simp only[abf,ac',adg,aht,abN,acS]);omega,by (try simp only[abf,ac',adg,aht,abN,acS]);omega⟩,?_⟩)
 apply z;clear z
 refine aG 1 g_ ?_
 apply WP.ret
 exact Me hPL
set_option maxRecDepth 10000
abbrev zF:List Nat:=[0,1,4,5,16,28]
theorem Xt (us:US)(nu:Bool)(hnu:nu=true→us=[])(hun:us.length≤1000)(s:List UInt8):aF Pr 189 [.ref 3 0,.str s] [(2,.aI 213 2 us.length),(3,.box 174 [.int .i64 256,.slice 2 nu (us.map n_) (some 2)])] (.int .i64 (OI us s 0)) [(2,.aI 213 2 us.length),(3,.box 174 [.int .i64 256,.slice 2 nu (us.map n_) (some 2)])]:=by
 refine qX Tryz.func189 Tryz.ntmps189 ?_
 refine aG 4 zF ?_
 refine WP.lp [0,1] (X:={k:Nat // k≤us.length∧OI us s 0=OI (us.drop k) s k}) (fun x=>match x with| ⟨(k),_⟩=>[(5,.int .i64 k)]) (fun x=>match x with| ⟨(k),_⟩=>[(2,.aI 213 2 us.length),(3,.box 174 [.int .i64 256,.slice 2 nu (us.map n_) (some 2)])]) (fun x=>match x with| ⟨(k),_⟩=>us.length - k) (by simp +decide only[W,↓reduceIte];rfl) ?_ ⟨(0),⟨ada _,rfl⟩⟩ ?_
 rotate_left
 ·exact QB
 rintro ⟨k,⟨hk,hI⟩⟩
 dsimp only
 simp only[abS,abT]
 refine aG 2 zF ?_
 refine WP.cond rfl (fun q1=>?_) (fun q1=>?_)
 ·have hlt:k<us.length:=aO q1
  have hg:(us.map n_)[k]?=some [.str us[k].1,.int .i64 us[k].2.1]:=getM hlt
  have hnf:=aX hnu hlt
  rw[bZ hlt,Oy] at hI
  refine oC 4 zF q1 hg hnf ?_
  refine WP.cond rfl (fun q2=>?_) (fun q2=>?_)
  ·have hR:=hI.trans (if_pos q2)
   refine aJ 1 zF q2 ?_
   apply WP.ret
   exact zR2 hR hnf
  rw[if_neg (by rw[q2];decide)] at hI
  refine aJ 2 [] q2 ?_
  show ∃y,_∧Weak _ _ _
  refine⟨⟨k+1,?_⟩,?_,?_⟩
  ·exact⟨by omega,hI⟩
  ·dsimp only;omega
  exact CP (aU hlt (show us.length≤140737488355328 by omega)) hnf
 have hge:us.length≤k:=aP q1
 rw[dR hge,UA] at hI
 have hR:=hI
 refine aJ 2 zF q1 ?_
 apply WP.ret
 exact Me hR
theorem ajl {α:Type}{l:jG α}{s:List UInt8}(h:gZ l s≠none):∃(i:Nat) (hi:i<l.length),OI l s 0=(i:Int)∧gZ l s=some l[i].2.1:=by
 rcases rF s l 0 with⟨_,h2⟩ | ⟨i,hi,h1,_,h2,_⟩
 · exact absurd h2 h
 · exact⟨i,hi,by rw[h1,ade],h2⟩
abbrev lK:List Nat:=[0,1,2,3,8,9,10,11,20,27,30,47]
theorem Zt (us:US)(nu:Bool)(hnu:nu=true→us=[])(hun:us.length≤1000)(c:Nat)(id:List UInt8)(hid:id.length≤140737488355328)(u now:Int)(h:(gG us c id u now).1≠0):aF Pr 133 [.ref 3 0,.str id,.int .i64 u,.int .i64 now] [(2,.aI 213 2 us.length),(3,.box 174 [.int .i64 256,.slice 2 nu (us.map n_) (some 2)])] (.int .i64 (gG us c id u now).1) [(2,.aI 213 2 us.length),(3,.box 174 [.int .i64 256,.slice 2 nu (us.map n_) (some 2)])]:=by
 refine qX Tryz.func133 Tryz.ntmps133 ?_
 refine aG 5 lK ?_
 refine WP.S lK fun _ z=>?_
 simp +decide only[TF,↓reduceIte]
 refine aj.P (iT _) rfl rfl ?_
 simp +decide only[TF,↓reduceIte]
 refine aj.P (iT _) rfl rfl ?_
 simp +decide only[TF,↓reduceIte]
 apply z;clear z
 apply WP.seq
 refine WP.S lK fun _ z=>?_
 simp +decide only[TF,↓reduceIte]
 refine aj.P (iI _ (by assumption)) rfl rfl ?_
 simp +decide only[TF,↓reduceIte]
 apply z;clear z
 refine WP.cond rfl (fun q1=>?_) (fun q1=>?_)
 ·simp only[adh] at q1
  have hR:=W_ (us:=us) (c:=c) (u:=u) (now:=now) (by simpa using q1)
  refine aJ 1 lK q1 ?_
  apply WP.ret
  exact Me hR
 simp only[afE] at q1
 have hw1:bg id=true:=by simpa using q1
 refine aJ 3 lK q1 ?_
 refine WP.cond rfl (fun q2=>?_) (fun q2=>?_)
 ·have hR:=Oj (us:=us) (c:=c) hw1 q2
  refine aJ 1 lK q2 ?_
  apply WP.ret
  exact Me hR
 have h2:=q2
 obtain⟨i,hi,hx,hf⟩:=ajl (l:=us) (s:=id) (fun h0=>h (by rw[Uo hw1 h2 h0]))
 have hi0:decide ((i:Int)≥0)=true:=decide_eq_true (by omega)
 have hg:(us.map n_)[i]?=some [.str us[i].1,.int .i64 us[i].2.1]:=getM hi
 have hnf:=aX hnu hi
 refine OY 4 lK (Xt us nu hnu hun id) q2 hnf hx hg ?_
 refine WP.cond rfl (fun q3=>?_) (fun q3=>?_)
 ·have hR:=Un (c:=c) hw1 h2 hf q3
  refine aJ 1 lK q3 ?_
  apply WP.ret
  exact zR2 hR hnf
 have hR:=af4 (c:=c) hw1 h2 hf q3
 exact absurd (by rw[hR]) h
abbrev mW:List Nat:=[0,1,2,3,8,9,10,11,20,27,30,47,49,67,80]
theorem Zu (us:US)(nu:Bool)(hnu:nu=true→us=[])(hun:us.length≤1000)(c:Nat)(id:List UInt8)(hid:id.length≤140737488355328)(u now:Int)(h:(gG us c id u now).1=0)(hf:gZ us id=none)(ar9:us.length≤200):aF Pr 133 [.ref 3 0,.str id,.int .i64 u,.int .i64 now] [(2,.aI 213 2 us.length),(3,.box 174 [.int .i64 256,.slice 2 nu (us.map n_) (some 2)])] (.int .i64 0) [(2,.aI 213 2 (gG us c id u now).2.1.length),(3,.box 174 [.int .i64 256,.slice 2 false ((gG us c id u now).2.1.map n_) (some 2)])]:=by
 have hx:OI us id 0=-1:=by rcases rF id us 0 with⟨a,_⟩ | ⟨i,hi,_,_,a,_⟩;exact a;rw[hf] at a;cases a
 have hi0:decide ((-1:Int)≥0)=false:=by decide
 have hl2:decide ((us.length:Int)≥256)=false:=decide_eq_false (by omega)
 refine qX Tryz.func133 Tryz.ntmps133 ?_
 refine aG 5 mW ?_
 refine WP.S mW fun _ z=>?_
 simp +decide only[TF,↓reduceIte]
 refine aj.P (iT _) rfl rfl ?_
 simp +decide only[TF,↓reduceIte]
 refine aj.P (iT _) rfl rfl ?_
 simp +decide only[TF,↓reduceIte]
 apply z;clear z
 apply WP.seq
 refine WP.S mW fun _ z=>?_
 simp +decide only[TF,↓reduceIte]
 refine aj.P (iI _ (by assumption)) rfl rfl ?_
 simp +decide only[TF,↓reduceIte]
 apply z;clear z
 refine WP.cond rfl (fun q1=>?_) (fun q1=>?_)
 ·simp only[adh] at q1
  have hR:=W_ (us:=us) (c:=c) (u:=u) (now:=now) (by simpa using q1)
  exact absurd h (by rw[hR];simp)
 simp only[afE] at q1
 have hw1:bg id=true:=by simpa using q1
 refine aJ 3 mW q1 ?_
 refine WP.cond rfl (fun q2=>?_) (fun q2=>?_)
 ·have hR:=Oj (us:=us) (c:=c) hw1 q2
  exact absurd h (by rw[hR];simp)
 have h2:=q2
 have hR:=Uo (c:=c) hw1 h2 hf
 have hPN:(gG us c id u now).2.1.map n_=us.map n_++[[.str id,.int .i64 (aN u)]]:=by rw[hR];dsimp only;unfold qx;rw[hf,List.map_append];rfl
 have hPS:=hPN.symm
 have hPL:(gG us c id u now).2.1.length=us.length+1:=by rw[hR];dsimp only;unfold qx;rw[hf,abf];rfl
 refine CO 18 mW (Xt us nu hnu hun id) q2 hx hl2 ?_
 refine WP.S mW fun _ z=>?_
 simp +decide only[TF,hPS,hPL,↓reduceIte]
 repeat (refine⟨⟨by (try simp only[abf,ac',adg,aht,abN,acS]);omega,by (try simp only[abf,ac',adg,aht,abN,acS]);omega⟩,?_⟩)
 apply z;clear z
 refine aG 1 mW ?_
 apply WP.ret
 exact Me hPL
abbrev sJ:List Nat:=[0,1,4,5,12,14]
theorem Zv (self:List UInt8)(skew:Int)(hs:self.length≤140737488355328)(h:newE self skew≠0):ay Pr 23 [.str self,.int .i64 skew] (.aQ [.aV,.int .i64 (newE self skew)]):=by
 have hL:newE self skew=0↔(bg self=true∧decide (aN skew>600)=false):=by have:=Gv (self:=self) (skew:=skew);rwa [qC] at this
 refine gK Tryz.func23 Tryz.ntmps23 ?_
 refine aJ 3 sJ (iR skew) ?_
 refine WP.S sJ fun _ z=>?_
 simp +decide only[TF,↓reduceIte]
 refine aj.P (iI _ (by assumption)) rfl rfl ?_
 simp +decide only[TF,↓reduceIte]
 apply z;clear z
 refine WP.cond rfl (fun q1=>?_) (fun q1=>?_)
 ·simp only[adh] at q1
  have hR:=afW (skew:=skew) (by simpa using q1)
  refine aJ 1 sJ q1 ?_
  apply WP.ret
  exact Ends.P (d:= .aQ [_,_]) rfl (Le.of_eq (by simp +decide only[St.get,lk,W,hR,↓reduceIte]))
 simp only[afE] at q1
 have hw1:bg self=true:=by simpa using q1
 refine aJ 3 sJ q1 ?_
 refine WP.cond rfl (fun q2=>?_) (fun q2=>?_)
 ·have hR:=afX hw1 (by rw[qC];exact q2)
  refine aJ 1 sJ q2 ?_
  apply WP.ret
  exact Ends.P (d:= .aQ [_,_]) rfl (Le.of_eq (by simp +decide only[St.get,lk,W,hR,↓reduceIte]))
 exact absurd (hL.2 ⟨hw1,q2⟩) h
abbrev GL:List Nat:=[0,1,4,5,6,12,14]
theorem acZ (self:List UInt8)(skew:Int)(hs:self.length≤140737488355328)(h:newE self skew=0):aF Pr 23 [.str self,.int .i64 skew] [] (.aQ [.ref 1 0,.int .i64 0]) [(0,.box 174 [.int .i64 256,.slice 0 true [] none]),(1,.box 114 [.bool true,.str self,.int .i64 (gQ skew 0),.slice 0 true [] none,.ref 0 0])]:=by
 have hL:newE self skew=0↔(bg self=true∧decide (aN skew>600)=false):=by have:=Gv (self:=self) (skew:=skew);rwa [qC] at this
 obtain⟨hw1,hl1⟩:=hL.1 h
 have hn1:(!(bg self))=false:=by rw[hw1];rfl
 have ha:=qC skew
 refine qX Tryz.func23 Tryz.ntmps23 ?_
 refine aJ 3 GL (iR skew) ?_
 refine WP.S GL fun _ z=>?_
 simp +decide only[TF,St.lay,dl,↓reduceIte]
 refine aj.P (iI _ (by assumption)) rfl rfl ?_
 simp +decide only[TF,hn1,St.lay,dl,↓reduceIte]
 apply z;clear z
 refine jd 8 GL (acW) hl1 ?_
 apply WP.ret
 exact zT1 ha
set_option maxRecDepth 20000
def wz (us:US):List D:=(us.map n_).flatten
theorem EP (e:List UInt8 × Int × Nat)(us:US):wz (e::us)= .str e.1:: .int .i64 e.2.1::wz us:=rfl
theorem aa0:∀us:US,(wz us).length=us.length * 2
 | []=>rfl
 |e::us=>by rw[EP,abN,abN,aa0 us,abN];omega
theorem OB:∀{us:US} {k:Nat} (hk:k<us.length),(wz us).drop (k * 2)= .str us[k].1:: .int .i64 us[k].2.1::wz (us.drop (k+1))
 |e::us,0,_=>rfl
 |e::us,k+1,hk=>by
  have h:=OB (us:=us) (k:=k) (by simpa using hk)
  rw[EP,show (k+1) * 2=k * 2+1+1 by omega,anx,anx,h]
  rfl
theorem ac0 {us:US}{k:Nat}(hk:k<us.length):(wz us).drop (k * 2+1)= .int .i64 us[k].2.1::wz (us.drop (k+1)):=by
 rw[← alv,OB hk];rfl
theorem aa1:∀{us:US} {k:Nat} {s:List UInt8} (x:Int) (hk:k<us.length) (h:us[k].1=s) (hn:∀j (hj:j<k),us[j].1≠s),(wz us).take (k * 2+1)++(.int .i64 x::(wz us).drop (k * 2+2))=wz (CB us s x)
 |(a,d,n)::us,0,s,x,_,h,_=>by
  have h':s=a:=h.symm
  unfold CB
  rw[if_pos h']
  rfl
 |(a,d,n)::us,k+1,s,x,hk,h,hn=>by
  have hne:¬s=a:=fun e=>hn 0 (by omega) e.symm
  unfold CB
  rw[if_neg hne,EP,EP,← aa1 (us:=us) (k:=k) x (by simpa using hk) (by simpa using h) (fun j hj=>by simpa using hn (j+1) (by omega))]
  rw[show (k+1) * 2+1=k * 2+1+1+1 by omega,show (k+1) * 2+2=k * 2+2+1+1 by omega]
  rfl
theorem Xu {α:Type}:∀(l:jG α) (s:List UInt8) (x:α),(CB l s x).length=l.length
 | [],_,_=>rfl
 |(a,d,n)::l,s,x=>by
  unfold CB
  split
  ·rfl
  ·simp[Xu l s x]
theorem aa2 {us:US}{c:Nat}{s:List UInt8}{x:Int}(h:gZ us s≠none):qx us c s x=CB us s x:=by
 unfold qx
 cases h2:gZ us s with
 |none=>exact absurd h2 h
 |some y=>rfl
@[simp] theorem ajm {S:Nat→Prop}(us:US):(∀d∈wz us,bY S d)↔True:=by
 simp only[iff_true]
 intro d hd
 obtain⟨x,hx,hd⟩:=List.mem_flatten.1 hd
 obtain⟨e,_,rfl⟩:=List.mem_map.1 hx
 exact (UC e).2 trivial d hd
set_option maxRecDepth 10000
theorem Xv {α:Type}{l:jG α}{s:List UInt8}(h:gZ l s≠none):∃(i:Nat) (hi:i<l.length),OI l s 0=(i:Int)∧gZ l s=some l[i].2.1∧l[i].1=s∧∀j (hj:j<i),l[j].1≠s:=by
 rcases rF s l 0 with⟨_,h2⟩ | ⟨i,hi,h1,h3,h2,h4⟩
 · exact absurd h2 h
 · exact⟨i,hi,by rw[h1,ade],h2,h3,h4⟩
abbrev wo:List Nat:=[0,1,4,5,16,28]
theorem ac1 (us:US)(hun:us.length≤1000)(s:List UInt8):aF Pr 189 [.ref 3 0,.str s] [(2,.arr 213 (wz us)),(3,.box 174 [.int .i64 256,.arr 2 2 us.length])] (.int .i64 (OI us s 0)) [(2,.arr 213 (wz us)),(3,.box 174 [.int .i64 256,.arr 2 2 us.length])]:=by
 refine qX Tryz.func189 Tryz.ntmps189 ?_
 refine aG 4 wo ?_
 refine WP.lp [0,1] (X:={k:Nat // k≤us.length∧OI us s 0=OI (us.drop k) s k}) (fun x=>match x with| ⟨(k),_⟩=>[(5,.int .i64 k)]) (fun x=>match x with| ⟨(k),_⟩=>[(2,.arr 213 (wz us)),(3,.box 174 [.int .i64 256,.arr 2 2 us.length])]) (fun x=>match x with| ⟨(k),_⟩=>us.length - k) (by simp +decide only[W,↓reduceIte];rfl) ?_ ⟨(0),⟨ada _,rfl⟩⟩ ?_
 rotate_left
 ·exact QB
 rintro ⟨k,⟨hk,hI⟩⟩
 dsimp only
 simp only[abS,abT]
 refine aG 2 wo ?_
 refine WP.cond rfl (fun q1=>?_) (fun q1=>?_)
 ·have hlt:k<us.length:=aO q1
  have hD:(wz us).drop (k * 2)=_:=OB hlt
  rw[bZ hlt,Oy] at hI
  refine oC 4 wo q1 hD hlt ?_
  refine WP.cond rfl (fun q2=>?_) (fun q2=>?_)
  ·have hR:=hI.trans (if_pos q2)
   refine aJ 1 wo q2 ?_
   apply WP.ret
   exact Me hR
  rw[if_neg (by rw[q2];decide)] at hI
  refine aJ 2 [] q2 ?_
  show ∃y,_∧Weak _ _ _
  refine⟨⟨k+1,?_⟩,?_,?_⟩
  ·exact⟨by omega,hI⟩
  ·dsimp only;omega
  exact zY1 (aU hlt (show us.length≤140737488355328 by omega))
 have hge:us.length≤k:=aP q1
 rw[dR hge,UA] at hI
 have hR:=hI
 refine aJ 2 wo q1 ?_
 apply WP.ret
 exact Me hR
abbrev sK:List Nat:=[0,1,2,3,8,9,10,11,20,27,30,47,49]
theorem Zw (us:US)(hun:us.length≤1000)(c:Nat)(id:List UInt8)(hid:id.length≤140737488355328)(u now:Int)(h:(gG us c id u now).1=0)(hf:gZ us id≠none):aF Pr 133 [.ref 3 0,.str id,.int .i64 u,.int .i64 now] [(2,.arr 213 (wz us)),(3,.box 174 [.int .i64 256,.arr 2 2 us.length])] (.int .i64 0) [(2,.arr 213 (wz (gG us c id u now).2.1)),(3,.box 174 [.int .i64 256,.arr 2 2 (gG us c id u now).2.1.length])]:=by
 obtain⟨i,hi,hx,hf2,h1i,hnj⟩:=Xv hf
 have hi0:decide ((i:Int)≥0)=true:=decide_eq_true (by omega)
 have hD1:(wz us).drop (i * 2+1)=_:=ac0 hi
 have hlen:=aa0 us
 have hL1:(i * 2+1+1≤(wz us).length)=True:=eq_true (by omega)
 have hL2:(i * 2+2≤(wz us).length)=True:=eq_true (by omega)
 have hil:i≤us.length:=by omega
 have hR:(gG us c id u now)=(0,qx us c id (aN u),uq us c id):=by unfold gG at h ⊢;split at h;rename_i h0;rw[if_pos h0];rename_i h0;exact absurd h h0
 have hPL:(gG us c id u now).2.1.length=us.length:=by rw[hR];dsimp only;rw[aa2 hf,Xu]
 have hPS:List.take (i * 2+1) (wz us)++D.int .i64 (aN u)::List.drop (i * 2+2) (wz us)=wz (gG us c id u now).2.1:=by rw[hR];dsimp only;rw[aa2 hf];exact aa1 _ hi h1i hnj
 have ar_:List.take (i * 2+1) (wz us)++D.int .i64 (aN u)::List.drop (i * 2+1+1) (wz us)=wz (gG us c id u now).2.1:=hPS
 refine qX Tryz.func133 Tryz.ntmps133 ?_
 refine aG 5 sK ?_
 refine WP.S sK fun _ z=>?_
 simp +decide only[TF,↓reduceIte]
 refine aj.P (iT _) rfl rfl ?_
 simp +decide only[TF,↓reduceIte]
 refine aj.P (iT _) rfl rfl ?_
 simp +decide only[TF,↓reduceIte]
 apply z;clear z
 apply WP.seq
 refine WP.S sK fun _ z=>?_
 simp +decide only[TF,↓reduceIte]
 refine aj.P (iI _ (by assumption)) rfl rfl ?_
 simp +decide only[TF,↓reduceIte]
 apply z;clear z
 refine WP.cond rfl (fun q1=>?_) (fun q1=>?_)
 ·simp only[adh] at q1
  have hR2:=W_ (us:=us) (c:=c) (u:=u) (now:=now) (by simpa using q1)
  exact absurd h (by rw[hR2];simp)
 simp only[afE] at q1
 have hw1:bg id=true:=by simpa using q1
 refine aJ 3 sK q1 ?_
 refine WP.cond rfl (fun q2=>?_) (fun q2=>?_)
 ·have hR2:=Oj (us:=us) (c:=c) hw1 q2
  exact absurd h (by rw[hR2];simp)
 have h2:=q2
 have h4:decide (us[i].2.1>aN now)=false:=by cases h5:decide (us[i].2.1>aN now) with|false=>rfl|true=>exact absurd h (by rw[Un (c:=c) hw1 h2 hf2 h5];simp)
 refine zG7 11 sK (ac1 us hun id) q2 hx hi hD1 hL1 h4 ?_
 apply WP.ret
 exact zR2 hPL hPS
set_option maxRecDepth 20000
theorem zG (f u t s:Int):jA f u (aN t) s=jA f u t s:=by unfold jA;rw[Gp]
theorem ER:∀(l:List Key) (id:List UInt8) (t s:Int),jg l id (aN t) s=jg l id t s
 | [],_,_,_=>rfl
 |k::l,id,t,s=>by rw[zY,zY,zG,ER l]
theorem zH (ms:TS)(id:List UInt8)(t:Int):nX ms id (aN t)=nX ms id t:=by unfold nX;simp only[zG]
theorem wu (us:US)(c:Nat)(id:List UInt8)(u t:Int):gG us c id u (aN t)=gG us c id u t:=by
 unfold gG Po;simp only[Gp]
theorem pz (f:Nat→Nat)(ms:TS):oz f (og ms)=og ms:=by
 rw[kN]
 refine (ajb fun x hx=>?_).trans (amE _)
 obtain⟨e,_,rfl⟩:=List.mem_map.1 hx
 simp[jO.cs,iG,bK,D8]
theorem ac2 (f:Nat→Nat)(ms:TS)(id:List UInt8)(t:Int):bK f (nX ms id t)=nX ms id t:=ZI f ((abU ms id t).2 trivial)
theorem kM (ms:TS)(hln:ms.length≤1000)(hk:ou ms)(s:List UInt8)(t:Int):aF Pr 129 [.ref 6 0,.str s,.int .i64 t] [(5,.aI 55 5 ms.length),(6,.box 117 [.slice 5 false (og ms) (some 5)])] (nX ms s t) [(5,.aI 55 5 ms.length),(6,.box 117 [.slice 5 false (og ms) (some 5)])]:=by
 obtain⟨f,g,h1,h2⟩:=lg [5,6] (by decide)
 have:=aF.rename h1 (Py ms false nofun hln hk s t)
 have f0:f 0=5:=h2 0 5 rfl
 have f1:f 1=6:=h2 1 6 rfl
 simpa [kC,pz,ac2,lU,bK,iG,f0,f1] using this
set_option maxRecDepth 10000
set_option maxHeartbeats 8000000
theorem UG (t d:Int):ay Pr 134 [.int .i64 t,.int .i64 d] (.int .i64 (gQ t d)):=by
 refine gK Tryz.func134 Tryz.ntmps134 ?_
 refine aG 1 [0,1,4] ?_
 refine WP.S [0,1,4] fun _ z=>?_
 simp +decide only[TF,↓reduceIte]
 refine aj.P (iT _) rfl rfl ?_
 simp +decide only[TF,↓reduceIte]
 refine aj.P (iT _) rfl rfl ?_
 simp +decide only[TF,afR,↓reduceIte]
 refine aj.P (iT _) rfl rfl ?_
 simp +decide only[TF,↓reduceIte]
 apply z;clear z
 apply WP.ret
 exact Bq @gQ.eq_def
abbrev aY:List Nat:=[0,1,2,3,8,9,10,11,12,13,14,15,16,17,18,19,20,21,25,38,49,65,73,81,95,118,130,148]
theorem Pz (ms:TS)(hms:TS.ok ms)(hln:ms.length≤1000)(hk:ou ms)(r:Rc)(hr:r.ok)(nl nu:Bool)(hnl:nl=true→r.rq=[])(hnu:nu=true→r.us=[])(hn:r.rq.length≤1000)(hun:r.us.length≤1000)(s:List UInt8)(hs:s.length≤1099511627776)(now:Int)(h:(fM ms r s now).2.1≠0):aF Pr 73 [.ref 1 0,.ref 6 0,.str s,.int .i64 now] [(0,.aI 126 3 r.rq.length),(1,.box 114 [.bool true,.str r.self,.int .i64 r.skew,.slice 3 nl (r.rq.map jM) (some 0),.ref 3 0]),(2,.aI 213 2 r.us.length),(3,.box 174 [.int .i64 256,.slice 2 nu (r.us.map n_) (some 2)]),(5,.aI 55 5 ms.length),(6,.box 117 [.slice 5 false (og ms) (some 5)])] (.aQ [.agg (fM ms r s now).1.cs,.int .i64 (fM ms r s now).2.1]) [(0,.aI 126 3 r.rq.length),(1,.box 114 [.bool true,.str r.self,.int .i64 r.skew,.slice 3 nl (r.rq.map jM) (some 0),.ref 3 0]),(2,.aI 213 2 r.us.length),(3,.box 174 [.int .i64 256,.slice 2 nu (r.us.map n_) (some 2)]),(5,.aI 55 5 ms.length),(6,.box 117 [.slice 5 false (og ms) (some 5)])]:=by
 refine qX Tryz.func73 Tryz.ntmps73 ?_
 refine jd 7 aY (sH r.self r.skew r.rq nl hnl hn r.us nu) (iR now) ?_
 rcases hD:l9 s with _ | ⟨text,key,code,a⟩
 ·have hR:=aaO (ms:=ms) (r:=r) (now:=now) hD
  refine WP.S aY fun _ z=>?_
  simp +decide only[TF,St.lay,dl,↓reduceIte]
  refine aj.P (uz s hs) rfl rfl ?_
  simp +decide only[TF,hD,Px,As.cs,St.lay,dl,↓reduceIte]
  apply z;clear z
  refine aG 4 aY ?_
  apply WP.ret
  exact OD hR
 obtain⟨ht1,ht2⟩:=EG hD
 have Zc:=mF (jE ht2).1.1
 simp only at ht1 Zc
 refine WP.S aY fun _ z=>?_
 simp +decide only[TF,St.lay,dl,↓reduceIte]
 refine aj.P (uz s hs) rfl rfl ?_
 simp +decide only[TF,hD,Px,As.cs,St.lay,dl,↓reduceIte]
 apply z;clear z
 refine aG 4 aY ?_
 rcases Oo ms a.iw now with⟨hF,hP⟩ | ⟨p,hF,hC,hP⟩ | ⟨p,hF,hC,hP⟩
 ·have hR:=af_ (r:=r) (now:=now) hD hF
  have hb:((6:Int) != 0)=true:=by decide
  refine OY 5 aY (kM ms hln hk a.iw (aN now)) hP @Wh.eq_def @zH hb ?_
  apply WP.ret
  exact OD hR
 ·have hR:=af' (r:=r) hD hF hC
  refine OY 5 aY (kM ms hln hk a.iw (aN now)) hP @Wh.eq_def @zH hC ?_
  apply WP.ret
  exact OD hR
 have hY:=aaP (r:=r) hD hF hC
 obtain⟨hpo,_⟩:=yV hms hF
 have Zd:=(Ed (id:=key) (now:=now) (skew:=r.skew) hpo.2.2.2.2).2
 have hb:((0:Int) != 0)=false:=by decide
 refine WP.S aY fun _ z=>?_
 simp +decide only[TF,St.lay,dl,↓reduceIte]
 refine aj.imp (kM ms hln hk a.iw (aN now)) rfl rfl (by simp[lk,aB]) (by simp[lk]) (by simp[lk]) ?_
 simp +decide only[TF,hP,jO.cs,zH,St.lay,dl,↓reduceIte]
 apply z;clear z
 refine jd 7 aY (uJ p.keys p.nk key (aN now) r.skew hpo.2.2.1 hpo.2.2.2.1) @ER ?_
 refine WP.cond rfl (fun q1=>?_) (fun q1=>?_)
 ·have hR:=hY.trans (if_pos q1)
  refine aJ 1 aY q1 ?_
  apply WP.ret
  exact OD hR
 rw[if_neg (by rw[q1];decide)] at hY
 refine jd 3 aY (J6 (jg p.keys key now r.skew).1.sec text Zd (by omega)) q1 ?_
 refine WP.cond rfl (fun q2=>?_) (fun q2=>?_)
 ·have Ze:=RP q2
  have hR:=hY.trans (if_pos Ze)
  refine aJ 1 aY q2 ?_
  apply WP.ret
  exact OD hR
 have Ze:=RS q2
 rw[if_neg (by rw[Ze];decide)] at hY
 refine aJ 3 aY q2 ?_
 refine WP.cond rfl (fun q3=>?_) (fun q3=>?_)
 ·have Ze:=RP q3
  have hR:=hY.trans (if_pos Ze)
  refine aJ 1 aY q3 ?_
  apply WP.ret
  exact OD hR
 have Ze:=RS q3
 rw[if_neg (by rw[Ze];decide)] at hY
 refine oC 4 aY (nV a.kK a.fD (aN now) r.skew) q3 @zG ?_
 refine WP.cond rfl (fun q4=>?_) (fun q4=>?_)
 ·have hR:=hY.trans (if_pos q4)
  refine aJ 1 aY q4 ?_
  apply WP.ret
  exact OD hR
 rw[if_neg (by rw[q4];decide)] at hY
 refine aG 1 [] ?_
 rcases rF a.req r.rq 0 with⟨hx,hQ⟩ | ⟨i,hi,hx,_,hQ,_⟩
 ·have hi1:decide ((-1:Int)<0)=true:=by decide
  have hR:=hY.trans (by unfold EH;rw[hQ])
  refine WP.D aY fun _ z=>?_
  simp +decide only[TF,q4,St.lay,dl,↓reduceIte]
  refine aj.pure (oW r.rq _ (fun h=>by first|exact hnl h|cases h) (by omega) a.req) rfl rfl (by simp[qL]) ?_
  simp +decide only[TF,hx,St.lay,dl,↓reduceIte]
  refine z _ _ (by kernel_rfl) ?_;clear z
  refine aG 4 aY ?_
  apply WP.ret
  exact OD hR
 rw[ade] at hx
 have hi1:decide ((i:Int)<0)=false:=decide_eq_false (by omega)
 have hg:(r.rq.map jM)[i]?=some [.str r.rq[i].1,.str r.rq[i].2.1.1,.int .i64 r.rq[i].2.1.2]:=getM hi
 have hnf:=aX hnl hi
 have hU:=Om (now:=now) hQ
 refine WP.D aY fun _ z=>?_
 simp +decide only[TF,q4,hnf,St.lay,dl,↓reduceIte]
 refine aj.pure (oW r.rq _ (fun h=>by first|exact hnl h|cases h) (by omega) a.req) rfl rfl (by simp[qL]) ?_
 simp +decide only[TF,hx,St.lay,dl,↓reduceIte]
 refine z _ _ (by kernel_rfl) ?_;clear z
 refine jd 2 aY hi1 hg ?_
 refine WP.cond rfl (fun q5=>?_) (fun q5=>?_)
 ·rw[if_pos (by simpa using q5)] at hU
  have hR:=hY.trans hU
  refine aJ 1 aY q5 ?_
  apply WP.ret
  refine Ends.imp (d:= .aQ [_,_]) (.inr rfl) rfl (by rw[hR];exact Le.trans (Le.of_eq (by simp +decide only[St.get,W,ak,fA,↓reduceIte])) (JZ _)) ?_ ?_ ?_
  ·simp[lk]
  ·simp[lk,aB,hnf]
  simp[lk]
 rw[if_neg (by simpa using q5)] at hU
 refine jd 3 aY hg q5 ?_
 refine WP.cond rfl (fun q6=>?_) (fun q6=>?_)
 ·rw[if_pos (RP q6)] at hU
  have hR:=hY.trans hU
  refine aJ 1 aY q6 ?_
  apply WP.ret
  refine Ends.imp (d:= .aQ [_,_]) (.inr rfl) rfl (by rw[hR];exact Le.trans (Le.of_eq (by simp +decide only[St.get,W,ak,fA,↓reduceIte])) (JZ _)) ?_ ?_ ?_
  ·simp[lk]
  ·simp[lk,aB,hnf]
  simp[lk]
 rw[if_neg (by rw[RS q6];decide)] at hU
 have hue:(gG r.us r.uc a.id (gQ a.fD r.skew) now).1≠0:=fun h0=>h (by rw[hY.trans hU,if_neg (by rw[h0];decide)])
 have aok:((gG r.us r.uc a.id (gQ a.fD r.skew) now).1 != 0)=true:=by simpa using hue
 rw[if_pos aok] at hU
 have hR:=hY.trans hU
 refine OY 6 aY (UG a.fD r.skew) (Zt r.us nu hnu hun r.uc a.id (by omega) (gQ a.fD r.skew) (aN now) (by rw[wu];exact hue)) q6 @wu aok ?_
 apply WP.ret
 refine Ends.imp (d:= .aQ [_,_]) (.inr rfl) rfl (by rw[hR];exact Le.trans (Le.of_eq (by simp +decide only[St.get,W,ak,fA,↓reduceIte])) (JZ _)) ?_ ?_ ?_
 ·simp[lk]
 ·simp[lk,aB,hnf]
 simp[lk]
set_option maxRecDepth 20000
theorem ac3 {r:Rc}{a:As}{now:Int}(h:(EH r a now).2.1=0):∃q,gZ r.rq a.req=some q∧decide (aN now≥q.2)=false∧(q.1 == a.iw)=true∧(gG r.us r.uc a.id (gQ a.fD r.skew) now).1=0∧
  EH r a now=(a,0,{ r with us:=(gG r.us r.uc a.id (gQ a.fD r.skew) now).2.1,uc:=(gG r.us r.uc a.id (gQ a.fD r.skew) now).2.2,rq:=xg r.rq a.req }):=by
 cases hq:gZ r.rq a.req with
 |none=>unfold EH at h;rw[hq] at h;simp at h
 |some q=>
  rw[Om hq] at h ⊢
  split at h
  ·simp at h
  rename_i g1
  split at h
  ·simp at h
  rename_i g2
  split at h
  ·rename_i g3;simp at g3 h;exact absurd h g3
  rename_i g3
  rw[if_neg g1,if_neg g2,if_neg g3]
  exact⟨q,rfl,by simpa using g1,by simpa using g2,by simpa using g3,rfl⟩
theorem GN {ms:TS}{r:Rc}{s:List UInt8}{now:Int}(h:(fM ms r s now).2.1=0):∃text key code a p q,l9 s=some (text,key,code,a)∧gu ms a.iw=some p∧(jA p.f p.u now 0 != 0)=false∧((jg p.keys key now r.skew).2 != 0)=false∧
  (code == yS (jg p.keys key now r.skew).1.sec text)=true∧(a.jV == r.self)=true∧(jA a.kK a.fD now r.skew != 0)=false∧gZ r.rq a.req=some q∧decide (aN now≥q.2)=false∧(q.1 == a.iw)=true∧(gG r.us r.uc a.id (gQ a.fD r.skew) now).1=0∧
  fM ms r s now=(a,0,{ r with us:=(gG r.us r.uc a.id (gQ a.fD r.skew) now).2.1,uc:=(gG r.us r.uc a.id (gQ a.fD r.skew) now).2.2,rq:=xg r.rq a.req }):=by
 cases hd:l9 s with
 |none=>rw[aaO hd] at h;simp at h
 |some d=>
  obtain⟨text,key,code,a⟩:=d
  cases hf:gu ms a.iw with
  |none=>rw[af_ hd hf] at h;simp at h
  |some p=>
   cases hp:(jA p.f p.u now 0 != 0) with
   |true=>rw[af' hd hf hp] at h;simp at h hp;exact absurd h hp
   |false=>
    rw[aaP hd hf hp] at h ⊢
    split at h
    ·rename_i g;simp at g h;exact absurd h g
    rename_i g1
    split at h
    ·simp at h
    rename_i g2
    split at h
    ·simp at h
    rename_i g3
    split at h
    ·rename_i g;simp at g h;exact absurd h g
    rename_i g4
    obtain⟨q,h1,h2,h3,h4,h5⟩:=ac3 h
    rw[if_neg g1,if_neg g2,if_neg g3,if_neg g4]
    exact⟨text,key,code,a,p,q,rfl,hf,hp,by simpa using g1,by simpa using g2,by simpa using g3,by simpa using g4,h1,h2,h3,h4,h5⟩
theorem Xw {l:RQ}:∀{s:List UInt8} {i:Nat} (hi:i<l.length),l[i].1=s→(∀j (hj:j<i),l[j].1≠s)→(l.map jM).take i++(l.map jM).drop (i+1)=(xg l s).map jM:=by
 induction l with
 |nil=>intro s i hi;simp at hi
 |cons e l ih=>
  obtain⟨a,d,n⟩:=e
  intro s i hi h1 h2
  unfold xg
  match i with
  | 0=>
   have h':s=a:=h1.symm
   rw[if_pos h'];rfl
  |i+1=>
   have hne:¬s=a:=fun e=>h2 0 (by omega) e.symm
   rw[if_neg hne,ag1,ahL,anx,abS,ag1,ih (by simpa using hi) (by simpa using h1) (fun j hj=>by simpa using h2 (j+1) (by omega))]
theorem Xx {l:RQ}{s:List UInt8}{q:List UInt8 × Int}(h:gZ l s=some q):∃(i:Nat) (hi:i<l.length),OI l s 0=(i:Int)∧l[i].2.1=q∧l[i].1=s∧∀j (hj:j<i),l[j].1≠s:=by
 obtain⟨i,hi,h1,h2,h3,h4⟩:=Xv (l:=l) (s:=s) (by rw[h];simp)
 rw[h] at h2
 exact⟨i,hi,h1,(al6 h2).symm,h3,h4⟩
set_option maxRecDepth 10000
abbrev fP:List Nat:=[0,1,2,3,8,9,10,11,12,13,14,15,16,17,18,19,20,21,25,38,49,65,73,81,95,118,130,148]
theorem PD (ms:TS)(hms:TS.ok ms)(hln:ms.length≤1000)(hk:ou ms)(r:Rc)(hr:r.ok)(nl nu:Bool)(hnl:nl=true→r.rq=[])(hnu:nu=true→r.us=[])(hn:r.rq.length≤1000)(hun:r.us.length≤200)(s:List UInt8)(hs:s.length≤1099511627776)(now:Int)(h:(fM ms r s now).2.1=0)(hu:gZ r.us (fM ms r s now).1.id=none):aF Pr 73 [.ref 1 0,.ref 6 0,.str s,.int .i64 now] [(0,.aI 126 3 r.rq.length),(1,.box 114 [.bool true,.str r.self,.int .i64 r.skew,.slice 3 nl (r.rq.map jM) (some 0),.ref 3 0]),(2,.aI 213 2 r.us.length),(3,.box 174 [.int .i64 256,.slice 2 nu (r.us.map n_) (some 2)]),(5,.aI 55 5 ms.length),(6,.box 117 [.slice 5 false (og ms) (some 5)])] (.aQ [.agg (fM ms r s now).1.cs,.int .i64 0]) [(0,.aI 126 3 r.rq.length),(12,.aI 126 3 (fM ms r s now).2.2.rq.length),(1,.box 114 [.bool true,.str r.self,.int .i64 r.skew,.slice 3 false ((fM ms r s now).2.2.rq.map jM) (some 12),.ref 3 0]),(2,.aI 213 2 (fM ms r s now).2.2.us.length),(3,.box 174 [.int .i64 256,.slice 2 false ((fM ms r s now).2.2.us.map n_) (some 2)]),(5,.aI 55 5 ms.length),(6,.box 117 [.slice 5 false (og ms) (some 5)])]:=by
 obtain⟨text,key,code,a,p,q,hD,hF,hC,hA0,hm0,hd0,hw0,hQ,hq1,hq2,hu0,hR⟩:=GN h
 have hP:=Nj hF hC
 obtain⟨ht1,ht2⟩:=EG hD
 have Zc:=mF (jE ht2).1.1
 simp only at ht1 Zc
 obtain⟨hpo,_⟩:=yV hms hF
 have Zd:=(Ed (id:=key) (now:=now) (skew:=r.skew) hpo.2.2.2.2).2
 obtain⟨i,hi,hx,hqi,h1i,hnj⟩:=Xx hQ
 have hi1:decide ((i:Int)<0)=false:=decide_eq_false (by omega)
 have hg:(r.rq.map jM)[i]?=some [.str r.rq[i].1,.str q.1,.int .i64 q.2]:=by rw[← hqi];exact getM hi
 have hnf:=aX hnl hi
 have hw:=aU hi (show r.rq.length≤140737488355328 by omega)
 have hil:i≤r.rq.length:=by omega
 have al0:i+1≤r.rq.length:=by omega
 have hDl:(r.rq.map jM).take i++(r.rq.map jM).drop (i+1)=(fM ms r s now).2.2.rq.map jM:=by rw[hR];exact Xw hi h1i hnj
 have hLn:min i r.rq.length+(r.rq.length - (i+1))=(fM ms r s now).2.2.rq.length:=by have h9:=congrArg List.length hDl;simp only[abf,adg,aht,ac'] at h9;exact h9
 have ha:(fM ms r s now).1=a:=by rw[hR]
 have hus:(gG r.us r.uc a.id (gQ a.fD r.skew) now).2.1=(fM ms r s now).2.2.us:=by rw[hR]
 rw[ha] at hu
 refine aF.of_wp Tryz.func73 rfl (by kernel_rfl) Tryz.ntmps73 (by simp) ?_
 simp only[aT,Nat.reduceAdd,ade,ag1,aj9]
 refine oC 7 fP (sH r.self r.skew r.rq nl hnl hn r.us nu) (iR now) hnf ?_
 refine WP.S fP fun _ z=>?_
 simp +decide only[TF,St.lay,dl,↓reduceIte]
 refine aj.P (uz s hs) rfl rfl ?_
 simp +decide only[TF,hD,Px,As.cs,St.lay,dl,↓reduceIte]
 apply z;clear z
 refine aG 4 fP ?_
 refine WP.S fP fun _ z=>?_
 simp +decide only[TF,St.lay,dl,↓reduceIte]
 refine aj.imp (kM ms hln hk a.iw (aN now)) rfl rfl (by simp[lk,aB]) (by simp[lk]) (by simp[lk]) ?_
 simp +decide only[TF,hP,jO.cs,zH,St.lay,dl,↓reduceIte]
 apply z;clear z
 refine zG6 18 fP (uJ p.keys p.nk key (aN now) r.skew hpo.2.2.1 hpo.2.2.2.1) (J6 (jg p.keys key now r.skew).1.sec text Zd (by omega)) @ER hA0 hm0 hd0 ?_
 refine zG6 4 fP (nV a.kK a.fD (aN now) r.skew) @abf.{0} @adg.{0} @aht.{0} @zG hw0 ?_
 refine WP.D fP fun _ z=>?_
 simp +decide only[TF,St.lay,dl,↓reduceIte]
 refine aj.pure (oW r.rq _ (fun h=>by first|exact hnl h|cases h) (by omega) a.req) rfl rfl (by simp[qL]) ?_
 simp +decide only[TF,hx,St.lay,dl,↓reduceIte]
 refine z _ _ (by kernel_rfl) ?_;clear z
 refine zG8 13 fP (UG a.fD r.skew) (Zu r.us nu hnu (by omega) r.uc a.id (by omega) (gQ a.fD r.skew) (aN now) (by rw[wu];exact hu0) hu hun) hq1 hi1 hg hq2 hus @wu ?_
 refine WP.D fP fun _ z=>?_
 simp +decide only[TF,hw,hil,al0,abf,adg,aht,St.lay,dl,↓reduceIte]
 repeat (refine⟨⟨by (try simp only[abf,ac',adg,aht,abN,acS]);omega,by (try simp only[abf,ac',adg,aht,abN,acS]);omega⟩,?_⟩)
 refine z _ _ (by kernel_rfl) ?_;clear z
 refine aG 1 fP ?_
 apply WP.ret
 refine Ends.imp (d:= .aQ [_,_]) (.inr rfl) rfl (by rw[hR];exact Le.of_eq (by simp +decide only[As.cs,St.get,W,ak,fA,↓reduceIte])) ?_ ?_ ?_
 ·simp[lk]
 ·simp[lk,aB,hil];exact⟨by rw[← hLn];omega,by rw[show List.take r.rq.length (r.rq.map jM)=r.rq.map jM from ajr (by simp)];exact hDl⟩
 simp[lk]
theorem Xy (self:List UInt8)(skew:Int)(l:RQ)(nl:Bool)(hnl:nl=true→l=[])(hn:l.length≤1000)(us:US)  : aF Pr 76 [.ref 1 0] [(0,.aI 126 3 l.length),(1,.box 114 [.bool true,.str self,.int .i64 skew,.slice 3 nl (l.map jM) (some 0),.ref 3 0]),(2,.arr 213 (wz us)),(3,.box 174 [.int .i64 256,.arr 2 2 us.length])] (.bool true) [(0,.aI 126 3 l.length),(1,.box 114 [.bool true,.str self,.int .i64 skew,.slice 3 nl (l.map jM) (some 0),.ref 3 0]),(2,.arr 213 (wz us)),(3,.box 174 [.int .i64 256,.arr 2 2 us.length])]:=by
 refine qX Tryz.func76 Tryz.ntmps76 ?_
 refine aG 2 [0,2] ?_
 apply WP.ret
 exact ZN
abbrev fQ:List Nat:=[0,1,2,3,8,9,10,11,12,13,14,15,16,17,18,19,20,21,25,38,49,65,73,81,95,118,130,148]
theorem PE (ms:TS)(hms:TS.ok ms)(hln:ms.length≤1000)(hk:ou ms)(r:Rc)(hr:r.ok)(nl:Bool)(hnl:nl=true→r.rq=[])(hn:r.rq.length≤1000)(hun:r.us.length≤200)(s:List UInt8)(hs:s.length≤1099511627776)(now:Int)(h:(fM ms r s now).2.1=0)(hu:gZ r.us (fM ms r s now).1.id≠none):aF Pr 73 [.ref 1 0,.ref 6 0,.str s,.int .i64 now] [(0,.aI 126 3 r.rq.length),(1,.box 114 [.bool true,.str r.self,.int .i64 r.skew,.slice 3 nl (r.rq.map jM) (some 0),.ref 3 0]),(2,.arr 213 (wz r.us)),(3,.box 174 [.int .i64 256,.arr 2 2 r.us.length]),(5,.aI 55 5 ms.length),(6,.box 117 [.slice 5 false (og ms) (some 5)])] (.aQ [.agg (fM ms r s now).1.cs,.int .i64 0]) [(0,.aI 126 3 r.rq.length),(12,.aI 126 3 (fM ms r s now).2.2.rq.length),(1,.box 114 [.bool true,.str r.self,.int .i64 r.skew,.slice 3 false ((fM ms r s now).2.2.rq.map jM) (some 12),.ref 3 0]),(2,.arr 213 (wz (fM ms r s now).2.2.us)),(3,.box 174 [.int .i64 256,.arr 2 2 (fM ms r s now).2.2.us.length]),(5,.aI 55 5 ms.length),(6,.box 117 [.slice 5 false (og ms) (some 5)])]:=by
 obtain⟨text,key,code,a,p,q,hD,hF,hC,hA0,hm0,hd0,hw0,hQ,hq1,hq2,hu0,hR⟩:=GN h
 have hP:=Nj hF hC
 obtain⟨ht1,ht2⟩:=EG hD
 have Zc:=mF (jE ht2).1.1
 simp only at ht1 Zc
 obtain⟨hpo,_⟩:=yV hms hF
 have Zd:=(Ed (id:=key) (now:=now) (skew:=r.skew) hpo.2.2.2.2).2
 obtain⟨i,hi,hx,hqi,h1i,hnj⟩:=Xx hQ
 have hi1:decide ((i:Int)<0)=false:=decide_eq_false (by omega)
 have hg:(r.rq.map jM)[i]?=some [.str r.rq[i].1,.str q.1,.int .i64 q.2]:=by rw[← hqi];exact getM hi
 have hnf:=aX hnl hi
 have hw:=aU hi (show r.rq.length≤140737488355328 by omega)
 have hil:i≤r.rq.length:=by omega
 have al0:i+1≤r.rq.length:=by omega
 have hDl:(r.rq.map jM).take i++(r.rq.map jM).drop (i+1)=(fM ms r s now).2.2.rq.map jM:=by rw[hR];exact Xw hi h1i hnj
 have hLn:min i r.rq.length+(r.rq.length - (i+1))=(fM ms r s now).2.2.rq.length:=by have h9:=congrArg List.length hDl;simp only[abf,adg,aht,ac'] at h9;exact h9
 have ha:(fM ms r s now).1=a:=by rw[hR]
 have hus:(gG r.us r.uc a.id (gQ a.fD r.skew) now).2.1=(fM ms r s now).2.2.us:=by rw[hR]
 rw[ha] at hu
 refine aF.of_wp Tryz.func73 rfl (by kernel_rfl) Tryz.ntmps73 (by simp) ?_
 simp only[aT,Nat.reduceAdd,ade,ag1,aj9]
 refine oC 7 fQ (Xy r.self r.skew r.rq nl hnl hn r.us) (iR now) hnf ?_
 refine WP.S fQ fun _ z=>?_
 simp +decide only[TF,St.lay,dl,↓reduceIte]
 refine aj.P (uz s hs) rfl rfl ?_
 simp +decide only[TF,hD,Px,As.cs,St.lay,dl,↓reduceIte]
 apply z;clear z
 refine aG 4 fQ ?_
 refine WP.S fQ fun _ z=>?_
 simp +decide only[TF,St.lay,dl,↓reduceIte]
 refine aj.imp (kM ms hln hk a.iw (aN now)) rfl rfl (by simp[lk,aB]) (by simp[lk]) (by simp[lk]) ?_
 simp +decide only[TF,hP,jO.cs,zH,St.lay,dl,↓reduceIte]
 apply z;clear z
 refine zG6 18 fQ (uJ p.keys p.nk key (aN now) r.skew hpo.2.2.1 hpo.2.2.2.1) (J6 (jg p.keys key now r.skew).1.sec text Zd (by omega)) @ER hA0 hm0 hd0 ?_
 refine zG6 4 fQ (nV a.kK a.fD (aN now) r.skew) @abf.{0} @adg.{0} @aht.{0} @zG hw0 ?_
 refine WP.D fQ fun _ z=>?_
 simp +decide only[TF,St.lay,dl,↓reduceIte]
 refine aj.pure (oW r.rq _ (fun h=>by first|exact hnl h|cases h) (by omega) a.req) rfl rfl (by simp[qL]) ?_
 simp +decide only[TF,hx,St.lay,dl,↓reduceIte]
 refine z _ _ (by kernel_rfl) ?_;clear z
 refine zG8 13 fQ (UG a.fD r.skew) (Zw r.us (by omega) r.uc a.id (by omega) (gQ a.fD r.skew) (aN now) (by rw[wu];exact hu0) hu) hq1 hi1 hg hq2 hus @wu ?_
 refine WP.D fQ fun _ z=>?_
 simp +decide only[TF,hw,hil,al0,abf,adg,aht,St.lay,dl,↓reduceIte]
 repeat (refine⟨⟨by (try simp only[abf,ac',adg,aht,abN,acS]);omega,by (try simp only[abf,ac',adg,aht,abN,acS]);omega⟩,?_⟩)
 refine z _ _ (by kernel_rfl) ?_;clear z
 refine aG 1 fQ ?_
 apply WP.ret
 refine Ends.imp (d:= .aQ [_,_]) (.inr rfl) rfl (by rw[hR];exact Le.of_eq (by simp +decide only[As.cs,St.get,W,ak,fA,↓reduceIte])) ?_ ?_ ?_
 ·simp[lk]
 ·simp[lk,aB,hil];exact⟨by rw[← hLn];omega,by rw[show List.take r.rq.length (r.rq.map jM)=r.rq.map jM from ajr (by simp)];exact hDl⟩
 simp[lk]
end Go.Proofs
