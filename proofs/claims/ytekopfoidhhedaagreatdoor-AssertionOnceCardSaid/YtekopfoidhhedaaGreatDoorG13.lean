import Derived.Test.YtekopfoidhhedaaGreatDoorG12
import Derived.Test.YtekopfoidhhedaaGreatDoorG04
set_option linter.unusedVariables false
set_option linter.unusedSimpArgs false
set_option linter.unnecessarySimpa false
set_option maxRecDepth 20000
namespace Go.Proofs
open Go Go.Id
theorem sk5:Xb 5=5:=by decide
theorem ah4 {f u t:Int}(h0:0≤t)(h1:t≤1099511627776)(hfu:f≤u):f_ f u t 5=if t+5<f then 14 else if t - 5≥u then 13 else 0:=by
 unfold f_
 rw[o_ h0 h1,sk5,if_neg (by simp;omega)]
 simp only[decide_eq_true_eq]
theorem ah5 {t s:Int}(h0:0≤t)(h1:t<80)(hs:0≤s∧s≤600):kV [kX] [107,49] t s=(kX,0):=by
 have hk:Xb s=s:=by unfold Xb;repeat' split <;> omega
 have hc:f_ kX.af kX.au t s=0:=by
  show f_ 0 80 t s=0
  unfold f_
  rw[o_ h0 (by omega),hk,if_neg (by decide),if_neg (by simp;omega),if_neg (by simp;omega)]
 rw[N7,if_pos (by decide),hc]
 rfl
theorem agk:qE [kX] 1=kX:=by kernel_rfl
def A1 (a:As):As:={ a with iP:=kQ,jI:=H7 }
def R5:Rc:=⟨H7,5,[],0,[],0⟩
def R6 (a:As):Rc:=⟨H7,5,[(a.req,(kQ,2000),0)],1,[],0⟩
def R7 (a:As):Rc:=⟨H7,5,[],1,[(a.id,iQ a.fG 5,0)],1⟩
def R8 (a:As)(q:List UInt8):Rc:=⟨H7,5,[(q,(kQ,2000),1)],2,[(a.id,iQ a.fG 5,0)],1⟩
theorem aj_:R5.ok:=⟨GL.nil _,GL.nil _,by decide,by decide,by decide⟩
theorem adb (a:As):(R6 a).ok:=⟨⟨by simp[R6],by simp[R6],by simp[R6]⟩,GL.nil _,by simp[R6],by simp[R6],by simp[R6]⟩
theorem agl (a:As):(R7 a).ok:=⟨GL.nil _,⟨by simp[R7],by simp[R7],by simp[R7]⟩,by simp[R7],by simp[R7],by simp[R7]⟩
theorem aj' (a:As)(q:List UInt8):(R8 a q).ok:=⟨⟨by simp[R8],by simp[R8],by simp[R8]⟩,⟨by simp[R8],by simp[R8],by simp[R8]⟩,by simp[R8],by simp[R8],by simp[R8]⟩
theorem akb:newE H7 5=0:=by decide +kernel
theorem ah6:R5=⟨H7,iQ 5 0,[],0,[],0⟩:=by
 have:iQ 5 0=5:=by decide
 rw[this];rfl
theorem akc {id:List UInt8}(h:aX id=true):qB R5 id kQ 2000 0=(0,⟨H7,5,[(id,(kQ,2000),0)],1,[],0⟩):=by
 rw[Um h (by decide) (by decide) (by show (fQ [] 0).contains id=false;rw[kD];rfl) (by show decide (((fQ [] 0).length:Int)≥256)=false;rw[kD];rfl)]
 rfl
theorem ah7 {a:As}{id:List UInt8}(h:aX id=true):qB (R7 a) id kQ 2000 0=(0,R8 a id):=by
 rw[Um h (by decide) (by decide) (by show (fQ [] 0).contains id=false;rw[kD];rfl) (by show decide (((fQ [] 0).length:Int)≥256)=false;rw[kD];rfl)]
 rfl
def QG (a:As)(t:Int):Bool:=decide (t+5≥a.jd) && decide (t - 5<a.fG)
theorem t_ {l:List Key}{a:As}{now:Int}{s:List UInt8}(h:kP l a now=(s,0)):bC a=0:=by
 obtain⟨t,h1,_⟩:=XV h
 exact (o9 h1).1
theorem QH {a:As}(hc:bC a=0){t:Int}(h0:0≤t)(h1:t≤1099511627776):(f_ a.jd a.fG t 5=0)=(QG a t=true):=by
 obtain⟨_,⟨q6,q7,q8⟩,_,_⟩:=fO hc
 rw[ah4 h0 h1 (by omega)]
 unfold QG
 simp only[Bool.and_eq_true,decide_eq_true_eq,eq_iff_iff]
 split
 ·constructor
  ·intro h;cases h
  ·intro h;omega
 split
 ·constructor
  ·intro h;cases h
  ·intro h;omega
 ·exact⟨fun _=>by omega,fun _=>rfl⟩
theorem X_ {r:Rc}{a:As}{s:List UInt8}{t:Int}(hs:kP [kX] a 1=(s,0))(hi:a.iP=kQ)(ha:a.jI=H7)(hself:r.self=H7)(hsk:r.skew=5)(h0:0≤t)(h1:t<80):
  lV QE r s t=if (f_ a.jd a.fG t 5 != 0)=true then (bD,f_ a.jd a.fG t 5,r) else Wq r (nrm a) t:=by
 have hd:=Ut hs
 rw[agk] at hd
 have hf:gY QE (nrm a).iP=some PI:=by show gY QE a.iP=_;rw[hi];rfl
 have hc:(f_ PI.f PI.u t 0 != 0)=false:=by
  show (f_ 0 100 t 0 != 0)=false
  have:f_ 0 100 t 0=0:=by
   have hk:Xb 0=0:=by decide
   unfold f_
   rw[o_ h0 (by omega),hk,if_neg (by decide),if_neg (by simp;omega),if_neg (by simp;omega)]
  rw[this];rfl
 rw[XU hd hf hc,hself,hsk]
 have hac:kV PI.keys kX.id t 5=(kX,0):=ah5 h0 h1 (by decide)
 rw[hac,if_neg (by decide),if_neg (by simp),if_neg (by show ¬(a.jI == H7)=false;rw[ha];decide)]
 rfl
theorem ZJ {a:As}{s:List UInt8}{t:Int}(hs:kP [kX] (A1 a) 1=(s,0))(h0:0≤t)(h1:t<80)(hv:QG (A1 a) t=true):lV QE (R6 a) s t=(nrm (A1 a),0,R7 a):=by
 have hc:=t_ hs
 obtain⟨⟨w1,_⟩,⟨q6,q7,q8⟩,_,_⟩:=fO hc
 have hz:f_ (A1 a).jd (A1 a).fG t 5=0:=by rw[QH hc h0 (by omega)];exact hv
 rw[X_ hs rfl rfl rfl rfl h0 h1,hz,if_neg (by decide),KT (q:=(kQ,2000)) (by show ny [(a.req,(kQ,(2000:Int)),0)] a.req=_;simp[ny])]
 rw[o_ h0 (by omega),if_neg (by simp;omega),if_neg (by show ¬(kQ == kQ)=false;decide)]
 have hu1:aZ t<aZ (iQ a.fG 5):=by
  have hv':t - 5<a.fG:=by
   have:=hv;unfold QG at this;simp only[Bool.and_eq_true,decide_eq_true_eq] at this;exact this.2
  have h8:a.fG≤1099511627776:=q8
  have h7:0≤a.fG:=by have:(A1 a).fG=a.fG:=rfl;omega
  unfold iQ
  rw[yE,o_ h0 (by omega),o_ h7 h8,show aZ 5=5 from rfl]
  unfold aZ;repeat' split <;> omega
 have hu:l7 (R6 a).us (R6 a).uc (nrm (A1 a)).id (iQ (nrm (A1 a)).fG (R6 a).skew) t=(0,[(a.id,iQ a.fG 5,0)],1):=by
  show l7 ([]:US) 0 a.id (iQ a.fG 5) t=_
  rw[Wi (show aX a.id=true from w1) (decide_eq_false (by omega)) rfl]
  show (0,D_ ([]:US) 0 a.id (aZ (iQ a.fG 5)),tY ([]:US) 0 a.id)=_
  unfold iQ;rw[yE];rfl
 rw[hu,if_neg (by simp)]
 show (nrm (A1 a),(0:Int),(⟨H7,5,KP [(a.req,(kQ,(2000:Int)),0)] a.req,1,[(a.id,iQ a.fG 5,0)],1⟩:Rc))=_
 simp[KP,R7]
theorem OV {a:As}{s:List UInt8}{t:Int}(hs:kP [kX] (A1 a) 1=(s,0))(h0:0≤t)(h1:t<80)(hv:QG (A1 a) t=false):lV QE (R6 a) s t=(bD,f_ a.jd a.fG t 5,R6 a)∧(f_ a.jd a.fG t 5 == 0)=false:=by
 have hc:=t_ hs
 have hz:¬f_ (A1 a).jd (A1 a).fG t 5=0:=by rw[QH hc h0 (by omega),hv];decide
 have hz':¬f_ a.jd a.fG t 5=0:=hz
 refine⟨?_,by simpa using hz'⟩
 rw[X_ hs rfl rfl rfl rfl h0 h1,if_pos (by simpa using hz)]
 rfl
def LY (a:As)(q:List UInt8)(lv:Int):As:={ nrm (A1 a) with req:=q,lvl:=lv }
theorem afx {a:As}{q:List UInt8}{lv:Int}{s:List UInt8}{t:Int}(hs:kP [kX] (LY a q lv) 1=(s,0))(h0:0≤t)(h1:t≤1000)(hc1:bC (A1 a)=0):((lV QE (R8 a q) s t).2.1 != 0)=true:=by
 have hc:=t_ hs
 obtain⟨⟨w1,_⟩,⟨q6,q7,q8⟩,_,_⟩:=fO hc
 have hd:=Ut hs
 rw[agk] at hd
 have hf:gY QE (nrm (LY a q lv)).iP=some PI:=rfl
 rcases hpc:(f_ PI.f PI.u t 0 != 0) with _ | _
 rotate_left
 ·rw[agf hd hf hpc];exact hpc
 rw[XU hd hf hpc]
 split
 ·rename_i h;exact h
 split
 ·rfl
 split
 ·rfl
 split
 ·rename_i h;exact h
 rename_i g1 g2 g3 g4
 have hval:f_ (LY a q lv).jd (LY a q lv).fG t 5=0:=by
  have g5:¬(f_ (LY a q lv).jd (LY a q lv).fG t 5 != 0)=true:=g4
  simpa using g5
 rw[QH hc h0 (by omega)] at hval
 have hv':t - 5<a.fG:=by
  unfold QG at hval;simp only[Bool.and_eq_true,decide_eq_true_eq] at hval;exact hval.2
 rw[KT (q:=(kQ,2000)) (by show ny [(q,(kQ,(2000:Int)),1)] q=_;simp[ny])]
 split
 ·rfl
 split
 ·rfl
 have h8:a.fG≤1099511627776:=q8
 have h7:0≤a.fG:=by
  have h6:(0:Int)≤(LY a q lv).jd:=q6
  have h9:(LY a q lv).jd<(LY a q lv).fG:=q7
  have:(LY a q lv).fG=a.fG:=rfl
  omega
 have hu1:aZ t<iQ a.fG 5:=by
  unfold iQ
  rw[o_ h0 (by omega),o_ h7 h8,show aZ 5=5 from rfl]
  unfold aZ;repeat' split <;> omega
 have hlim:aZ (iQ a.fG 5)=iQ a.fG 5:=by unfold iQ;rw[yE]
 have hu:l7 (R8 a q).us (R8 a q).uc (nrm (LY a q lv)).id (iQ (nrm (LY a q lv)).fG (R8 a q).skew) t=(18,(R8 a q).us,(R8 a q).uc):=by
  refine Wh (old:=iQ a.fG 5) w1 ?_ ?_ (decide_eq_true (by omega))
  ·show decide (aZ (iQ a.fG 5)≤aZ t)=false
   rw[hlim];exact decide_eq_false (by omega)
  ·show ny [(a.id,iQ a.fG 5,0)] a.id=_
   simp[ny]
 rw[hu,if_pos (by rfl)]
 rfl
theorem afy (a:As)(t:Int):rH (R7 a).rq t= .slice 1 true [] none:=by
 unfold rH
 show D.slice 1 (fQ [] t).isEmpty ((fQ [] t).map fun x=>[.str x]) none=_
 rw[kD];rfl
set_option maxRecDepth 10000
set_option maxHeartbeats 8000000
theorem ade:aG Pr 24 [] [] (.ref 1 0) [(0,.map (yh QE) 2),(1,.box 138 [.map 0])]:=by
 refine aG.of_wp Tryz.func24 rfl (by kernel_rfl) Tryz.ntmps24 (by simp) ?_
 simp only[ay,List.map_nil]
 refine WP.S [0,1,16] fun _ z=>?_;simp +decide only[TF,↓reduceIte];apply z;clear z
 refine WP.S [0,1,16] fun _ z=>?_
 simp +decide only[TF,↓reduceIte]
 refine aj.I (afV) rfl rfl ?_
 simp +decide only[TF,↓reduceIte]
 apply z;clear z
 apply WP.seq
 refine WP.S [0,1,16] fun _ z=>?_
 simp +decide only[TF,↓reduceIte]
 refine aj.pure (z_ kQ [115] (by decide)) rfl rfl (by simp[As.cs]) ?_
 simp +decide only[TF,↓reduceIte]
 refine aj.I (JU [] 0 acR PI XY 0) rfl rfl ?_
 simp +decide only[TF,OO,↓reduceIte]
 refine aj.pure (z_ ah2 [111] (by decide)) rfl rfl (by simp[As.cs]) ?_
 simp +decide only[TF,↓reduceIte]
 refine aj.I (JU ML 1 OM PO agj 0) rfl rfl ?_
 simp +decide only[TF,aft,↓reduceIte]
 apply z;clear z
 iterate 3 first|(refine WP.S [0,1,16] fun _ z=>?_;simp +decide only[TF,↓reduceIte];apply z;clear z)|(apply WP.skip;show WP ..)|refine WP.cF ?_
 apply WP.ret
 refine Ends.imp (.inr rfl) rfl (Le.of_eq (by simp +decide only[St.get,W,↓reduceIte])) ?_ ?_ ?_
 ·simp[lk]
 ·simp[lk,aA]
 simp[lk]
theorem ZK:aG Pr 24 [] [] (.ref 11 0) [(10,.map (yh QE) 2),(11,.box 138 [.map 10])]:=by
 have:=aG.rename (f:=yR) (g:=WC) UC ade
 simpa [kG,oP,dh,jL,ac7,yR] using this
set_option maxRecDepth 20000
theorem akd {a:As}(h:a.ok):(A1 a).ok:=⟨⟨h.1.1,by show kQ.length≤_;decide,by show H7.length≤_;decide,h.1.2.2.2.1,h.1.2.2.2.2⟩,h.2.1,h.2.2.1,h.2.2.2.1,h.2.2.2.2⟩
theorem ake {t l:Int}{q:List UInt8}(h1:decide (t<0)=false)(h2:decide (t≥80)=false)(h3:decide (l<t)=false)(h4:decide (l>1000)=false)(h5:decide ((q.length:Int)>100)=false):0≤t∧t<80∧t≤l∧l≤1000∧q.length≤100:=by
 have:=of_decide_eq_false h1;have:=of_decide_eq_false h2;have:=of_decide_eq_false h3;have:=of_decide_eq_false h4;have:=of_decide_eq_false h5
 exact⟨by omega,by omega,by omega,by omega,by omega⟩
theorem H_ (a:As)(now:Int):(kP [kX] a now).1.length≤1099511627776:=by
 unfold kP
 split
 ·simp
 split
 ·simp
 ·have h1:=CP a
  have h2:(fJ [kX] (dw a).1 now).1.length≤1000:=by
   unfold fJ
   split
   ·simp
   ·rename_i h
    obtain⟨_,h3,_⟩:=JO (l:=[kX]) (now:=now) (by simpa using h)
    have h4:qE [kX] now=kX:=by simpa using h3
    rw[h4]
    have:=sW kX.sec (dw a).1
    simp[mY,this]
    decide
  simp only[List.length_append,List.length_cons,List.length_nil]
  omega
theorem ZL (a:As)(t:Int):(QG (A1 a) t=false∧decide (t+5≥a.jd)=false)∨(QG (A1 a) t=false∧decide (t+5≥a.jd)=true∧decide (t - 5<a.fG)=false)∨(QG (A1 a) t=true∧decide (t+5≥a.jd)=true∧decide (t - 5<a.fG)=true):=by
 show ((decide (t+5≥a.jd) && decide (t - 5<a.fG))=false∧_)∨((decide (t+5≥a.jd) && decide (t - 5<a.fG))=false∧_)∨((decide (t+5≥a.jd) && decide (t - 5<a.fG))=true∧_)
 cases decide (t+5≥a.jd) <;> cases decide (t - 5<a.fG) <;> simp
theorem add5 {t:Int}(h:0≤t∧t<80):IntKind.wrap .i64 (t+5)=t+5:=wrap_i64 (by omega) (by omega)
theorem alV {t:Int}(h:0≤t∧t<80):IntKind.wrap .i64 (t - 5)=t - 5:=wrap_i64 (by omega) (by omega)
theorem z0n:(((0:Nat):Int) != 0)=false:=by decide
theorem ah8 {a:As}(hc:bC (A1 a)=0){q:List UInt8}(hq:q.length≤100)(n:Int):(LY a q (n.tmod 4)).ok:=by
 have h:=QD hc
 have h4:=Int.tmod_lt_of_pos n (b:=4) (by decide)
 have h5:=Int.lt_tmod_of_pos n (b:=4) (by decide)
 exact⟨⟨h.1.1,h.1.2.1,h.1.2.2.1,h.1.2.2.2.1,by show q.length≤_;omega⟩,⟨h.2.1.1,h.2.1.2.1,by show -9223372036854775808≤n.tmod 4;omega,by show n.tmod 4≤_;omega⟩,h.2.2.1,h.2.2.2.1,h.2.2.2.2⟩
end Go.Proofs
