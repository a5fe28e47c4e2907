import Derived.Test.YtekopfoidhhedaaGreatDoorG13
import Derived.Test.YtekopfoidhhedaaGreatDoorG34
import Derived.Test.YtekopfoidhhedaaGreatDoorG32
import Derived.Test.YtekopfoidhhedaaGreatDoorG12
import Derived.Test.YtekopfoidhhedaaGreatDoorG10
set_option linter.unusedVariables false
set_option linter.unusedSimpArgs false
set_option linter.unnecessarySimpa false
set_option maxRecDepth 10000
namespace Go.Proofs
open Go Go.Id
set_option maxHeartbeats 8000000
theorem ac4 (ms:TS)(hms:TS.ok ms)(hln:ms.length≤1000)(hk:ou ms)(r:Rc)(hr:r.ok)(nl nu:Bool)(hnl:nl=true→r.rq=[])(hnu:nu=true→r.us=[])(hn:r.rq.length≤1000)(hun:r.us.length≤200)(o:lJ)(ho:o.ok)(h:(bV ms r o).2.1≠0):aF Pr 29 [.ref 1 0,.ref 6 0,.agg [.int .i64 o.call,.int .i64 o.fD,.int .i64 o.now,.str o.id,.str o.part,.str o.a.id,.str o.a.iw,.str o.a.jV,.str o.a.sub,.str o.a.req,.int .i64 o.a.kK,.int .i64 o.a.fD,.int .i64 o.a.lvl,.slice 2 o.a.nl (o.a.ats.map At.cs) none,.str o.sec,.str o.s]] [(0,.aI 126 3 r.rq.length),(1,.box 114 [.bool true,.str r.self,.int .i64 r.skew,.slice 3 nl (r.rq.map jM) (some 0),.ref 3 0]),(2,.aI 213 2 r.us.length),(3,.box 174 [.int .i64 256,.slice 2 nu (r.us.map n_) (some 2)]),(5,.aI 55 5 ms.length),(6,.box 117 [.slice 5 false (og ms) (some 5)])] (.aQ [.agg (bV ms r o).1.cs,.int .i64 (bV ms r o).2.1]) [(0,.aI 126 3 r.rq.length),(1,.box 114 [.bool true,.str r.self,.int .i64 r.skew,.slice 3 nl (r.rq.map jM) (some 0),.ref 3 0]),(2,.aI 213 2 r.us.length),(3,.box 174 [.int .i64 256,.slice 2 nu (r.us.map n_) (some 2)]),(5,.aI 55 5 ms.length),(6,.box 117 [.slice 5 false (og ms) (some 5)])]:=by
 refine qX Tryz.func29 Tryz.ntmps29 ?_
 refine aG 3 [0,1,5,6,7,10] ?_
 refine WP.cond rfl (fun q1=>?_) (fun q1=>?_)
 ·have hR:=RZ (ms:=ms) (r:=r) q1
  have hq:(lI r o.id o.part o.fD o.now).1≠0:=by rw[hR] at h;exact h
  refine jd 1 [0,1,5,6,7,10] (Oz r hr nl nu hnl hnu hn o.id o.part o.fD o.now (by have:=ho.id;omega) (by have:=ho.part;omega) hq) q1 ?_
  apply WP.ret
  exact OD hR
 have hR:=R_ (ms:=ms) (r:=r) q1
 have hq:(fM ms r (xJ o) o.now).2.1≠0:=by rw[hR] at h;exact h
 refine aG 1 [] ?_
 refine WP.D [0,1,5,6,7,10] fun _ z=>?_
 simp +decide only[TF,q1,St.lay,dl,↓reduceIte]
 refine aj.pure (EL o ho) rfl rfl (by simp[fV]) ?_
 simp +decide only[TF,St.lay,dl,↓reduceIte]
 refine aj.imp (Pz ms hms hln hk r hr nl nu hnl hnu hn (by omega) (xJ o) (EK ho) o.now hq) rfl rfl (by simp[lk,aB]) (by simp[lk]) (by simp[lk]) ?_
 simp +decide only[TF,As.cs,St.lay,dl,↓reduceIte]
 refine z _ _ (by kernel_rfl) ?_;clear z
 apply WP.ret
 refine Ends.imp (d:= .aQ [_,_]) (.inr rfl) rfl (by rw[hR];exact Le.of_eq (by simp +decide only[As.cs,St.get,W,ak,fA,↓reduceIte])) ?_ ?_ ?_
 ·simp[lk]
 ·simp[lk,aB]
 simp[lk]
theorem ac5 (ms:TS)(hms:TS.ok ms)(hln:ms.length≤1000)(hk:ou ms)(r:Rc)(hr:r.ok)(nl nu:Bool)(hnl:nl=true→r.rq=[])(hnu:nu=true→r.us=[])(hn:r.rq.length≤1000)(hun:r.us.length≤200)(o:lJ)(ho:o.ok)(h:(bV ms r o).2.1=0)(h0:(o.call == 0)=true):aF Pr 29 [.ref 1 0,.ref 6 0,.agg [.int .i64 o.call,.int .i64 o.fD,.int .i64 o.now,.str o.id,.str o.part,.str o.a.id,.str o.a.iw,.str o.a.jV,.str o.a.sub,.str o.a.req,.int .i64 o.a.kK,.int .i64 o.a.fD,.int .i64 o.a.lvl,.slice 2 o.a.nl (o.a.ats.map At.cs) none,.str o.sec,.str o.s]] [(0,.aI 126 3 r.rq.length),(1,.box 114 [.bool true,.str r.self,.int .i64 r.skew,.slice 3 nl (r.rq.map jM) (some 0),.ref 3 0]),(2,.aI 213 2 r.us.length),(3,.box 174 [.int .i64 256,.slice 2 nu (r.us.map n_) (some 2)]),(5,.aI 55 5 ms.length),(6,.box 117 [.slice 5 false (og ms) (some 5)])] (.aQ [.agg (bV ms r o).1.cs,.int .i64 0]) [(0,.aI 126 3 r.rq.length),(4,.aI 126 3 (bV ms r o).2.2.rq.length),(1,.box 114 [.bool true,.str r.self,.int .i64 r.skew,.slice 3 false ((bV ms r o).2.2.rq.map jM) (some 4),.ref 3 0]),(2,.aI 213 2 r.us.length),(3,.box 174 [.int .i64 256,.slice 2 nu (r.us.map n_) (some 2)]),(5,.aI 55 5 ms.length),(6,.box 117 [.slice 5 false (og ms) (some 5)])]:=by
 have hR:=RZ (ms:=ms) (r:=r) h0
 have hq:(lI r o.id o.part o.fD o.now).1=0:=by rw[hR] at h;exact h
 refine qX Tryz.func29 Tryz.ntmps29 ?_
 refine jd 5 [0,1,5,6,7,10] (OA r hr nl nu hnl hnu hn o.id o.part o.fD o.now (by have:=ho.id;omega) (by have:=ho.part;omega) hq) h0 ?_
 apply WP.ret
 exact OD hR
theorem ac6 (ms:TS)(hms:TS.ok ms)(hln:ms.length≤1000)(hk:ou ms)(r:Rc)(hr:r.ok)(nl nu:Bool)(hnl:nl=true→r.rq=[])(hnu:nu=true→r.us=[])(hn:r.rq.length≤1000)(hun:r.us.length≤200)(o:lJ)(ho:o.ok)(h:(bV ms r o).2.1=0)(h0:(o.call == 0)=false)(hu:gZ r.us (bV ms r o).1.id=none):aF Pr 29 [.ref 1 0,.ref 6 0,.agg [.int .i64 o.call,.int .i64 o.fD,.int .i64 o.now,.str o.id,.str o.part,.str o.a.id,.str o.a.iw,.str o.a.jV,.str o.a.sub,.str o.a.req,.int .i64 o.a.kK,.int .i64 o.a.fD,.int .i64 o.a.lvl,.slice 2 o.a.nl (o.a.ats.map At.cs) none,.str o.sec,.str o.s]] [(0,.aI 126 3 r.rq.length),(1,.box 114 [.bool true,.str r.self,.int .i64 r.skew,.slice 3 nl (r.rq.map jM) (some 0),.ref 3 0]),(2,.aI 213 2 r.us.length),(3,.box 174 [.int .i64 256,.slice 2 nu (r.us.map n_) (some 2)]),(5,.aI 55 5 ms.length),(6,.box 117 [.slice 5 false (og ms) (some 5)])] (.aQ [.agg (bV ms r o).1.cs,.int .i64 0]) [(0,.aI 126 3 r.rq.length),(12,.aI 126 3 (bV ms r o).2.2.rq.length),(1,.box 114 [.bool true,.str r.self,.int .i64 r.skew,.slice 3 false ((bV ms r o).2.2.rq.map jM) (some 12),.ref 3 0]),(2,.aI 213 2 (bV ms r o).2.2.us.length),(3,.box 174 [.int .i64 256,.slice 2 false ((bV ms r o).2.2.us.map n_) (some 2)]),(5,.aI 55 5 ms.length),(6,.box 117 [.slice 5 false (og ms) (some 5)])]:=by
 have hR:=R_ (ms:=ms) (r:=r) h0
 have hq:(fM ms r (xJ o) o.now).2.1=0:=by rw[hR] at h;exact h
 have hv:gZ r.us (fM ms r (xJ o) o.now).1.id=none:=by rw[hR] at hu;exact hu
 refine qX Tryz.func29 Tryz.ntmps29 ?_
 refine aJ 5 [0,1,5,6,7,10] h0 ?_
 refine WP.D [0,1,5,6,7,10] fun _ z=>?_
 simp +decide only[TF,St.lay,dl,↓reduceIte]
 refine aj.pure (EL o ho) rfl rfl (by simp[fV]) ?_
 simp +decide only[TF,St.lay,dl,↓reduceIte]
 refine aj.imp (PD ms hms hln hk r hr nl nu hnl hnu hn hun (xJ o) (EK ho) o.now hq hv) rfl rfl (by simp[lk,aB]) (by simp[lk]) (by simp[lk]) ?_
 simp +decide only[TF,As.cs,St.lay,dl,↓reduceIte]
 refine z _ _ (by kernel_rfl) ?_;clear z
 apply WP.ret
 refine Ends.imp (d:= .aQ [_,_]) (.inr rfl) rfl (by rw[hR];exact Le.of_eq (by simp +decide only[As.cs,St.get,W,ak,fA,↓reduceIte])) ?_ ?_ ?_
 ·simp[lk]
 ·simp[lk,aB,hR]
 simp[lk]
theorem ac7 (ms:TS)(hms:TS.ok ms)(hln:ms.length≤1000)(hk:ou ms)(r:Rc)(hr:r.ok)(nl:Bool)(hnl:nl=true→r.rq=[])(hn:r.rq.length≤1000)(hun:r.us.length≤200)(o:lJ)(ho:o.ok)(h:(bV ms r o).2.1=0)(h0:(o.call == 0)=false)(hu:gZ r.us (bV ms r o).1.id≠none):aF Pr 29 [.ref 1 0,.ref 6 0,.agg [.int .i64 o.call,.int .i64 o.fD,.int .i64 o.now,.str o.id,.str o.part,.str o.a.id,.str o.a.iw,.str o.a.jV,.str o.a.sub,.str o.a.req,.int .i64 o.a.kK,.int .i64 o.a.fD,.int .i64 o.a.lvl,.slice 2 o.a.nl (o.a.ats.map At.cs) none,.str o.sec,.str o.s]] [(0,.aI 126 3 r.rq.length),(1,.box 114 [.bool true,.str r.self,.int .i64 r.skew,.slice 3 nl (r.rq.map jM) (some 0),.ref 3 0]),(2,.arr 213 (wz r.us)),(3,.box 174 [.int .i64 256,.arr 2 2 r.us.length]),(5,.aI 55 5 ms.length),(6,.box 117 [.slice 5 false (og ms) (some 5)])] (.aQ [.agg (bV ms r o).1.cs,.int .i64 0]) [(0,.aI 126 3 r.rq.length),(12,.aI 126 3 (bV ms r o).2.2.rq.length),(1,.box 114 [.bool true,.str r.self,.int .i64 r.skew,.slice 3 false ((bV ms r o).2.2.rq.map jM) (some 12),.ref 3 0]),(2,.arr 213 (wz (bV ms r o).2.2.us)),(3,.box 174 [.int .i64 256,.arr 2 2 (bV ms r o).2.2.us.length]),(5,.aI 55 5 ms.length),(6,.box 117 [.slice 5 false (og ms) (some 5)])]:=by
 have hR:=R_ (ms:=ms) (r:=r) h0
 have hq:(fM ms r (xJ o) o.now).2.1=0:=by rw[hR] at h;exact h
 have hv:gZ r.us (fM ms r (xJ o) o.now).1.id≠none:=by rw[hR] at hu;exact hu
 refine qX Tryz.func29 Tryz.ntmps29 ?_
 refine aJ 5 [0,1,5,6,7,10] h0 ?_
 refine WP.D [0,1,5,6,7,10] fun _ z=>?_
 simp +decide only[TF,St.lay,dl,↓reduceIte]
 refine aj.pure (EL o ho) rfl rfl (by simp[fV]) ?_
 simp +decide only[TF,St.lay,dl,↓reduceIte]
 refine aj.imp (PE ms hms hln hk r hr nl hnl hn hun (xJ o) (EK ho) o.now hq hv) rfl rfl (by simp[lk,aB]) (by simp[lk]) (by simp[lk]) ?_
 simp +decide only[TF,As.cs,St.lay,dl,↓reduceIte]
 refine z _ _ (by kernel_rfl) ?_;clear z
 apply WP.ret
 refine Ends.imp (d:= .aQ [_,_]) (.inr rfl) rfl (by rw[hR];exact Le.of_eq (by simp +decide only[As.cs,St.get,W,ak,fA,↓reduceIte])) ?_ ?_ ?_
 ·simp[lk]
 ·simp[lk,aB,hR]
 simp[lk]
set_option maxRecDepth 20000
theorem uD (f:Nat→Nat)(l:RQ):oz f (l.map jM)=l.map jM:=by
 rw[kN]
 refine (ajb fun x hx=>?_).trans (amE _)
 obtain⟨a,_,rfl⟩:=List.mem_map.1 hx
 simp[jM,iG,bK]
theorem uF (f:Nat→Nat)(l:US):oz f (l.map n_)=l.map n_:=by
 rw[kN]
 refine (ajb fun x hx=>?_).trans (amE _)
 obtain⟨a,_,rfl⟩:=List.mem_map.1 hx
 simp[n_,iG,bK]
theorem xA (f:Nat→Nat):oz f []=[]:=rfl
theorem Az (f:Nat→Nat)(us:US):iG f (wz us)=wz us:=adK f (fun d hd=>(ajm us).2 trivial d hd)
theorem Xz (ms:TS)(hms:TS.ok ms)(hln:ms.length≤1000)(hk:ou ms)(r:Rc)(hr:r.ok)(nl nu:Bool)(hnl:nl=true→r.rq=[])(hnu:nu=true→r.us=[])(hn:r.rq.length≤1000)(hun:r.us.length≤200)(o:lJ)(ho:o.ok)(h:(bV ms r o).2.1≠0):aF Pr 29 [.ref 11 0,.ref 16 0,.agg [.int .i64 o.call,.int .i64 o.fD,.int .i64 o.now,.str o.id,.str o.part,.str o.a.id,.str o.a.iw,.str o.a.jV,.str o.a.sub,.str o.a.req,.int .i64 o.a.kK,.int .i64 o.a.fD,.int .i64 o.a.lvl,.slice 2 o.a.nl (o.a.ats.map At.cs) none,.str o.sec,.str o.s]] [(10,.aI 126 3 r.rq.length),(11,.box 114 [.bool true,.str r.self,.int .i64 r.skew,.slice 3 nl (r.rq.map jM) (some 10),.ref 13 0]),(12,.aI 213 2 r.us.length),(13,.box 174 [.int .i64 256,.slice 2 nu (r.us.map n_) (some 12)]),(15,.aI 55 5 ms.length),(16,.box 117 [.slice 5 false (og ms) (some 15)])] (.aQ [.agg (bV ms r o).1.cs,.int .i64 (bV ms r o).2.1]) [(10,.aI 126 3 r.rq.length),(11,.box 114 [.bool true,.str r.self,.int .i64 r.skew,.slice 3 nl (r.rq.map jM) (some 10),.ref 13 0]),(12,.aI 213 2 r.us.length),(13,.box 174 [.int .i64 256,.slice 2 nu (r.us.map n_) (some 12)]),(15,.aI 55 5 ms.length),(16,.box 117 [.slice 5 false (og ms) (some 15)])]:=by
 have:=aF.rename (f:=JR) (g:=Zl) Xl (ac4 ms hms hln hk r hr nl nu hnl hnu hn hun o ho h)
 simpa [kC,lU,bK,iG,uD,uF,Az,pz,xq,EJ,Au,zB,xA,JR] using this
theorem XA (ms:TS)(hms:TS.ok ms)(hln:ms.length≤1000)(hk:ou ms)(r:Rc)(hr:r.ok)(nl nu:Bool)(hnl:nl=true→r.rq=[])(hnu:nu=true→r.us=[])(hn:r.rq.length≤1000)(hun:r.us.length≤200)(o:lJ)(ho:o.ok)(h:(bV ms r o).2.1=0)(h0:(o.call == 0)=true):aF Pr 29 [.ref 11 0,.ref 16 0,.agg [.int .i64 o.call,.int .i64 o.fD,.int .i64 o.now,.str o.id,.str o.part,.str o.a.id,.str o.a.iw,.str o.a.jV,.str o.a.sub,.str o.a.req,.int .i64 o.a.kK,.int .i64 o.a.fD,.int .i64 o.a.lvl,.slice 2 o.a.nl (o.a.ats.map At.cs) none,.str o.sec,.str o.s]] [(10,.aI 126 3 r.rq.length),(11,.box 114 [.bool true,.str r.self,.int .i64 r.skew,.slice 3 nl (r.rq.map jM) (some 10),.ref 13 0]),(12,.aI 213 2 r.us.length),(13,.box 174 [.int .i64 256,.slice 2 nu (r.us.map n_) (some 12)]),(15,.aI 55 5 ms.length),(16,.box 117 [.slice 5 false (og ms) (some 15)])] (.aQ [.agg (bV ms r o).1.cs,.int .i64 0]) [(10,.aI 126 3 r.rq.length),(14,.aI 126 3 (bV ms r o).2.2.rq.length),(11,.box 114 [.bool true,.str r.self,.int .i64 r.skew,.slice 3 false ((bV ms r o).2.2.rq.map jM) (some 14),.ref 13 0]),(12,.aI 213 2 r.us.length),(13,.box 174 [.int .i64 256,.slice 2 nu (r.us.map n_) (some 12)]),(15,.aI 55 5 ms.length),(16,.box 117 [.slice 5 false (og ms) (some 15)])]:=by
 have:=aF.rename (f:=JR) (g:=Zl) Xl (ac5 ms hms hln hk r hr nl nu hnl hnu hn hun o ho h h0)
 simpa [kC,lU,bK,iG,uD,uF,Az,pz,xq,EJ,Au,zB,xA,JR] using this
theorem XB (ms:TS)(hms:TS.ok ms)(hln:ms.length≤1000)(hk:ou ms)(r:Rc)(hr:r.ok)(nl nu:Bool)(hnl:nl=true→r.rq=[])(hnu:nu=true→r.us=[])(hn:r.rq.length≤1000)(hun:r.us.length≤200)(o:lJ)(ho:o.ok)(h:(bV ms r o).2.1=0)(h0:(o.call == 0)=false)(hu:gZ r.us (bV ms r o).1.id=none):aF Pr 29 [.ref 11 0,.ref 16 0,.agg [.int .i64 o.call,.int .i64 o.fD,.int .i64 o.now,.str o.id,.str o.part,.str o.a.id,.str o.a.iw,.str o.a.jV,.str o.a.sub,.str o.a.req,.int .i64 o.a.kK,.int .i64 o.a.fD,.int .i64 o.a.lvl,.slice 2 o.a.nl (o.a.ats.map At.cs) none,.str o.sec,.str o.s]] [(10,.aI 126 3 r.rq.length),(11,.box 114 [.bool true,.str r.self,.int .i64 r.skew,.slice 3 nl (r.rq.map jM) (some 10),.ref 13 0]),(12,.aI 213 2 r.us.length),(13,.box 174 [.int .i64 256,.slice 2 nu (r.us.map n_) (some 12)]),(15,.aI 55 5 ms.length),(16,.box 117 [.slice 5 false (og ms) (some 15)])] (.aQ [.agg (bV ms r o).1.cs,.int .i64 0]) [(10,.aI 126 3 r.rq.length),(22,.aI 126 3 (bV ms r o).2.2.rq.length),(11,.box 114 [.bool true,.str r.self,.int .i64 r.skew,.slice 3 false ((bV ms r o).2.2.rq.map jM) (some 22),.ref 13 0]),(12,.aI 213 2 (bV ms r o).2.2.us.length),(13,.box 174 [.int .i64 256,.slice 2 false ((bV ms r o).2.2.us.map n_) (some 12)]),(15,.aI 55 5 ms.length),(16,.box 117 [.slice 5 false (og ms) (some 15)])]:=by
 have:=aF.rename (f:=JR) (g:=Zl) Xl (ac6 ms hms hln hk r hr nl nu hnl hnu hn hun o ho h h0 hu)
 simpa [kC,lU,bK,iG,uD,uF,Az,pz,xq,EJ,Au,zB,xA,JR] using this
theorem XC (ms:TS)(hms:TS.ok ms)(hln:ms.length≤1000)(hk:ou ms)(r:Rc)(hr:r.ok)(nl:Bool)(hnl:nl=true→r.rq=[])(hn:r.rq.length≤1000)(hun:r.us.length≤200)(o:lJ)(ho:o.ok)(h:(bV ms r o).2.1=0)(h0:(o.call == 0)=false)(hu:gZ r.us (bV ms r o).1.id≠none):aF Pr 29 [.ref 11 0,.ref 16 0,.agg [.int .i64 o.call,.int .i64 o.fD,.int .i64 o.now,.str o.id,.str o.part,.str o.a.id,.str o.a.iw,.str o.a.jV,.str o.a.sub,.str o.a.req,.int .i64 o.a.kK,.int .i64 o.a.fD,.int .i64 o.a.lvl,.slice 2 o.a.nl (o.a.ats.map At.cs) none,.str o.sec,.str o.s]] [(10,.aI 126 3 r.rq.length),(11,.box 114 [.bool true,.str r.self,.int .i64 r.skew,.slice 3 nl (r.rq.map jM) (some 10),.ref 13 0]),(12,.arr 213 (wz r.us)),(13,.box 174 [.int .i64 256,.arr 12 2 r.us.length]),(15,.aI 55 5 ms.length),(16,.box 117 [.slice 5 false (og ms) (some 15)])] (.aQ [.agg (bV ms r o).1.cs,.int .i64 0]) [(10,.aI 126 3 r.rq.length),(22,.aI 126 3 (bV ms r o).2.2.rq.length),(11,.box 114 [.bool true,.str r.self,.int .i64 r.skew,.slice 3 false ((bV ms r o).2.2.rq.map jM) (some 22),.ref 13 0]),(12,.arr 213 (wz (bV ms r o).2.2.us)),(13,.box 174 [.int .i64 256,.arr 12 2 (bV ms r o).2.2.us.length]),(15,.aI 55 5 ms.length),(16,.box 117 [.slice 5 false (og ms) (some 15)])]:=by
 have:=aF.rename (f:=JR) (g:=Zl) Xl (ac7 ms hms hln hk r hr nl hnl hn hun o ho h h0 hu)
 simpa [kC,lU,bK,iG,uD,uF,Az,pz,xq,EJ,Au,zB,xA,JR] using this
theorem UH (r:Rc)(hr:r.ok)(nl nu:Bool)(hnl:nl=true→r.rq=[])(hnu:nu=true→r.us=[])(hn:r.rq.length≤1000)(now:Int):aF Pr 32 [.ref 11 0,.int .i64 now] [(10,.aI 126 3 r.rq.length),(11,.box 114 [.bool true,.str r.self,.int .i64 r.skew,.slice 3 nl (r.rq.map jM) (some 10),.ref 13 0]),(12,.aI 213 2 r.us.length),(13,.box 174 [.int .i64 256,.slice 2 nu (r.us.map n_) (some 12)])] (oD r.rq now) [(10,.aI 126 3 r.rq.length),(11,.box 114 [.bool true,.str r.self,.int .i64 r.skew,.slice 3 nl (r.rq.map jM) (some 10),.ref 13 0]),(12,.aI 213 2 r.us.length),(13,.box 174 [.int .i64 256,.slice 2 nu (r.us.map n_) (some 12)])]:=by
 have:=aF.rename (f:=JR) (g:=Zl) Xl (Zr r hr nl nu hnl hnu hn now)
 simpa [kC,lU,bK,iG,uD,uF,Az,pz,xq,EJ,Au,zB,xA,JR] using this
theorem XD:aF Pr 25 [] [] (.ref 16 0) [(16,.box 117 [.slice 0 true [] none])]:=by
 have:=aF.rename (f:=fun n=>n+16) (g:=fun n=>n - 16) (fun n=>by simp) acY
 simpa [kC,lU,bK,iG,xA] using this
theorem ES (ms:TS)(nl:Bool)(hnl:nl=true→ms=[])(hln:ms.length≤1000)(hk:ou ms)(c:Nat)(p:jO)(hp:p.ok)(t:Int):aF Pr 26 [.ref 16 0,.agg [.str p.id,.str p.addr,.slice 6 p.nk (p.keys.map Key.cs) none,.int .i64 p.f,.int .i64 p.u],.int .i64 t] [(15,.aI 55 5 ms.length),(16,.box 117 [.slice 5 nl (og ms) (some 15)])] (.int .i64 (anch ms c p t).1) [(15,.aI 55 5 (anch ms c p t).2.1.length),(16,.box 117 [.slice 5 (Xp (anch ms c p t).1 nl) (og (anch ms c p t).2.1) (some 15)])]:=by
 have:=aF.rename (f:=fun n=>n+15) (g:=fun n=>n - 15) (fun n=>by simp) (Zq ms nl hnl hln hk c p hp t)
 simpa [kC,lU,bK,iG,pz,D8] using this
theorem Zx (ms:TS)(r:Rc)(o:lJ):(bV ms r o).2.1≠0∨((bV ms r o).2.1=0∧(o.call == 0)=true)∨((bV ms r o).2.1=0∧(o.call == 0)=false∧gZ r.us (bV ms r o).1.id=none)∨((bV ms r o).2.1=0∧(o.call == 0)=false∧gZ r.us (bV ms r o).1.id≠none):=by
 by_cases h:(bV ms r o).2.1=0
 ·cases h0:(o.call == 0) with
  |true=>exact .inr (.inl ⟨h,rfl⟩)
  |false=>
   by_cases h1:gZ r.us (bV ms r o).1.id=none
   ·exact .inr (.inr (.inl ⟨h,rfl,h1⟩))
   ·exact .inr (.inr (.inr ⟨h,rfl,h1⟩))
 ·exact .inl h
theorem al1:ou ML:=by
 intro e he
 simp only[ML,ad1] at he
 subst he;rfl
theorem Ko:ou dI:=by
 intro e he
 simp only[dI,ael,akg,or_false] at he
 rcases he with rfl|rfl <;> rfl
def UJ:List Kd:=[.s,.i]
theorem agN (t:Nat)(l:List Key)(nk:Bool):xC t UJ (.slice 6 nk (l.map Key.cs) none):=by
 refine .slice (fun e he d hd=>?_) (fun e he=>?_) nofun
 ·obtain⟨k,_,rfl⟩:=List.mem_map.1 he
  simp only[Key.cs,ael,akg,or_false] at hd
  rcases hd with rfl|rfl|rfl|rfl|rfl|rfl <;> first|exact .str _|exact .int _ _
 ·have:=ac8 he
  obtain⟨k,_,rfl⟩:=List.mem_map.1 this
  have e:(Key.cs k).map kdD=[some .s,some .s,some .i,some .i,some .i,some .i]:=rfl
  rw[e];decide
theorem aa3 (t:Nat)(p:jO):∀d∈p.cs,xC t UJ d:=by
 intro d hd
 simp only[jO.cs,ael,akg,or_false] at hd
 rcases hd with rfl|rfl|rfl|rfl|rfl <;> first|exact .str _|exact .int _ _|exact agN _ _ _
theorem ajn (ms:TS):xC 12 UJ (.slice 5 false (og ms) (some 15)):=by
 refine .slice (fun e he d hd=>?_) (fun e he=>?_) (by decide)
 ·obtain⟨x,_,rfl⟩:=List.mem_map.1 he
  exact aa3 _ _ d hd
 ·have:=ac8 he
  obtain⟨x,_,rfl⟩:=List.mem_map.1 this
  have e:(jO.cs x.2.1).map kdD=[some .s,some .s,some .l,some .i,some .i]:=rfl
  rw[e];decide
theorem al2 (l:RQ)(nl:Bool):xC 12 UJ (.slice 3 nl (l.map jM) (some 10)):=by
 refine .slice (fun e he d hd=>?_) (fun e he=>?_) (by decide)
 ·obtain⟨x,_,rfl⟩:=List.mem_map.1 he
  simp only[jM,ael,akg,or_false] at hd
  rcases hd with rfl|rfl|rfl <;> first|exact .str _|exact .int _ _
 ·have:=ac8 he
  obtain⟨x,_,rfl⟩:=List.mem_map.1 this
  have e:(jM x).map kdD=[some .s,some .s,some .i]:=rfl
  rw[e];decide
theorem ajo (l:RQ):∀e∈mE lV l,xC 12 UJ e.2.1:=by
 intro e he
 obtain⟨x,_,rfl⟩:=List.mem_map.1 he
 refine .agg fun d hd=>?_
 simp only[ael,akg,or_false] at hd
 rcases hd with rfl|rfl <;> first|exact .str _|exact .int _ _
theorem ajp (l:US):∀e∈mE qE l,xC 12 UJ e.2.1:=by
 intro e he
 obtain⟨x,_,rfl⟩:=List.mem_map.1 he
 exact .int _ _
theorem ajq (ms:TS):∀e∈sQ ms,xC 12 UJ e.2.1:=by
 intro e he
 obtain⟨x,_,rfl⟩:=List.mem_map.1 he
 exact .agg (aa3 _ _)
def psO (r:Rc):List (Nat × bf):=[(0,.map (sQ dI) 2),(1,.box 138 [.map 0]),(2,.map (mE lV r.rq) r.rc),(3,.box 107 [.str r.self,.int .i64 r.skew,.map 2,.ref 4 0]),(4,.box 171 [.map 5,.int .i64 256]),(5,.map (mE qE r.us) r.uc)]
def PG (n:Nat)(r:Rc)(nl nu:Bool):List (Nat × bf):=psO r++[(n,.aI 126 3 r.rq.length),(11,.box 114 [.bool true,.str r.self,.int .i64 r.skew,.slice 3 nl (r.rq.map jM) (some n),.ref 13 0]),(12,.aI 213 2 r.us.length),(13,.box 174 [.int .i64 256,.slice 2 nu (r.us.map n_) (some 12)]),(15,.aI 55 5 dI.length),(16,.box 117 [.slice 5 false (og dI) (some 15)])]
def Zy (n:Nat)(r:Rc)(nl:Bool):List (Nat × bf):=psO r++[(n,.aI 126 3 r.rq.length),(11,.box 114 [.bool true,.str r.self,.int .i64 r.skew,.slice 3 nl (r.rq.map jM) (some n),.ref 13 0]),(12,.arr 213 (wz r.us)),(13,.box 174 [.int .i64 256,.arr 12 2 r.us.length]),(15,.aI 55 5 dI.length),(16,.box 117 [.slice 5 false (og dI) (some 15)])]
def bxO (m:Nat)(a:As):List (Nat × bf):=[(17,.box 24 a.cs),(m,.box 24 a.cs)]
theorem aa4 (b:Nat)(hb:b≠12):(b=0∨b=1∨b=2∨b=3∨b=4∨b=5∨b=10∨b=11∨b=13∨b=15∨b=16)∨b=17∨b=18∨(b≠0∧b≠1∧b≠2∧b≠3∧b≠4∧b≠5∧b≠10∧b≠11∧b≠12∧b≠13∧b≠15∧b≠16∧b≠17∧b≠18):=by omega
theorem agO {st st':St}{r:Rc}{nl:Bool}(hs:st.σ=PG 10 r nl false)(hs':st'.σ=Zy 10 r nl)(hF:∀p∈st'.F,st.get p.1=p.2∧xC 12 UJ p.2):Weak [] st st':=by
 refine Weak.ahv 12 UJ 213 2 (r.us.map n_) 13 174 _ 1 (by rw[hs];rfl) rfl (by rw[hs,ac'];rfl) (by decide) rfl (fun x hx=>?_) hF (by rw[hs'];rfl) (fun b hb=>?_)
 ·obtain⟨e,_,rfl⟩:=List.mem_map.1 hx
  refine⟨rfl,fun d hd=>?_⟩
  simp only[n_,ael,akg,or_false] at hd
  rcases hd with rfl|rfl <;> first|exact .str _|exact .int _ _
 ·rw[hs,hs']
  rcases aa4 b hb with (rfl|rfl|rfl|rfl|rfl|rfl|rfl|rfl|rfl|rfl|rfl)|rfl|rfl | ⟨_,_,_,_,_,_,_,_,_,_,_,_,_,_⟩
  ·exact .inr ⟨_,_,rfl,rfl,rfl,ajq _⟩
  ·exact .inr ⟨_,_,rfl,rfl,rfl,.inl ⟨rfl,.map (by decide)⟩,trivial⟩
  ·exact .inr ⟨_,_,rfl,rfl,rfl,ajo _⟩
  ·exact .inr ⟨_,_,rfl,rfl,rfl,.inl ⟨rfl,.str _⟩,.inl ⟨rfl,.int _ _⟩,.inl ⟨rfl,.map (by decide)⟩,.inl ⟨rfl,.ref (by decide)⟩,trivial⟩
  ·exact .inr ⟨_,_,rfl,rfl,rfl,.inl ⟨rfl,.map (by decide)⟩,.inl ⟨rfl,.int _ _⟩,trivial⟩
  ·exact .inr ⟨_,_,rfl,rfl,rfl,ajp _⟩
  ·exact .inr ⟨_,_,rfl,rfl,rfl,trivial⟩
  ·exact .inr ⟨_,_,rfl,rfl,rfl,.inl ⟨rfl,.bool _⟩,.inl ⟨rfl,.str _⟩,.inl ⟨rfl,.int _ _⟩,.inl ⟨rfl,al2 _ _⟩,.inl ⟨rfl,.ref (by decide)⟩,trivial⟩
  ·exact .inr ⟨_,_,rfl,rfl,rfl,.inl ⟨rfl,.int _ _⟩,.inr ⟨rfl,by rw[ac']⟩,trivial⟩
  ·exact .inr ⟨_,_,rfl,rfl,rfl,trivial⟩
  ·exact .inr ⟨_,_,rfl,rfl,rfl,.inl ⟨rfl,ajn _⟩,trivial⟩
  ·exact .inl ⟨rfl,rfl⟩
  ·exact .inl ⟨rfl,rfl⟩
  ·exact .inl ⟨by simp[PG,psO,lk, *],by simp[Zy,psO,lk, *]⟩
theorem ajs (l:US):∀x∈l.map n_,∀d∈x,bY (fun i=>i≠12) d:=by
 intro x hx
 obtain⟨e,_,rfl⟩:=List.mem_map.1 hx
 exact (UC e).2 trivial
theorem akh (es:List (List D))(a:As):ArL 12 2 es a.cs a.cs:=by
 unfold As.cs
 exact⟨.inl ⟨rfl,.str _⟩,.inl ⟨rfl,.str _⟩,.inl ⟨rfl,.str _⟩,.inl ⟨rfl,.str _⟩,.inl ⟨rfl,.str _⟩,.inl ⟨rfl,.int _ _⟩,.inl ⟨rfl,.int _ _⟩,.inl ⟨rfl,.int _ _⟩,.inl ⟨rfl,by simp[fV]⟩,trivial⟩
theorem agP {st st':St}{r:Rc}{nl:Bool}{a:As}(hs:st.σ=Zy 10 r nl++bxO 18 a)(hs':st'.σ=PG 10 r nl false++bxO 18 a)(hF:∀p∈st'.F,st.get p.1=p.2∧bY (fun i=>i≠12) p.2):Weak [] st st':=by
 refine Weak.ahw 12 213 2 (r.us.map n_) 13 174 _ 1 (by rw[hs];rfl) (by rw[ac'];rfl) (by rw[hs];rfl) (fun x hx=>?_) (by simp) hF (ajs _) (by rw[hs',ac'];rfl) (fun b hb=>?_)
 ·obtain⟨e,_,rfl⟩:=List.mem_map.1 hx;rfl
 ·rw[hs,hs']
  rcases aa4 b hb with (rfl|rfl|rfl|rfl|rfl|rfl|rfl|rfl|rfl|rfl|rfl)|rfl|rfl | ⟨_,_,_,_,_,_,_,_,_,_,_,_,_,_⟩
  ·exact .inr ⟨_,_,rfl,rfl,rfl,fun e he=>by obtain⟨x,_,rfl⟩:=List.mem_map.1 he;simp[jO.cs]⟩
  ·exact .inr ⟨_,_,rfl,rfl,rfl,.inl ⟨rfl,.map (by decide)⟩,trivial⟩
  ·exact .inr ⟨_,_,rfl,rfl,rfl,(afU _).2 trivial⟩
  ·exact .inr ⟨_,_,rfl,rfl,rfl,.inl ⟨rfl,.str _⟩,.inl ⟨rfl,.int _ _⟩,.inl ⟨rfl,.map (by decide)⟩,.inl ⟨rfl,.ref (by decide)⟩,trivial⟩
  ·exact .inr ⟨_,_,rfl,rfl,rfl,.inl ⟨rfl,.map (by decide)⟩,.inl ⟨rfl,.int _ _⟩,trivial⟩
  ·exact .inr ⟨_,_,rfl,rfl,rfl,(afV _).2 trivial⟩
  ·exact .inr ⟨_,_,rfl,rfl,rfl,trivial⟩
  ·exact .inr ⟨_,_,rfl,rfl,rfl,.inl ⟨rfl,.bool _⟩,.inl ⟨rfl,.str _⟩,.inl ⟨rfl,.int _ _⟩,.inl ⟨rfl,.slice ((alX _).2 trivial) (by rintro t ⟨⟩;decide)⟩,.inl ⟨rfl,.ref (by decide)⟩,trivial⟩
  ·exact .inr ⟨_,_,rfl,rfl,rfl,.inl ⟨rfl,.int _ _⟩,.inr ⟨by rw[ac'],rfl⟩,trivial⟩
  ·exact .inr ⟨_,_,rfl,rfl,rfl,trivial⟩
  ·exact .inr ⟨_,_,rfl,rfl,rfl,.inl ⟨rfl,.slice (fun e he=>by obtain⟨x,_,rfl⟩:=List.mem_map.1 he;simp[jO.cs]) (by rintro t ⟨⟩;decide)⟩,trivial⟩
  ·exact .inr ⟨_,_,rfl,rfl,rfl,akh _ a⟩
  ·exact .inr ⟨_,_,rfl,rfl,rfl,akh _ a⟩
  ·exact .inl ⟨by simp[Zy,psO,bxO,lk, *],by simp[PG,psO,bxO,lk, *]⟩
def swR (x:Nat):Nat:=if x=14 then 10 else if x=10 then 14 else x
def swY (x:Nat):Nat:=if x=22 then 10 else if x=10 then 22 else if x=23 then 18 else if x=18 then 23 else x
theorem ajt (x:Nat):swR (swR x)=x:=by
 unfold swR;repeat' split
 all_goals omega
theorem aa5 (x:Nat):swY (swY x)=x:=by
 unfold swY;repeat' split
 all_goals omega
theorem agQ {st st':St}{r:Rc}{nl nu:Bool}{a:As}(hs:st.σ=PG 14 r nl nu++bxO 18 a)(hs':st'.σ=PG 10 r nl nu++bxO 18 a)(hF:∀p∈st'.F,p.2=bK swR (st.get p.1)):Weak [] st st':=by
 refine Weak.ren (f:=swR) (g:=swR) ajt hF (fun b=>?_)
 rw[hs,hs']
 simp[PG,psO,bxO,kC,lU,iG,bK,Zm,pz,Zn,Zo,uD,uF,xq,swR]
theorem agR {st st':St}{r:Rc}{nl nu:Bool}{a:As}(hs:st.σ=PG 22 r nl nu++bxO 23 a)(hs':st'.σ=PG 10 r nl nu++bxO 18 a)(hF:∀p∈st'.F,p.2=bK swY (st.get p.1)):Weak [] st st':=by
 refine Weak.ren (f:=swY) (g:=swY) aa5 hF (fun b=>?_)
 rw[hs,hs']
 simp[PG,psO,bxO,kC,lU,iG,bK,Zm,pz,Zn,Zo,uD,uF,xq,swY]
theorem agS {st st':St}{r:Rc}{nl:Bool}{a:As}(hs:st.σ=Zy 22 r nl++bxO 23 a)(hs':st'.σ=Zy 10 r nl++bxO 18 a)(hF:∀p∈st'.F,p.2=bK swY (st.get p.1)):Weak [] st st':=by
 refine Weak.ren (f:=swY) (g:=swY) aa5 hF (fun b=>?_)
 rw[hs,hs']
 simp[Zy,psO,bxO,kC,lU,iG,bK,Zm,pz,Zn,Zo,uD,uF,Az,xq,swY]
theorem XE (self:List UInt8)(skew:Int)(hs:self.length≤140737488355328)(h:newE self skew=0):aF Pr 23 [.str self,.int .i64 skew] [] (.aQ [.ref 11 0,.int .i64 0]) [(13,.box 174 [.int .i64 256,.slice 0 true [] none]),(11,.box 114 [.bool true,.str self,.int .i64 (gQ skew 0),.slice 0 true [] none,.ref 13 0])]:=by
 obtain⟨f,g,h1,h2⟩:=lg [13,11] (by decide)
 have:=aF.rename h1 (acZ self skew hs h)
 have f0:f 0=13:=h2 0 13 rfl
 have f1:f 1=11:=h2 1 11 rfl
 simpa [kC,lU,bK,iG,xA,f0,f1] using this
theorem agT {ms:TS}{r:Rc}{o:lJ}(h:(bV ms r o).2.1≠0):(bV ms r o).1=bF∧(bV ms r o).2.2=r:=by
 cases h0:(o.call == 0) with
 |true=>
  rw[RZ h0] at h ⊢
  unfold lI at h ⊢
  dsimp only at h ⊢
  split
  ·rename_i h1;rw[if_pos h1] at h;exact absurd rfl h
  ·exact⟨rfl,rfl⟩
 |false=>
  rw[R_ h0] at h ⊢
  unfold fM at h ⊢
  split
  ·exact⟨rfl,rfl⟩
  rename_i q1
  simp only[q1] at h
  split
  ·exact⟨rfl,rfl⟩
  rename_i q2
  simp only[q2] at h
  split
  ·exact⟨rfl,rfl⟩
  rename_i q3
  rw[if_neg q3] at h
  split
  ·exact⟨rfl,rfl⟩
  rename_i q4
  rw[if_neg q4] at h
  split
  ·exact⟨rfl,rfl⟩
  rename_i q5
  rw[if_neg q5] at h
  split
  ·exact⟨rfl,rfl⟩
  rename_i q6
  rw[if_neg q6] at h
  split
  ·exact⟨rfl,rfl⟩
  rename_i q7
  rw[if_neg q7] at h
  unfold EH at h ⊢
  split
  ·exact⟨rfl,rfl⟩
  rename_i q8
  simp only[q8] at h
  split
  ·exact⟨rfl,rfl⟩
  rename_i q9
  rw[if_neg q9] at h
  split
  ·exact⟨rfl,rfl⟩
  rename_i q10
  rw[if_neg q10] at h
  split
  ·exact⟨rfl,rfl⟩
  rename_i q11
  rw[if_neg q11] at h
  exact absurd rfl h
theorem agU {ms:TS}{r:Rc}{o:lJ}(h:(bV ms r o).2.1≠0):(bV ms r o).2.2=r:=(agT h).2
theorem al3 {ms:TS}{r:Rc}{o:lJ}:(bV ms r o).1.ok:=by
 by_cases h:(bV ms r o).2.1=0
 ·cases h0:(o.call == 0) with
  |true=>rw[RZ h0];exact Ar
  |false=>
   rw[R_ h0] at h ⊢
   obtain⟨text,key,code,a,p,q,h1,_,_,_,_,_,_,_,_,_,_,h2⟩:=GN h
   obtain⟨sig,_,_,d3,_⟩:=RJ h1
   have:=agB text
   simp only at d3
   rw[d3] at this
   rw[h2];exact this
 ·rw[(agT h).1];exact Ar
theorem al4 {self:List UInt8}{skew:Int}(h:newE self skew=0):(⟨self,gQ skew 0,[],0,[],0⟩:Rc).at 0:=by
 have h1:=of_decide_eq_false (Gv.1 h).2
 have h2:=zx skew
 rw[qC] at h1 ⊢
 exact⟨⟨Jv.nil _,Jv.nil _,⟨h2.1,by show aN skew≤600;omega⟩,by simp,by simp⟩,by simp,by simp⟩
def nuP (r:Rc)(o:lJ)(nu:Bool):Bool:=if (bV dI r o).2.1=0 then (if (o.call == 0)=true then nu else false) else nu
theorem aol {r:Rc}{o:lJ}{nu:Bool}(h:(bV dI r o).2.1≠0):nuP r o nu=nu:=if_neg h
theorem aom {r:Rc}{o:lJ}{nu:Bool}(h:(bV dI r o).2.1=0)(h0:(o.call == 0)=true):nuP r o nu=nu:=(if_pos h).trans (if_pos h0)
theorem agV {r:Rc}{o:lJ}{nu:Bool}(h:(bV dI r o).2.1=0)(h0:(o.call == 0)=false):nuP r o nu=false:=(if_pos h).trans (if_neg (by rw[h0];decide))
theorem aa6 {ms:TS}{r:Rc}{o:lJ}(h0:(o.call == 0)=true):(bV ms r o).2.2.us=r.us:=by
 rw[RZ h0];unfold lI;split <;> rfl
theorem agW {r:Rc}{o:lJ}{nu:Bool}(h:nu=true→r.us=[])(h1:nuP r o nu=true):(bV dI r o).2.2.us=[]:=by
 unfold nuP at h1
 split at h1
 ·split at h1
  ·rename_i h0;rw[aa6 h0];exact h h1
  ·cases h1
 ·rename_i h0;rw[agU h0];exact h h1
theorem agX {r:Rc}{o:lJ}{nl:Bool}(h:nl=true→r.rq=[])(h1:Xp (bV dI r o).2.1 nl=true):(bV dI r o).2.2.rq=[]:=by
 unfold Xp at h1
 split at h1
 ·cases h1
 ·rename_i h0;rw[agU h0];exact h h1
set_option maxRecDepth 10000
set_option maxHeartbeats 4000000
abbrev ET:List Nat:=[0,1,4,5,10,14,25]
theorem agY (a:List (List UInt8))(na:Bool)(hn:a.length≤1099511627776)(hna:na=true→a=[]):ay Pr 30 [.slice 1 na (a.map fun x=>[.str x]) none,.slice 1 na (a.map fun x=>[.str x]) none] (.bool true):=by
 refine gK Tryz.func30 Tryz.ntmps30 ?_
 refine aG 8 ET ?_
 refine WP.lp [0,1] (X:={k:Nat // k≤a.length∧True}) (fun x=>match x with| ⟨(k),_⟩=>[(5,.int .i64 k)]) (fun x=>match x with| ⟨(k),_⟩=>[]) (fun x=>match x with| ⟨(k),_⟩=>a.length - k) (by simp +decide only[W,↓reduceIte];rfl) ?_ ⟨(0),⟨ada _,trivial⟩⟩ ?_
 rotate_left
 ·exact QB
 rintro ⟨k,hk,hI⟩
 dsimp only
 simp only[abS,abT]
 refine aG 2 ET ?_
 refine WP.cond rfl (fun q1=>?_) (fun q1=>?_)
 ·have hlt:=aO q1
  have hg:(a.map fun x=>[D.str x])[k]?=some [.str a[k]]:=getM hlt
  have hnf:=aX hna hlt
  refine oC 4 ET q1 hg hnf ?_
  refine WP.cond rfl (fun q2=>?_) (fun q2=>?_)
  ·exact absurd q2 (by simp)
  refine aG 2 [] ?_
  show ∃y,_∧Weak _ _ _
  refine⟨⟨k+1,?_⟩,?_,?_⟩
  ·exact⟨by omega,by first|(simpa [hk,q1,hg,hnf,q2] using hI)|(simp_all;done)⟩
  ·dsimp only;omega
  exact CP hnf (aU hlt (show a.length≤140737488355328 by omega))
 have hge:=aP q1
 refine aJ 2 ET q1 ?_
 apply WP.ret
 exact Ya
end Go.Proofs
