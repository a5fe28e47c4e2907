import Derived.Test.YtekopfoidhhedaaGreatDoorG04
import Derived.Test.YtekopfoidhhedaaGreatDoorG10
import Derived.Test.YtekopfoidhhedaaGreatDoorG09
import Derived.Test.YtekopfoidhhedaaGreatDoorG07
import Derived.Test.YtekopfoidhhedaaGreatDoorG03
import Derived.Test.YtekopfoidhhedaaGreatDoorG08
import Derived.Test.YtekopfoidhhedaaGreatDoorG02
set_option linter.unusedVariables false
set_option linter.unusedSimpArgs false
set_option linter.unnecessarySimpa false
set_option maxRecDepth 10000
namespace Go.Proofs
open Go Go.Id
set_option maxHeartbeats 4000000
abbrev jD:List Nat:=[0,2,3,4,5,6,7,8,9,13,22,34,45,68]
theorem uQ (l:List At)(nl:Bool)(hn:l.length≤1099511627776)(hnl:nl=true→l=[])(hl:∀a∈l,a.ok)(hc:CkA l):ak Pr 33 [.slice 2 nl (l.map At.cs) none] (.slice 2 (iI l).isEmpty ((iI l).map At.cs) none):=by
 have anh:=hc.len
 have hn32:=VN hc
 refine ak.W Tryz.func33 Tryz.ntmps33 ?_
 simp only[ay]
 iterate 3 first|(refine WP.S jD fun _ z=>?_;simp +decide only[TF,↓reduceIte];apply z;clear z)|apply WP.seq
 refine WP.S [0,3,4] fun _ z=>?_;simp +decide only[TF,↓reduceIte];apply z;clear z
 apply WP.block
 refine WP.lp [0] (X:={x:(Nat) × (List (List UInt8)) // match x with|(k,p)=>k≤l.length∧p.length≤k∧l.foldl Gy []=(l.drop k).foldl Gy p}) (fun x=>match x with| ⟨(k,p),_⟩=>[(3,.slice 1 p.isEmpty (p.map fun x=>[.str x]) none),(4,.int .i64 k)]) (fun x=>match x with| ⟨(k,p),_⟩=>[]) (fun x=>match x with| ⟨(k,p),_⟩=>l.length - k) (by simp +decide only[W,↓reduceIte];rfl) ?_ ⟨(0,[]),⟨Nat.zero_le _,Nat.zero_le _,by simp⟩⟩ ?_
 rotate_left
 ·exact Weak.store (by simp[St.get,lk,W,Le.refl,Le.nil,-List.append_assoc,W]) (by simp[lk,-List.append_assoc]) (by simp[lk,aO,-List.mem_append,-List.mem_map,-List.append_assoc]) (by simp[aA,lk]) (by simp[lk])
 rintro ⟨⟨k,p⟩,hk,hr,hI⟩
 dsimp only
 simp only[List.cons_append,List.nil_append]
 iterate 2 first|(refine WP.S jD fun _ z=>?_;simp +decide only[TF,↓reduceIte];apply z;clear z)|apply WP.seq
 refine WP.cond rfl (fun q1=>?_) (fun q1=>?_)
 ·have hlt:=aK q1
  have hg:(l.map At.cs)[k]?=some [.str l[k].name,.slice 1 l[k].nl (l[k].vals.map fun x=>[.str x]) none]:=getM hlt
  have hnf:=bH hnl hlt
  rw[dI hlt] at hI
  simp only[List.foldl_cons] at hI
  have hok:=Gw (hl _ (List.getElem_mem hlt))
  have hvz:=Qc l[k].vals
  iterate 4 first|(refine WP.S jD fun _ z=>?_;simp +decide only[TF,q1,hg,hnf,↓reduceIte];apply z;clear z)|(apply WP.skip;show WP ..)|apply WP.block|apply WP.seq
  refine WP.cond rfl (fun q2=>?_) (fun q2=>?_)
  ·have hA:=q2
   refine WP.R fun _ z=>?_
   simp +decide only[TF,hg,q2,↓reduceIte]
   refine aj.P (yu l[k].name (hl _ (List.getElem_mem hlt)).1) rfl rfl ?_
   simp +decide only[TF,↓reduceIte]
   refine aj.P (JZ p p.isEmpty (bg l[k].name) (by omega) (fun h=>by simpa using h)) rfl rfl ?_
   simp +decide only[TF,↓reduceIte]
   apply z;clear z
   show WP ..
   refine WP.R fun _ z=>?_;simp +decide only[TF,↓reduceIte];apply z;clear z
   show ∃y,_∧Weak _ _ _
   have hlen:=TI p (bg l[k].name)
   simp only[Gy,hA,↓reduceIte] at hI
   refine⟨⟨(k+1,m_ p (bg l[k].name)),?_⟩,?_,?_⟩
   ·exact⟨by dsimp only;omega,by simp;omega,hI⟩
   ·dsimp only;omega
   exact Weak.store (by simp[St.get,lk,Le.refl,-List.append_assoc,hnf,aT hlt (show l.length≤140737488355328 by omega)]) (by simp[lk,-List.append_assoc]) (by simp[lk,fE,aO,-List.mem_append,-List.mem_map,-List.append_assoc]) (by simp[aA,lk]) (by simp[lk])
  have hB:=q2
  iterate 2 first|(refine WP.R fun _ z=>?_;simp +decide only[TF,q2,↓reduceIte];apply z;clear z)|(apply WP.skip;show WP ..)
  show ∃y,_∧Weak _ _ _
  simp only[Gy,hB,↓reduceIte,Bool.false_eq_true] at hI
  refine⟨⟨(k+1,p),?_⟩,?_,?_⟩
  ·exact⟨by dsimp only;omega,by simp;omega,hI⟩
  ·dsimp only;omega
  exact Weak.store (by simp[St.get,lk,Le.refl,-List.append_assoc,hnf,aT hlt (show l.length≤140737488355328 by omega)]) (by simp[lk,-List.append_assoc]) (by simp[lk,fE,aO,-List.mem_append,-List.mem_map,-List.append_assoc]) (by simp[aA,lk]) (by simp[lk])
 have hge:=aN q1
 rw[eP hge] at hI
 simp only[List.foldl_nil] at hI
 have hN:gq l=p:=hI
 subst hN
 iterate 3 first|(refine WP.S jD fun _ z=>?_;simp +decide only[TF,q1,↓reduceIte];apply z;clear z)|(apply WP.exit;show WP ..)|apply WP.seq
 refine WP.S [0,3,5,6] fun _ z=>?_;simp +decide only[TF,↓reduceIte];apply z;clear z
 apply WP.block
 refine WP.lp [0,3] (X:={x:(Nat) × (List At) // match x with|(u,o)=>u≤(gq l).length∧o.length=u∧o++((gq l).drop u).map (Zb l)=Cb l}) (fun x=>match x with| ⟨(u,o),_⟩=>[(5,.slice 2 o.isEmpty (o.map At.cs) (some 0)),(6,.int .i64 u)]) (fun x=>match x with| ⟨(u,o),_⟩=>[(0,.aS 75 2 o.length)]) (fun x=>match x with| ⟨(u,o),_⟩=>(gq l).length - u) (by simp +decide only[W,↓reduceIte];rfl) ?_ ⟨(0,[]),⟨Nat.zero_le _,rfl,by simp[Cb]⟩⟩ ?_
 rotate_left
 ·refine Weak.trans (Weak.ghost 0 75 2 (F':=[(6,.int .i64 0),(5,.slice 2 true [] (some 0)),(3,.slice 1 (gq l).isEmpty ((gq l).map fun x=>[.str x]) none),(0,.slice 2 nl (l.map At.cs) none)]) (σ':=[]) (by simp[lk]) (by simp[keep,ins,Ac,zC]) (by simp[Dq])) ?_;exact Weak.store (by simp[St.get,lk,Le.refl]) (by simp[lk]) (by simp[lk]) (by simp[aA,lk]) (by simp[lk])
 rintro ⟨⟨u,o⟩,hk,hr,hO⟩
 dsimp only
 simp only[List.cons_append,List.nil_append]
 iterate 2 first|(refine WP.S jD fun _ z=>?_;simp +decide only[TF,↓reduceIte];apply z;clear z)|apply WP.seq
 refine WP.cond rfl (fun q3=>?_) (fun q3=>?_)
 ·have hlt:=aK q3
  have hg:((gq l).map fun x=>[D.str x])[u]?=some [.str (gq l)[u]]:=getM hlt
  have hnf:=bH (nl:=(gq l).isEmpty) (fun h=>by simpa using h) hlt
  iterate 5 first|(refine WP.S jD fun _ z=>?_;simp +decide only[TF,q3,hg,hnf,↓reduceIte];apply z;clear z)|(apply WP.skip;show WP ..)|apply WP.block|apply WP.seq
  refine WP.S [0,3,5,6,7,8] fun _ z=>?_;simp +decide only[TF,↓reduceIte];apply z;clear z
  apply WP.block
  refine WP.lp [0,3,5,6,7] (X:={x:(Nat) × (List (List UInt8)) // match x with|(j,vs)=>j≤l.length∧vs.length≤16 * j∧Gz (gq l)[u] l=(l.drop j).foldl (xA (gq l)[u]) vs}) (fun x=>match x with| ⟨(j,vs),_⟩=>[(8,.int .i64 j)]) (fun x=>match x with| ⟨(j,vs),_⟩=>[(1,.box 75 [.str (gq l)[u],TV vs]),(0,.aS 75 2 o.length)]) (fun x=>match x with| ⟨(j,vs),_⟩=>l.length - j) (by simp +decide only[W,↓reduceIte];rfl) ?_ ⟨(0,[]),⟨Nat.zero_le _,Nat.zero_le _,by simp[Gz]⟩⟩ ?_
  rotate_left
  ·exact Weak.store (by simp[St.get,lk,W,Le.refl,-List.append_assoc]) (by simp[lk,-List.append_assoc,aeL]) (by simp[lk,fE,aO,-List.mem_append,-List.mem_map,-List.append_assoc]) (by simp[aA,lk]) (by simp[lk])
  rintro ⟨⟨j,vs⟩,hj,hr2,hV⟩
  dsimp only
  simp only[List.cons_append,List.nil_append]
  iterate 2 first|(refine WP.S jD fun _ z=>?_;simp +decide only[TF,↓reduceIte];apply z;clear z)|apply WP.seq
  refine WP.cond rfl (fun q4=>?_) (fun q4=>?_)
  ·have hjl:=aK q4
   have hgj:(l.map At.cs)[j]?=some [.str l[j].name,.slice 1 l[j].nl (l[j].vals.map fun x=>[.str x]) none]:=getM hjl
   have ahB:=bH hnl hjl
   rw[dI hjl] at hV
   simp only[List.foldl_cons] at hV
   have ani:=hc.v16 _ (List.getElem_mem hjl)
   have aeA:=Gw (hl _ (List.getElem_mem hjl))
   iterate 3 first|(apply WP.skip;show WP ..)|apply WP.block|apply WP.seq
   refine WP.S [0,3,5,6,7,8,9] fun _ z=>?_;simp +decide only[TF,q4,ahB,↓reduceIte];apply z;clear z
   apply WP.block
   refine WP.lp [0,3,5,6,7,8] (X:={x:(Nat) × (List (List UInt8)) // match x with|(i,ws)=>i≤l[j].vals.length∧ws.length≤16 * j+i∧xA (gq l)[u] vs l[j]=(if (bg l[j].name == (gq l)[u])=true then (l[j].vals.drop i).foldl m_ ws else ws)}) (fun x=>match x with| ⟨(i,ws),_⟩=>[(9,.int .i64 i)]) (fun x=>match x with| ⟨(i,ws),_⟩=>[(1,.box 75 [.str (gq l)[u],TV ws]),(0,.aS 75 2 o.length)]) (fun x=>match x with| ⟨(i,ws),_⟩=>l[j].vals.length - i) (by simp +decide only[W,↓reduceIte];rfl) ?_ ⟨(0,vs),⟨Nat.zero_le _,by omega,by simp[xA]⟩⟩ ?_
   rotate_left
   ·exact Weak.store (by simp[St.get,lk,W,Le.refl,-List.append_assoc]) (by simp[lk,-List.append_assoc]) (by simp[lk,fE,aO,-List.mem_append,-List.mem_map,-List.append_assoc]) (by simp[aA,lk]) (by simp[lk])
   rintro ⟨⟨i,ws⟩,hi,hr3,hW⟩
   dsimp only
   simp only[List.cons_append,List.nil_append]
   apply WP.seq
   refine WP.D jD fun _ z=>?_
   simp +decide only[TF,hgj,↓reduceIte]
   refine aj.P (yu l[j].name (hl _ (List.getElem_mem hjl)).1) rfl rfl ?_
   refine ah.take 6 fun J hJ=>?_
   simp +decide only[TF,hg,↓reduceIte]
   refine hJ _ _ ?_;clear hJ J
   refine ah.part 59 rfl (fun q5=>?_) (fun q5=>?_)
   ·have hE:=q5
    simp +decide only[TF,hgj,q5,↓reduceIte]
    refine z _ _ (by kernel_rfl) ?_;clear z
    refine WP.cond rfl (fun q6=>?_) (fun q6=>?_)
    ·have hil:i<l[j].vals.length:=by have:=of_decide_eq_true q6;omega
     have hgi:(l[j].vals.map fun x=>[D.str x])[i]?=some [.str l[j].vals[i]]:=getM hil
     have alG:=bH aeA.2.2.1 hil
     iterate 3 first|(apply WP.skip;show WP ..)|apply WP.block|apply WP.seq
     refine WP.E fun _ z=>?_
     simp +decide only[TF,hgj,q6,hgi,alG,↓reduceIte]
     refine aj.aak (JZ ws ws.isEmpty l[j].vals[i] (by omega) (fun h=>by simpa using h)) rfl ⟨by simpa using ahz ws,Le.refl _,trivial⟩ (by simp[fg,TV]) ?_
     simp +decide only[TF,↓reduceIte]
     refine z _ _ (by kernel_rfl) ?_;clear z
     show WP ..
     refine WP.R fun _ z=>?_;simp +decide only[TF,↓reduceIte];apply z;clear z
     show ∃y,_∧Weak _ _ _
     rw[if_pos hE,List.drop_eq_getElem_cons hil,List.foldl_cons] at hW
     have hlen:=TI ws l[j].vals[i]
     refine⟨⟨(i+1,m_ ws l[j].vals[i]),?_⟩,?_,?_⟩
     ·exact⟨hil,by dsimp only;omega,by rw[hW,if_pos hE]⟩
     ·dsimp only;omega
     exact Weak.store (by simp[St.get,lk,Le.refl,-List.append_assoc,aT hil (show l[j].vals.length≤140737488355328 by omega)]) (by simp[lk,-List.append_assoc,aeN]) (by simp[lk,fE,aO,-List.mem_append,-List.mem_map,-List.append_assoc]) (by simp[aA,lk]) (by simp[lk])
    iterate 2 first|(refine WP.R fun _ z=>?_;simp +decide only[TF,q6,↓reduceIte];apply z;clear z)|(apply WP.exit;show WP ..)
    show ∃y,_∧Weak _ _ _
    have hig:l[j].vals.length≤i:=by have:=of_decide_eq_false q6;omega
    rw[if_pos hE,List.drop_of_length_le hig,List.foldl_nil] at hW
    rw[hW] at hV
    refine⟨⟨(j+1,ws),?_⟩,?_,?_⟩
    ·exact⟨hjl,by dsimp only;omega,hV⟩
    ·dsimp only;omega
    exact Weak.store (by simp[St.get,lk,Le.refl,-List.append_assoc,ahB,aT hjl (show l.length≤140737488355328 by omega)]) (by simp[lk,-List.append_assoc]) (by simp[lk,fE,aO,-List.mem_append,-List.mem_map,-List.append_assoc]) (by simp[aA,lk]) (by simp[lk])
   have hF:=q5
   simp +decide only[TF,q5,↓reduceIte]
   refine z _ _ (by kernel_rfl) ?_;clear z
   iterate 3 first|(refine WP.R fun _ z=>?_;simp +decide only[TF,↓reduceIte];apply z;clear z)|(apply WP.exit;show WP ..)|refine WP.cF ?_
   show ∃y,_∧Weak _ _ _
   rw[if_neg (by rw[hF];decide)] at hW
   rw[hW] at hV
   refine⟨⟨(j+1,ws),?_⟩,?_,?_⟩
   ·exact⟨hjl,by dsimp only;omega,hV⟩
   ·dsimp only;omega
   exact Weak.store (by simp[St.get,lk,Le.refl,-List.append_assoc,ahB,aT hjl (show l.length≤140737488355328 by omega)]) (by simp[lk,-List.append_assoc]) (by simp[lk,fE,aO,-List.mem_append,-List.mem_map,-List.append_assoc]) (by simp[aA,lk]) (by simp[lk])
  have hjg:=aN q4
  rw[eP hjg] at hV
  simp only[List.foldl_nil] at hV
  apply WP.exit;show WP ..
  refine WP.R fun _ z=>?_
  simp +decide only[TF,q4,↓reduceIte]
  refine⟨⟨by simp only[List.length_append,List.length_map,List.length_cons,List.length_nil];omega,by simp only[List.length_append,List.length_map,List.length_cons,List.length_nil];omega⟩,?_⟩
  apply z;clear z
  show WP ..
  refine WP.R fun _ z=>?_;simp +decide only[TF,↓reduceIte];apply z;clear z
  show ∃y,_∧Weak _ _ _
  have hcs:[D.str (gq l)[u],TV vs]=(Zb l (gq l)[u]).cs:=by rw[aeO hc (List.getElem_mem hlt),hV]
  rw[List.drop_eq_getElem_cons hlt,List.map_cons] at hO
  refine⟨⟨(u+1,o++[Zb l (gq l)[u]]),?_⟩,?_,?_⟩
  ·exact⟨hlt,by simp;omega,by rw[← hO];simp⟩
  ·dsimp only;omega
  exact Weak.store (by simp[St.get,lk,Le.refl,Hf,-List.append_assoc,hnf,hcs,aT hlt (show (gq l).length≤140737488355328 by omega)]) (by simp[lk,-List.append_assoc,hcs]) (by simp[lk,wY,fE,aO,aeP,-List.mem_append,-List.mem_map,-List.append_assoc]) (by simp[aA,lk]) (by simp[lk])
 have hge:=aN q3
 have hZ:o=iI l:=by rw[← Ku hc,← hO,List.drop_of_length_le hge];simp
 subst hZ
 iterate 2 first|(refine WP.S jD fun _ z=>?_;simp +decide only[TF,q3,↓reduceIte];apply z;clear z)|(apply WP.exit;show WP ..)
 apply WP.ret
 exact Ends.P rfl ((by simp +decide only[St.get,W,↓reduceIte];exact Le.fg _))
set_option maxRecDepth 10000
theorem inter_snoc (t:List UInt8):∀(l:List (List UInt8)) (x:List UInt8),l≠[]→Lib.join (l++[x]) t=Lib.join l t++t++x
 | [],x,h=>absurd rfl h
 | [a],x,_=>by simp[Lib.join,List.intercalate]
 |a::b::l,x,_=>by
  have:=inter_snoc t (b::l) x (by simp)
  simp only[Lib.join,List.intercalate,List.cons_append,List.intersperse_cons_cons,List.flatten_cons] at this ⊢
  rw[this];simp
theorem Zd {ls:List (List UInt8)}(t:List UInt8){k:Nat}(hk:k<ls.length):Lib.join (ls.take (k+1)) t=if decide ((k:Int)>0)=true then Lib.join (ls.take k) t++t++ls[k] else Lib.join (ls.take k) t++ls[k]:=by
 have e:ls.take (k+1)=ls.take k++[ls[k]]:=by rw[List.take_add_one,List.getElem?_eq_getElem hk];rfl
 rw[e]
 split
 ·rename_i h
  have h0:0<k:=by have:=of_decide_eq_true h;omega
  exact inter_snoc t _ _ (by intro h;have:=congrArg List.length h;rw[List.length_take] at this;simp only[List.length_nil] at this;omega)
 ·rename_i h
  have:k=0:=by simp at h;omega
  subst this;simp[Lib.join,List.intercalate]
theorem D5 (t:List UInt8):∀(l m:List (List UInt8)),l≠[]→m≠[]→Lib.join (l++m) t=Lib.join l t++t++Lib.join m t
 | [],m,h,_=>absurd rfl h
 | [a],b::m,_,_=>by simp[Lib.join,List.intercalate]
 |a::b::l,m,_,hm=>by
  have:=D5 t (b::l) m (by simp) hm
  simp only[Lib.join,List.intercalate,List.cons_append,List.intersperse_cons_cons,List.flatten_cons] at this ⊢
  rw[this];simp
theorem Ze (t:List UInt8)(ls:List (List UInt8))(k:Nat):(Lib.join (ls.take k) t).length≤(Lib.join ls t).length:=by
 by_cases h1:ls.take k=[]
 ·rw[h1];simp[Lib.join_nil]
 by_cases h2:ls.drop k=[]
 ·rw[show ls.take k=ls by rw[List.drop_eq_nil_iff] at h2;exact List.take_of_length_le h2];exact Nat.le_refl _
 ·have:=D5 t _ _ h1 h2
  rw[List.take_append_drop] at this
  rw[this];simp only[List.length_append];omega
def ng (ls:List (List UInt8)):List UInt8:=if ((ls.length:Int) == 0)=true then [45] else if ls=[[45]] then [37,50,68] else Lib.join (ls.map aF) [124]
theorem abT {ls:List (List UInt8)}(h:((ls.length:Int) == 0)=true):ng ls=[45]:=by unfold ng;rw[if_pos h]
theorem abU {ls:List (List UInt8)}(h0:0<ls.length)(h:((ls.length:Int) == 1)=true)(h2:(ls[0] == [45])=true):ng ls=[37,50,68]:=by
 match ls,h0 with
 | [x],_=>simp at h2;subst h2;rfl
 |a::b::l,_=>simp at h;omega
theorem abV {ls:List (List UInt8)}(h:((ls.length:Int) == 0)=false)(h1:((ls.length:Int) == 1)=false):ng ls=Lib.join (ls.map aF) [124]:=by
 unfold ng
 rw[if_neg (by rw[h];decide),if_neg]
 intro e;rw[e] at h1;cases h1
theorem abW {ls:List (List UInt8)}(h:((ls.length:Int) == 0)=false)(h0:0<ls.length)(h2:(ls[0] == [45])=false):ng ls=Lib.join (ls.map aF) [124]:=by
 unfold ng
 rw[if_neg (by rw[h];decide),if_neg]
 intro e;subst e;simp at h2
theorem TW {ls:List (List UInt8)}(h:((ls.length:Int) == 0)=false):0<ls.length:=by
 cases ls with
 |nil=>simp at h
 |cons a l=>simp
abbrev Cc:List Nat:=[0,1,4,5,6,10,14]
theorem TY (ls:List (List UInt8))(nl:Bool)(t:List UInt8)(hn:ls.length≤140737488355328)(hnl:nl=true→ls=[])(hj:(Lib.join ls t).length≤140737488355328):ak Pr 100 [.slice 1 nl (ls.map fun x=>[.str x]) none,.str t] (.str (Lib.join ls t)):=by
 refine ak.W Tryz.func100 Tryz.ntmps100 ?_
 simp only[ay,Nat.zero_add]
 iterate 3 first|(refine WP.S Cc fun _ z=>?_;simp +decide only[TF,↓reduceIte];apply z;clear z)|apply WP.seq
 refine WP.S [0,1,5,6] fun _ z=>?_;simp +decide only[TF,↓reduceIte];apply z;clear z
 apply WP.block
 refine WP.lp [0,1] (X:={k:Nat // k≤ls.length}) (fun x=>match x with| ⟨(k),_⟩=>[(5,.str (Lib.join (ls.take k) t)),(6,.int .i64 k)]) (fun x=>match x with| ⟨(k),_⟩=>[]) (fun x=>match x with| ⟨(k),_⟩=>ls.length - k) (by simp +decide only[W,↓reduceIte];rfl) ?_ ⟨(0),Nat.zero_le _⟩ ?_
 rotate_left
 ·exact Weak.nil (by simp[St.get,lk,W,Le.refl,Lib.join_nil,W]) (by simp[W])
 rintro ⟨k,hk⟩
 dsimp only
 simp only[List.cons_append,List.nil_append]
 iterate 2 first|(refine WP.S Cc fun _ z=>?_;simp +decide only[TF,↓reduceIte];apply z;clear z)|apply WP.seq
 refine WP.cond rfl (fun q1=>?_) (fun q1=>?_)
 ·have hlt:=aK q1
  have hg:(ls.map fun x=>[D.str x])[k]?=some [.str ls[k]]:=getM hlt
  have hnf:=bH hnl hlt
  have hjt:=Zd t hlt
  have hjl:=Ze t ls (k+1)
  iterate 5 first|(refine WP.S Cc fun _ z=>?_;simp +decide only[TF,q1,hnf,↓reduceIte];apply z;clear z)|(apply WP.skip;show WP ..)|apply WP.block|apply WP.seq
  refine WP.cond rfl (fun q2=>?_) (fun q2=>?_)
  ·have hA:=q2
   refine WP.R fun _ z=>?_
   simp +decide only[TF,q2,↓reduceIte]
   refine⟨by have hx:=congrArg List.length hjt;rw[if_pos hA] at hx;simp only[List.length_append] at hx ⊢;omega,?_⟩
   apply z;clear z
   show WP ..
   refine WP.R fun _ z=>?_
   simp +decide only[TF,hg,↓reduceIte]
   refine⟨by have hx:=congrArg List.length hjt;rw[if_pos hA] at hx;simp only[List.length_append] at hx ⊢;omega,?_⟩
   apply z;clear z
   show WP ..
   refine WP.R fun _ z=>?_;simp +decide only[TF,↓reduceIte];apply z;clear z
   show ∃y,_∧Weak _ _ _
   rw[if_pos hA] at hjt
   refine⟨⟨k+1,hlt⟩,?_,?_⟩
   ·dsimp only;omega
   exact Weak.nil (by simp[St.get,lk,Le.refl,hjt,hnf,aT hlt (show ls.length≤140737488355328 by omega)]) (by simp[W])
  have hB:=q2
  apply WP.skip;show WP ..
  refine WP.R fun _ z=>?_
  simp +decide only[TF,hg,q2,↓reduceIte]
  refine⟨by have hx:=congrArg List.length hjt;rw[if_neg (by rw[hB];decide)] at hx;simp only[List.length_append] at hx ⊢;omega,?_⟩
  apply z;clear z
  show WP ..
  refine WP.R fun _ z=>?_;simp +decide only[TF,↓reduceIte];apply z;clear z
  show ∃y,_∧Weak _ _ _
  rw[if_neg (by rw[hB];decide)] at hjt
  refine⟨⟨k+1,hlt⟩,?_,?_⟩
  ·dsimp only;omega
  exact Weak.nil (by simp[St.get,lk,Le.refl,hjt,hnf,aT hlt (show ls.length≤140737488355328 by omega)]) (by simp[W])
 have hge:=aN q1
 obtain rfl:k=ls.length:=by omega
 rw[List.take_length]
 iterate 2 first|(refine WP.S Cc fun _ z=>?_;simp +decide only[TF,q1,↓reduceIte];apply z;clear z)|(apply WP.exit;show WP ..)
 apply WP.ret
 exact Ends.P rfl (Le.of_eq (by simp_all[St.get,W]))
abbrev kL:List Nat:=[0,2,3,4,7,16,20]
theorem abX (ls:List (List UInt8))(nl:Bool)(hn:ls.length≤1099511627776)(hnl:nl=true→ls=[])(hls:∀x∈ls,x.length≤1099511627776)(hj:(Lib.join (ls.map aF) [124]).length≤140737488355328):ak Pr 47 [.slice 1 nl (ls.map fun x=>[.str x]) none] (.str (ng ls)):=by
 refine ak.W Tryz.func47 Tryz.ntmps47 ?_
 simp only[ay]
 iterate 3 first|(refine WP.S kL fun _ z=>?_;simp +decide only[TF,↓reduceIte];apply z;clear z)|apply WP.seq
 refine WP.cond rfl (fun q1=>?_) (fun q1=>?_)
 ·have hX:=abT q1
  refine WP.S kL fun _ z=>?_;simp +decide only[TF,q1,↓reduceIte];apply z;clear z
  apply WP.ret
  exact Ends.P rfl (Le.of_eq (by simp +decide only[St.get,W,hX,↓reduceIte]))
 have h0:=q1
 have hp:=TW h0
 have hnf:=bH hnl hp
 have hg0:(ls.map fun x=>[D.str x])[0]?=some [.str ls[0]]:=getM hp
 iterate 2 first|(apply WP.skip;show WP ..)|apply WP.seq
 refine WP.S kL fun _ z=>?_
 refine ah.take 4 fun J hJ=>?_
 simp +decide only[TF,q1,hnf,↓reduceIte]
 refine hJ _ _ ?_;clear hJ J
 refine ah.part 11 rfl (fun q2=>?_) (fun q2=>?_)
 ·have h1:=q2
  simp +decide only[TF,hg0,q2,↓reduceIte]
  apply z;clear z
  refine WP.cond rfl (fun q3=>?_) (fun q3=>?_)
  ·have hX:=abU hp h1 q3
   refine WP.S kL fun _ z=>?_;simp +decide only[TF,q3,↓reduceIte];apply z;clear z
   apply WP.ret
   exact Ends.P rfl (Le.of_eq (by simp +decide only[St.get,W,hX,↓reduceIte]))
  have hX:=abW h0 hp q3
  iterate 3 first|(refine WP.S kL fun _ z=>?_;simp +decide only[TF,q3,↓reduceIte];apply z;clear z)|(apply WP.skip;show WP ..)|apply WP.seq
  refine WP.S [0,3,4] fun _ z=>?_;simp +decide only[TF,↓reduceIte];apply z;clear z
  apply WP.block
  refine WP.lp [0] (X:={k:Nat // k≤ls.length}) (fun x=>match x with| ⟨(k),_⟩=>[(3,.slice 1 ((ls.take k).map aF).isEmpty (((ls.take k).map aF).map fun x=>[.str x]) (some 0)),(4,.int .i64 k)]) (fun x=>match x with| ⟨(k),_⟩=>[(0,.aS 9 1 k)]) (fun x=>match x with| ⟨(k),_⟩=>ls.length - k) (by simp +decide only[W,↓reduceIte];rfl) ?_ ⟨(0),Nat.zero_le _⟩ ?_
  rotate_left
  ·refine Weak.trans (Weak.ghost 0 9 1 (F':=[(4,.int .i64 0),(3,.slice 1 true [] (some 0)),(0,.slice 1 false (ls.map fun x=>[.str x]) none)]) (σ':=[]) (by simp[lk]) (by simp[keep,ins,Ac,zC]) (by simp[Dq])) ?_;exact Weak.store (by simp[St.get,lk,Le.refl]) (by simp[lk]) (by simp[lk]) (by simp[aA,lk]) (by simp[lk])
  rintro ⟨k,hk⟩
  dsimp only
  simp only[List.cons_append,List.nil_append]
  iterate 2 first|(refine WP.S kL fun _ z=>?_;simp +decide only[TF,↓reduceIte];apply z;clear z)|apply WP.seq
  refine WP.cond rfl (fun q4=>?_) (fun q4=>?_)
  ·have hlt:=aK q4
   have hg:(ls.map fun x=>[D.str x])[k]?=some [.str ls[k]]:=getM hlt
   have hnf:=bH hnl hlt
   have htl:(ls.take k).length=k:=by rw[List.length_take];omega
   have hes:(ls.take (k+1)).map aF=(ls.take k).map aF++[aF ls[k]]:=by rw[List.take_add_one,List.getElem?_eq_getElem hlt,List.map_append];rfl
   iterate 3 first|(apply WP.skip;show WP ..)|apply WP.block|apply WP.seq
   refine WP.R fun _ z=>?_
   simp +decide only[TF,q4,hg,↓reduceIte]
   refine aj.P (jT ls[k] (hls _ (List.getElem_mem hlt))) rfl rfl ?_
   simp +decide only[TF,htl,↓reduceIte]
   refine⟨⟨by simp only[List.length_append,List.length_map,List.length_cons,List.length_nil];omega,by simp only[List.length_append,List.length_map,List.length_cons,List.length_nil];omega⟩,?_⟩
   apply z;clear z
   show WP ..
   refine WP.R fun _ z=>?_;simp +decide only[TF,↓reduceIte];apply z;clear z
   show ∃y,_∧Weak _ _ _
   refine⟨⟨k+1,hlt⟩,?_,?_⟩
   ·dsimp only;omega
   exact Weak.store (by simp[St.get,lk,Le.refl,hes,Hf,-List.map_take,aT hlt (show ls.length≤140737488355328 by omega)]) (by simp[lk,hk]) (by simp[lk,hes,fE,wY,-List.mem_append,-List.mem_map,-List.append_assoc,-List.map_take,-List.map_map]) (by simp[aA,lk]) (by simp[lk])
  have hge:=aN q4
  obtain rfl:k=ls.length:=by omega
  rw[List.take_length]
  apply WP.exit;show WP ..
  refine WP.S kL fun _ z=>?_
  simp +decide only[TF,q4,↓reduceIte]
  refine aj.P (TY (ls.map aF) (ls.map aF).isEmpty [124] (by simp;omega) (fun h=>by simpa using h) hj) rfl rfl ?_
  simp +decide only[TF,↓reduceIte]
  apply z;clear z
  apply WP.ret
  exact Ends.P rfl (Le.of_eq (by simp_all[St.get,W]))
 have hX:=abV h0 q2
 simp +decide only[TF,q2,↓reduceIte]
 apply z;clear z
 iterate 4 first|(refine WP.S kL fun _ z=>?_;simp +decide only[TF,↓reduceIte];apply z;clear z)|(apply WP.skip;show WP ..)|refine WP.cF ?_|apply WP.seq
 refine WP.S [0,3,4] fun _ z=>?_;simp +decide only[TF,↓reduceIte];apply z;clear z
 apply WP.block
 refine WP.lp [0] (X:={k:Nat // k≤ls.length}) (fun x=>match x with| ⟨(k),_⟩=>[(3,.slice 1 ((ls.take k).map aF).isEmpty (((ls.take k).map aF).map fun x=>[.str x]) (some 0)),(4,.int .i64 k)]) (fun x=>match x with| ⟨(k),_⟩=>[(0,.aS 9 1 k)]) (fun x=>match x with| ⟨(k),_⟩=>ls.length - k) (by simp +decide only[W,↓reduceIte];rfl) ?_ ⟨(0),Nat.zero_le _⟩ ?_
 rotate_left
 ·refine Weak.trans (Weak.ghost 0 9 1 (F':=[(4,.int .i64 0),(3,.slice 1 true [] (some 0)),(0,.slice 1 false (ls.map fun x=>[.str x]) none)]) (σ':=[]) (by simp[lk]) (by simp[keep,ins,Ac,zC]) (by simp[Dq])) ?_;exact Weak.store (by simp[St.get,lk,Le.refl]) (by simp[lk]) (by simp[lk]) (by simp[aA,lk]) (by simp[lk])
 rintro ⟨k,hk⟩
 dsimp only
 simp only[List.cons_append,List.nil_append]
 iterate 2 first|(refine WP.S kL fun _ z=>?_;simp +decide only[TF,↓reduceIte];apply z;clear z)|apply WP.seq
 refine WP.cond rfl (fun q5=>?_) (fun q5=>?_)
 ·have hlt:=aK q5
  have hg:(ls.map fun x=>[D.str x])[k]?=some [.str ls[k]]:=getM hlt
  have hnf:=bH hnl hlt
  have htl:(ls.take k).length=k:=by rw[List.length_take];omega
  have hes:(ls.take (k+1)).map aF=(ls.take k).map aF++[aF ls[k]]:=by rw[List.take_add_one,List.getElem?_eq_getElem hlt,List.map_append];rfl
  iterate 3 first|(apply WP.skip;show WP ..)|apply WP.block|apply WP.seq
  refine WP.R fun _ z=>?_
  simp +decide only[TF,q5,hg,↓reduceIte]
  refine aj.P (jT ls[k] (hls _ (List.getElem_mem hlt))) rfl rfl ?_
  simp +decide only[TF,htl,↓reduceIte]
  refine⟨⟨by simp only[List.length_append,List.length_map,List.length_cons,List.length_nil];omega,by simp only[List.length_append,List.length_map,List.length_cons,List.length_nil];omega⟩,?_⟩
  apply z;clear z
  show WP ..
  refine WP.R fun _ z=>?_;simp +decide only[TF,↓reduceIte];apply z;clear z
  show ∃y,_∧Weak _ _ _
  refine⟨⟨k+1,hlt⟩,?_,?_⟩
  ·dsimp only;omega
  exact Weak.store (by simp[St.get,lk,Le.refl,hes,Hf,-List.map_take,aT hlt (show ls.length≤140737488355328 by omega)]) (by simp[lk,hk]) (by simp[lk,hes,fE,wY,-List.mem_append,-List.mem_map,-List.append_assoc,-List.map_take,-List.map_map]) (by simp[aA,lk]) (by simp[lk])
 have hge:=aN q5
 obtain rfl:k=ls.length:=by omega
 rw[List.take_length]
 apply WP.exit;show WP ..
 refine WP.S kL fun _ z=>?_
 simp +decide only[TF,q5,↓reduceIte]
 refine aj.P (TY (ls.map aF) (ls.map aF).isEmpty [124] (by simp;omega) (fun h=>by simpa using h) hj) rfl rfl ?_
 simp +decide only[TF,↓reduceIte]
 apply z;clear z
 apply WP.ret
 exact Ends.P rfl (Le.of_eq (by simp_all[St.get,W]))
def vk (ls:List (List UInt8))(k:Nat):List D:=((ls.take k).map aF).map D.str++List.replicate (ls.length - k) (D.str [])
theorem T_ (ls:List (List UInt8)){k:Nat}(hk:k≤ls.length):(vk ls k).length=ls.length:=by simp[vk];omega
theorem Ce {S:Nat→Prop}(ls:List (List UInt8))(k:Nat):(∀d∈vk ls k,cZ S d)↔True:=by
 simp only[iff_true,vk,List.mem_append,List.mem_map,List.mem_replicate]
 rintro d (⟨s,_,rfl⟩ | ⟨_,rfl⟩) <;> exact .str _
theorem XC (ls:List (List UInt8)):List.replicate ls.length (D.str [])=vk ls 0:=by simp[vk]
theorem Ua (ls:List (List UInt8)):vk ls ls.length=(ls.map aF).map D.str:=by simp[vk]
theorem Kw {ls:List (List UInt8)}{k:Nat}(hk:k<ls.length):(vk ls k).take k++[D.str (aF ls[k])]++(vk ls k).drop (k+1)=vk ls (k+1):=by
 have hA:(((ls.take k).map aF).map D.str).length=k:=by simp;omega
 have e:(ls.take (k+1)).map aF=(ls.take k).map aF++[aF ls[k]]:=by rw[List.take_add_one,List.getElem?_eq_getElem hk,List.map_append];rfl
 unfold vk
 rw[e,List.take_left' hA,List.drop_append,List.drop_of_length_le (by rw[hA];omega),List.nil_append,hA,List.drop_replicate,List.map_append,show ls.length - k - (k+1 - k)=ls.length - (k+1) by omega]
 rfl
theorem D6 {σ:Nat→Option aU}{b:Nat}{e:TypeId}{ls:List (List UInt8)}(hb:σ b=some (.arr e (ls.map D.str))):G5 σ (.arr b 1 ls.length) (.slice 1 false (ls.map fun x=>[.str x]) none):=by
 have hn:ls.length=(nT ls).length:=by rw[qh]
 show G5 σ (.arr b 1 ls.length) (.slice 1 false (nT ls) none)
 rw[hn]
 refine .arr (rest:=[]) (by rw[hb,List.append_nil,Ot]) (fun x hx=>by obtain⟨s,_,rfl⟩:=List.mem_map.1 hx;rfl) rfl (fun x hx=>by obtain⟨s,_,rfl⟩:=List.mem_map.1 hx;rfl) (by decide) (fun i j x y d d' hx hy hd hd'=>?_)
 rw[hx] at hy;cases hy
 rw[hd] at hd';cases hd'
 obtain⟨s,_,rfl⟩:=List.mem_map.1 (List.mem_of_getElem? hx)
 have:=List.mem_of_getElem? hd
 simp only[List.mem_singleton] at this
 subst this;exact .str _
theorem ahC (ls:List (List UInt8))(nl:Bool)(hn:ls.length≤1099511627776)(hnl:nl=true→ls=[])(hls:∀x∈ls,x.length≤1099511627776)(hj:(Lib.join (ls.map aF) [124]).length≤140737488355328):ak Pr 97 [.slice 1 nl (ls.map fun x=>[.str x]) none] (.str (ng ls)):=by
 refine ak.of_wp Tryz.func97 rfl (by kernel_rfl) Tryz.ntmps97 (by simp) ?_
 simp only[ay]
 refine WP.sr [0] (by kernel_rfl) fun K hK=>?_
 simp +decide only[TF,↓reduceIte]
 refine hK _ _ ?_;clear hK K
 refine WP.seq ?_
 refine WP.sr [0,7] (by kernel_rfl) fun K hK=>?_
 simp +decide only[TF,↓reduceIte]
 refine hK _ _ ?_;clear hK K
 refine WP.cond (b:=_) rfl (fun q1=>?_) (fun q1=>?_)
 ·
  have hX:=abT q1
  refine WP.sr [2] (by kernel_rfl) fun K hK=>?_
  simp +decide only[TF,q1,↓reduceIte]
  refine hK _ _ ?_;clear hK K
  refine WP.ret ?_
  exact Ends.pure (.inr rfl) rfl (Le.of_eq (by simp +decide only[St.get,W,hX,↓reduceIte])) (by simp)
 ·
  have h0:=q1
  have hp:=TW h0
  have hnf:=bH hnl hp
  have hg0:(ls.map fun x=>[D.str x])[0]?=some [.str ls[0]]:=getM hp
  refine WP.skip ?_
  show WP _ _ _ _ _ _
  refine WP.seq ?_
  refine WP.sr [0,16] (by kernel_rfl) fun K hK=>?_
  refine ah.take 4 fun J hJ=>?_
  simp +decide only[TF,q1,hnf,↓reduceIte]
  refine hJ _ _ ?_;clear hJ J
  refine ah.part 11 rfl (fun q2=>?_) (fun q2=>?_)
  ·
   have h1:=q2
   simp +decide only[TF,hg0,q2,↓reduceIte]
   refine hK _ _ ?_;clear hK K
   refine WP.cond (b:=_) rfl (fun q3=>?_) (fun q3=>?_)
   ·
    have hX:=abU hp h1 q3
    refine WP.sr [2] (by kernel_rfl) fun K hK=>?_
    simp +decide only[TF,q3,↓reduceIte]
    refine hK _ _ ?_;clear hK K
    refine WP.ret ?_
    exact Ends.pure (.inr rfl) rfl (Le.of_eq (by simp +decide only[St.get,W,hX,↓reduceIte])) (by simp)
   ·
    have hX:=abW h0 hp q3
    refine WP.skip ?_
    show WP _ _ _ _ _ _
    refine WP.seq ?_
    refine WP.WO 2 (by kernel_rfl) rfl rfl rfl fun K hK=>?_
    simp +decide only[TF,q3,↓reduceIte]
    refine hK _ _ ?_;clear hK K
    refine⟨9,1,16,ls.length,0,[.str []],.i64,.i64,uD,uF,x9,rfl,rfl,rfl,by omega,by omega,rfl,fun K hK=>?_⟩
    ·
     simp +decide only[TF,↓reduceIte]
     refine hK _ _ ?_;clear hK K
     show WP _ _ _ _ _ _
     refine WP.seq ?_
     refine WP.sr [0,3,21,22] (by kernel_rfl) fun K hK=>?_
     simp +decide only[TF,↓reduceIte]
     refine hK _ _ ?_;clear hK K
     refine WP.block ?_
     refine WP.lp [0,3,21] (X:={k:Nat // k≤ls.length}) (fun x=>match x with| ⟨(k),_⟩=>[(22,.int .i64 k)]) (fun x=>match x with| ⟨(k),_⟩=>[(0,.arr 9 (vk ls k))]) (fun x=>match x with| ⟨(k),_⟩=>ls.length - k) (by simp +decide only[W,↓reduceIte];rfl) ?_ ⟨(0),Nat.zero_le _⟩ ?_
     rotate_left
     · exact Weak.store (by simp[St.get,lk,W,Le.refl]) (by simp[lk,XC]) (by simp[lk]) (by simp[aA,lk,Ce]) (by simp[lk])
     rintro ⟨k,hk⟩
     dsimp only
     simp only[List.cons_append,List.nil_append]
     refine WP.sr [0,3,21,22,23] (by kernel_rfl) fun K hK=>?_
     simp +decide only[TF,↓reduceIte]
     refine hK _ _ ?_;clear hK K
     refine WP.seq ?_
     refine WP.cond (b:=_) rfl (fun q4=>?_) (fun q4=>?_)
     ·
      have hlt:=aK q4
      have hg:(ls.map fun x=>[D.str x])[k]?=some [.str ls[k]]:=getM hlt
      have hnf:=bH hnl hlt
      have hmx:=Kw hlt
      have hk1:(k<ls.length)=True:=eq_true hlt
      have hL:(k+1≤(vk ls k).length)=True:=eq_true (by rw[T_ _ hk];exact hlt)
      refine WP.skip ?_
      show WP _ _ _ _ _ _
      refine WP.seq ?_
      refine WP.block ?_
      refine WP.sr [0,3,4,21,22] (by kernel_rfl) fun K hK=>?_
      simp +decide only[TF,q4,↓reduceIte]
      refine hK _ _ ?_;clear hK K
      refine WP.region (by kernel_rfl) fun K hK=>?_
      simp +decide only[TF,hg,↓reduceIte]
      refine aj.pure (qo ls[k] (hls _ (List.getElem_mem hlt))) rfl rfl (by simp[-List.map_take]) ?_
      simp +decide only[TF,hmx,hk1,hL,Nat.mul_one,↓reduceIte]
      refine hK _ _ ?_;clear hK K
      show WP _ _ _ _ _ _
      refine WP.region (by kernel_rfl) fun K hK=>?_
      simp +decide only[TF,↓reduceIte]
      refine hK _ _ ?_;clear hK K
      show ∃y,_∧Weak _ _ _
      refine⟨⟨k+1,hlt⟩,?_,?_⟩
      · dsimp only;omega
      · exact Weak.store (by simp[St.get,lk,Le.refl,aT hlt (show ls.length≤140737488355328 by omega)]) (by simp[lk]) (by simp[lk]) (by simp[aA,lk,Ce]) (by simp[lk])
     ·
      have hge:=aN q4
      obtain rfl:k=ls.length:=by omega
      refine WP.weak (st':=⟨[(3,.slice 1 false ((ls.map aF).map fun x=>[.str x]) none)],[]⟩) (Weak.thaw rfl (by simp only[List.mem_singleton,forall_eq];have:=D6 (σ:=lk [(0,aU.arr 9 (vk ls ls.length))]) (b:=0) (e:=9) (ls:=ls.map aF) (by simp[lk,Ua]);rw[List.length_map] at this;exact this)) ?_
      refine WP.exit ?_
      show WP _ _ _ _ _ _
      refine WP.sr [2] (by kernel_rfl) fun K hK=>?_
      simp +decide only[TF,↓reduceIte]
      refine aj.pure (RY (ls.map aF) false [124] (by simp;omega) hj) rfl rfl (by simp[-List.map_take]) ?_
      simp +decide only[TF,↓reduceIte]
      refine hK _ _ ?_;clear hK K
      refine WP.ret ?_
      exact Ends.pure (.inr rfl) rfl (Le.of_eq (by simp_all[St.get,W])) (by simp)
  ·
   have hX:=abV h0 q2
   simp +decide only[TF,q2,↓reduceIte]
   refine hK _ _ ?_;clear hK K
   refine WP.cond (b:=false) (by rfl) nofun (fun _=>?_)
   refine WP.skip ?_
   show WP _ _ _ _ _ _
   refine WP.seq ?_
   refine WP.WO 2 (by kernel_rfl) rfl rfl rfl fun K hK=>?_
   simp +decide only[TF,↓reduceIte]
   refine hK _ _ ?_;clear hK K
   refine⟨9,1,16,ls.length,0,[.str []],.i64,.i64,uD,uF,x9,rfl,rfl,rfl,by omega,by omega,rfl,fun K hK=>?_⟩
   ·
    simp +decide only[TF,↓reduceIte]
    refine hK _ _ ?_;clear hK K
    show WP _ _ _ _ _ _
    refine WP.seq ?_
    refine WP.sr [0,3,21,22] (by kernel_rfl) fun K hK=>?_
    simp +decide only[TF,↓reduceIte]
    refine hK _ _ ?_;clear hK K
    refine WP.block ?_
    refine WP.lp [0,3,21] (X:={k:Nat // k≤ls.length}) (fun x=>match x with| ⟨(k),_⟩=>[(22,.int .i64 k)]) (fun x=>match x with| ⟨(k),_⟩=>[(0,.arr 9 (vk ls k))]) (fun x=>match x with| ⟨(k),_⟩=>ls.length - k) (by simp +decide only[W,↓reduceIte];rfl) ?_ ⟨(0),Nat.zero_le _⟩ ?_
    rotate_left
    · exact Weak.store (by simp[St.get,lk,W,Le.refl]) (by simp[lk,XC]) (by simp[lk]) (by simp[aA,lk,Ce]) (by simp[lk])
    rintro ⟨k,hk⟩
    dsimp only
    simp only[List.cons_append,List.nil_append]
    refine WP.sr [0,3,21,22,23] (by kernel_rfl) fun K hK=>?_
    simp +decide only[TF,↓reduceIte]
    refine hK _ _ ?_;clear hK K
    refine WP.seq ?_
    refine WP.cond (b:=_) rfl (fun q5=>?_) (fun q5=>?_)
    ·
     have hlt:=aK q5
     have hg:(ls.map fun x=>[D.str x])[k]?=some [.str ls[k]]:=getM hlt
     have hnf:=bH hnl hlt
     have hmx:=Kw hlt
     have hk1:(k<ls.length)=True:=eq_true hlt
     have hL:(k+1≤(vk ls k).length)=True:=eq_true (by rw[T_ _ hk];exact hlt)
     refine WP.skip ?_
     show WP _ _ _ _ _ _
     refine WP.seq ?_
     refine WP.block ?_
     refine WP.sr [0,3,4,21,22] (by kernel_rfl) fun K hK=>?_
     simp +decide only[TF,q5,↓reduceIte]
     refine hK _ _ ?_;clear hK K
     refine WP.region (by kernel_rfl) fun K hK=>?_
     simp +decide only[TF,hg,↓reduceIte]
     refine aj.pure (qo ls[k] (hls _ (List.getElem_mem hlt))) rfl rfl (by simp[-List.map_take]) ?_
     simp +decide only[TF,hmx,hk1,hL,Nat.mul_one,↓reduceIte]
     refine hK _ _ ?_;clear hK K
     show WP _ _ _ _ _ _
     refine WP.region (by kernel_rfl) fun K hK=>?_
     simp +decide only[TF,↓reduceIte]
     refine hK _ _ ?_;clear hK K
     show ∃y,_∧Weak _ _ _
     refine⟨⟨k+1,hlt⟩,?_,?_⟩
     · dsimp only;omega
     · exact Weak.store (by simp[St.get,lk,Le.refl,aT hlt (show ls.length≤140737488355328 by omega)]) (by simp[lk]) (by simp[lk]) (by simp[aA,lk,Ce]) (by simp[lk])
    ·
     have hge:=aN q5
     obtain rfl:k=ls.length:=by omega
     refine WP.weak (st':=⟨[(3,.slice 1 false ((ls.map aF).map fun x=>[.str x]) none)],[]⟩) (Weak.thaw rfl (by simp only[List.mem_singleton,forall_eq];have:=D6 (σ:=lk [(0,aU.arr 9 (vk ls ls.length))]) (b:=0) (e:=9) (ls:=ls.map aF) (by simp[lk,Ua]);rw[List.length_map] at this;exact this)) ?_
     refine WP.exit ?_
     show WP _ _ _ _ _ _
     refine WP.sr [2] (by kernel_rfl) fun K hK=>?_
     simp +decide only[TF,↓reduceIte]
     refine aj.pure (RY (ls.map aF) false [124] (by simp;omega) hj) rfl rfl (by simp[-List.map_take]) ?_
     simp +decide only[TF,↓reduceIte]
     refine hK _ _ ?_;clear hK K
     refine WP.ret ?_
     exact Ends.pure (.inr rfl) rfl (Le.of_eq (by simp_all[St.get,W])) (by simp)
structure As where
 id:List UInt8
 iP:List UInt8
 jI:List UInt8
 sub:List UInt8
 req:List UInt8
 jd:Int
 fG:Int
 lvl:Int
 nl:Bool
 ats:List At
def As.cs (a:As):List D:=[.str a.id,.str a.iP,.str a.jI,.str a.sub,.str a.req,.int .i64 a.jd,.int .i64 a.fG,.int .i64 a.lvl,.slice 2 a.nl (a.ats.map At.cs) none]
def iL (n:Int):Prop:=-9223372036854775808≤n∧n≤9223372036854775807
def As.ok (a:As):Prop:=(a.id.length≤1099511627776∧a.iP.length≤1099511627776∧a.jI.length≤1099511627776∧a.sub.length≤1099511627776∧a.req.length≤1099511627776)∧(iL a.jd∧iL a.fG∧iL a.lvl)∧a.ats.length≤1099511627776∧(a.nl=true→a.ats=[])∧∀x∈a.ats,x.ok
def bC (a:As):Int:=
 if (!(aX a.id) || !(aX a.iP) || !(aX a.jI) || !(aX a.req) || !(bK a.sub))=true then 5
 else if (decide (a.jd<0) || decide (a.jd≥a.fG) || decide (a.fG>1099511627776))=true then 2
 else if (decide (a.lvl<0) || decide (a.lvl>3))=true then 27 else eF a.ats
@[simp] theorem alH {S:Nat→Prop}(a:As):(∀d∈a.cs,cZ S d)↔True:=by
 simp only[iff_true]
 intro d hd
 simp only[As.cs,List.mem_cons,List.not_mem_nil,or_false] at hd
 rcases hd with rfl|rfl|rfl|rfl|rfl|rfl|rfl|rfl|rfl
 any_goals first|exact .str _|exact .int _ _
 exact .slice ((aO _).2 trivial) (by simp)
abbrev eG:List Nat:=[1,2,30,45,53]
theorem zX (a:As)(ha:a.ok):ak Pr 15 [.agg [.str a.id,.str a.iP,.str a.jI,.str a.sub,.str a.req,.int .i64 a.jd,.int .i64 a.fG,.int .i64 a.lvl,.slice 2 a.nl (a.ats.map At.cs) none]] (.int .i64 (bC a)):=by
 obtain⟨⟨h1,h2,h3,h4,h5⟩,⟨h6,h7,h8⟩,h9,h10,h11⟩:=ha
 refine ak.W Tryz.func15 Tryz.ntmps15 ?_
 simp only[ay]
 iterate 2 first|(refine WP.S eG fun _ z=>?_;simp +decide only[TF,↓reduceIte];apply z;clear z)|apply WP.seq
 refine WP.S eG fun _ z=>?_
 simp +decide only[TF,↓reduceIte]
 refine aj.P (jC a.id (by omega)) rfl rfl ?_
 refine ah.take 2 fun J hJ=>?_
 simp +decide only[TF,↓reduceIte]
 refine hJ _ _ ?_;clear hJ J
 refine ah.part 7 rfl (fun q1=>?_) (fun q1=>?_)
 ·simp only[Bool.not_eq_true'] at q1
  simp +decide only[TF,q1,↓reduceIte]
  apply z;clear z
  iterate 2 first|(refine WP.S eG fun _ z=>?_;simp +decide only[TF,↓reduceIte];apply z;clear z)|refine WP.cT ?_
  apply WP.ret
  exact Ends.P rfl (Le.of_eq (by simp +decide only[St.get,W,bC,q1,↓reduceIte]))
 simp only[Bool.not_eq_false'] at q1
 simp +decide only[TF,q1,↓reduceIte]
 refine aj.P (jC a.iP (by omega)) rfl rfl ?_
 refine ah.take 3 fun J hJ=>?_
 simp +decide only[TF,↓reduceIte]
 refine hJ _ _ ?_;clear hJ J
 refine ah.part 13 rfl (fun q2=>?_) (fun q2=>?_)
 ·simp +decide only[TF,q2,↓reduceIte]
  apply z;clear z
  iterate 2 first|(refine WP.S eG fun _ z=>?_;simp +decide only[TF,↓reduceIte];apply z;clear z)|refine WP.cT ?_
  apply WP.ret
  exact Ends.P rfl (Le.of_eq (by simp +decide only[St.get,W,bC,q1,q2,↓reduceIte]))
 simp +decide only[TF,q2,↓reduceIte]
 refine aj.P (jC a.jI (by omega)) rfl rfl ?_
 refine ah.take 3 fun J hJ=>?_
 simp +decide only[TF,↓reduceIte]
 refine hJ _ _ ?_;clear hJ J
 refine ah.part 19 rfl (fun q3=>?_) (fun q3=>?_)
 ·simp +decide only[TF,q3,↓reduceIte]
  apply z;clear z
  iterate 2 first|(refine WP.S eG fun _ z=>?_;simp +decide only[TF,↓reduceIte];apply z;clear z)|refine WP.cT ?_
  apply WP.ret
  exact Ends.P rfl (Le.of_eq (by simp +decide only[St.get,W,bC,q1,q2,q3,↓reduceIte]))
 simp +decide only[TF,q3,↓reduceIte]
 refine aj.P (jC a.req (by omega)) rfl rfl ?_
 refine ah.take 3 fun J hJ=>?_
 simp +decide only[TF,↓reduceIte]
 refine hJ _ _ ?_;clear hJ J
 refine ah.part 25 rfl (fun q4=>?_) (fun q4=>?_)
 ·simp +decide only[TF,q4,↓reduceIte]
  apply z;clear z
  iterate 2 first|(refine WP.S eG fun _ z=>?_;simp +decide only[TF,↓reduceIte];apply z;clear z)|refine WP.cT ?_
  apply WP.ret
  exact Ends.P rfl (Le.of_eq (by simp +decide only[St.get,W,bC,q1,q2,q3,q4,↓reduceIte]))
 simp +decide only[TF,q4,↓reduceIte]
 refine aj.P (TB a.sub (by omega)) rfl rfl ?_
 simp +decide only[TF,↓reduceIte]
 apply z;clear z
 refine WP.cond rfl (fun q5=>?_) (fun q5=>?_)
 ·refine WP.S eG fun _ z=>?_;simp +decide only[TF,q5,↓reduceIte];apply z;clear z
  apply WP.ret
  exact Ends.P rfl (Le.of_eq (by simp +decide only[St.get,W,bC,q1,q2,q3,q4,q5,↓reduceIte]))
 iterate 2 first|(apply WP.skip;show WP ..)|apply WP.seq
 refine WP.S eG fun _ z=>?_
 refine ah.take 4 fun J hJ=>?_
 simp +decide only[TF,q5,↓reduceIte]
 refine hJ _ _ ?_;clear hJ J
 refine ah.part 34 rfl (fun q6=>?_) (fun q6=>?_)
 ·simp +decide only[TF,q6,↓reduceIte]
  apply z;clear z
  iterate 2 first|(refine WP.S eG fun _ z=>?_;simp +decide only[TF,↓reduceIte];apply z;clear z)|refine WP.cT ?_
  apply WP.ret
  exact Ends.P rfl (Le.of_eq (by simp +decide only[St.get,W,bC,q1,q2,q3,q4,q5,q6,↓reduceIte]))
 refine ah.take 7 fun J hJ=>?_
 simp +decide only[TF,q6,↓reduceIte]
 refine hJ _ _ ?_;clear hJ J
 refine ah.part 41 rfl (fun q7=>?_) (fun q7=>?_)
 ·simp +decide only[TF,q7,↓reduceIte]
  apply z;clear z
  iterate 2 first|(refine WP.S eG fun _ z=>?_;simp +decide only[TF,↓reduceIte];apply z;clear z)|refine WP.cT ?_
  apply WP.ret
  exact Ends.P rfl (Le.of_eq (by simp +decide only[St.get,W,bC,q1,q2,q3,q4,q5,q6,q7,↓reduceIte]))
 simp +decide only[TF,q7,↓reduceIte]
 apply z;clear z
 refine WP.cond rfl (fun q8=>?_) (fun q8=>?_)
 ·refine WP.S eG fun _ z=>?_;simp +decide only[TF,q8,↓reduceIte];apply z;clear z
  apply WP.ret
  exact Ends.P rfl (Le.of_eq (by simp +decide only[St.get,W,bC,q1,q2,q3,q4,q5,q6,q7,q8,↓reduceIte]))
 iterate 2 first|(apply WP.skip;show WP ..)|apply WP.seq
 refine WP.S eG fun _ z=>?_
 refine ah.take 4 fun J hJ=>?_
 simp +decide only[TF,q8,↓reduceIte]
 refine hJ _ _ ?_;clear hJ J
 refine ah.part 49 rfl (fun q9=>?_) (fun q9=>?_)
 ·simp +decide only[TF,q9,↓reduceIte]
  apply z;clear z
  iterate 2 first|(refine WP.S eG fun _ z=>?_;simp +decide only[TF,↓reduceIte];apply z;clear z)|refine WP.cT ?_
  apply WP.ret
  exact Ends.P rfl (Le.of_eq (by simp +decide only[St.get,W,bC,q1,q2,q3,q4,q5,q6,q7,q8,q9,↓reduceIte]))
 simp +decide only[TF,q9,↓reduceIte]
 apply z;clear z
 refine WP.cond rfl (fun q10=>?_) (fun q10=>?_)
 ·refine WP.S eG fun _ z=>?_;simp +decide only[TF,q10,↓reduceIte];apply z;clear z
  apply WP.ret
  exact Ends.P rfl (Le.of_eq (by simp +decide only[St.get,W,bC,q1,q2,q3,q4,q5,q6,q7,q8,q9,q10,↓reduceIte]))
 apply WP.skip;show WP ..
 refine WP.S eG fun _ z=>?_
 simp +decide only[TF,q10,↓reduceIte]
 refine aj.P (VG a.ats a.nl h9 h10 h11) rfl rfl ?_
 simp +decide only[TF,↓reduceIte]
 apply z;clear z
 apply WP.ret
 exact Ends.P rfl (Le.of_eq (by simp +decide only[St.get,W,bC,q1,q2,q3,q4,q5,q6,q7,q8,q9,q10,↓reduceIte]))
abbrev dB:List Nat:=[1,2,30,45,53]
theorem Ci (a:As)(ha:a.ok):ak Pr 16 [.agg [.str a.id,.str a.iP,.str a.jI,.str a.sub,.str a.req,.int .i64 a.jd,.int .i64 a.fG,.int .i64 a.lvl,.slice 2 a.nl (a.ats.map At.cs) none]] (.int .i64 (bC a)):=by
 obtain⟨⟨h1,h2,h3,h4,h5⟩,⟨h6,h7,h8⟩,h9,h10,h11⟩:=ha
 refine ak.W Tryz.func16 Tryz.ntmps16 ?_
 simp only[ay]
 iterate 2 first|(refine WP.S dB fun _ z=>?_;simp +decide only[TF,↓reduceIte];apply z;clear z)|apply WP.seq
 refine WP.S dB fun _ z=>?_
 simp +decide only[TF,↓reduceIte]
 refine aj.P (wL a.id (by omega)) rfl rfl ?_
 refine ah.take 2 fun J hJ=>?_
 simp +decide only[TF,↓reduceIte]
 refine hJ _ _ ?_;clear hJ J
 refine ah.part 7 rfl (fun q1=>?_) (fun q1=>?_)
 ·simp only[Bool.not_eq_true'] at q1
  simp +decide only[TF,q1,↓reduceIte]
  apply z;clear z
  iterate 2 first|(refine WP.S dB fun _ z=>?_;simp +decide only[TF,↓reduceIte];apply z;clear z)|refine WP.cT ?_
  apply WP.ret
  exact Ends.P rfl (Le.of_eq (by simp +decide only[St.get,W,bC,q1,↓reduceIte]))
 simp only[Bool.not_eq_false'] at q1
 simp +decide only[TF,q1,↓reduceIte]
 refine aj.P (wL a.iP (by omega)) rfl rfl ?_
 refine ah.take 3 fun J hJ=>?_
 simp +decide only[TF,↓reduceIte]
 refine hJ _ _ ?_;clear hJ J
 refine ah.part 13 rfl (fun q2=>?_) (fun q2=>?_)
 ·simp +decide only[TF,q2,↓reduceIte]
  apply z;clear z
  iterate 2 first|(refine WP.S dB fun _ z=>?_;simp +decide only[TF,↓reduceIte];apply z;clear z)|refine WP.cT ?_
  apply WP.ret
  exact Ends.P rfl (Le.of_eq (by simp +decide only[St.get,W,bC,q1,q2,↓reduceIte]))
 simp +decide only[TF,q2,↓reduceIte]
 refine aj.P (wL a.jI (by omega)) rfl rfl ?_
 refine ah.take 3 fun J hJ=>?_
 simp +decide only[TF,↓reduceIte]
 refine hJ _ _ ?_;clear hJ J
 refine ah.part 19 rfl (fun q3=>?_) (fun q3=>?_)
 ·simp +decide only[TF,q3,↓reduceIte]
  apply z;clear z
  iterate 2 first|(refine WP.S dB fun _ z=>?_;simp +decide only[TF,↓reduceIte];apply z;clear z)|refine WP.cT ?_
  apply WP.ret
  exact Ends.P rfl (Le.of_eq (by simp +decide only[St.get,W,bC,q1,q2,q3,↓reduceIte]))
 simp +decide only[TF,q3,↓reduceIte]
 refine aj.P (wL a.req (by omega)) rfl rfl ?_
 refine ah.take 3 fun J hJ=>?_
 simp +decide only[TF,↓reduceIte]
 refine hJ _ _ ?_;clear hJ J
 refine ah.part 25 rfl (fun q4=>?_) (fun q4=>?_)
 ·simp +decide only[TF,q4,↓reduceIte]
  apply z;clear z
  iterate 2 first|(refine WP.S dB fun _ z=>?_;simp +decide only[TF,↓reduceIte];apply z;clear z)|refine WP.cT ?_
  apply WP.ret
  exact Ends.P rfl (Le.of_eq (by simp +decide only[St.get,W,bC,q1,q2,q3,q4,↓reduceIte]))
 simp +decide only[TF,q4,↓reduceIte]
 refine aj.P (DF a.sub (by omega)) rfl rfl ?_
 simp +decide only[TF,↓reduceIte]
 apply z;clear z
 refine WP.cond rfl (fun q5=>?_) (fun q5=>?_)
 ·refine WP.S dB fun _ z=>?_;simp +decide only[TF,q5,↓reduceIte];apply z;clear z
  apply WP.ret
  exact Ends.P rfl (Le.of_eq (by simp +decide only[St.get,W,bC,q1,q2,q3,q4,q5,↓reduceIte]))
 iterate 2 first|(apply WP.skip;show WP ..)|apply WP.seq
 refine WP.S dB fun _ z=>?_
 refine ah.take 4 fun J hJ=>?_
 simp +decide only[TF,q5,↓reduceIte]
 refine hJ _ _ ?_;clear hJ J
 refine ah.part 34 rfl (fun q6=>?_) (fun q6=>?_)
 ·simp +decide only[TF,q6,↓reduceIte]
  apply z;clear z
  iterate 2 first|(refine WP.S dB fun _ z=>?_;simp +decide only[TF,↓reduceIte];apply z;clear z)|refine WP.cT ?_
  apply WP.ret
  exact Ends.P rfl (Le.of_eq (by simp +decide only[St.get,W,bC,q1,q2,q3,q4,q5,q6,↓reduceIte]))
 refine ah.take 7 fun J hJ=>?_
 simp +decide only[TF,q6,↓reduceIte]
 refine hJ _ _ ?_;clear hJ J
 refine ah.part 41 rfl (fun q7=>?_) (fun q7=>?_)
 ·simp +decide only[TF,q7,↓reduceIte]
  apply z;clear z
  iterate 2 first|(refine WP.S dB fun _ z=>?_;simp +decide only[TF,↓reduceIte];apply z;clear z)|refine WP.cT ?_
  apply WP.ret
  exact Ends.P rfl (Le.of_eq (by simp +decide only[St.get,W,bC,q1,q2,q3,q4,q5,q6,q7,↓reduceIte]))
 simp +decide only[TF,q7,↓reduceIte]
 apply z;clear z
 refine WP.cond rfl (fun q8=>?_) (fun q8=>?_)
 ·refine WP.S dB fun _ z=>?_;simp +decide only[TF,q8,↓reduceIte];apply z;clear z
  apply WP.ret
  exact Ends.P rfl (Le.of_eq (by simp +decide only[St.get,W,bC,q1,q2,q3,q4,q5,q6,q7,q8,↓reduceIte]))
 iterate 2 first|(apply WP.skip;show WP ..)|apply WP.seq
 refine WP.S dB fun _ z=>?_
 refine ah.take 4 fun J hJ=>?_
 simp +decide only[TF,q8,↓reduceIte]
 refine hJ _ _ ?_;clear hJ J
 refine ah.part 49 rfl (fun q9=>?_) (fun q9=>?_)
 ·simp +decide only[TF,q9,↓reduceIte]
  apply z;clear z
  iterate 2 first|(refine WP.S dB fun _ z=>?_;simp +decide only[TF,↓reduceIte];apply z;clear z)|refine WP.cT ?_
  apply WP.ret
  exact Ends.P rfl (Le.of_eq (by simp +decide only[St.get,W,bC,q1,q2,q3,q4,q5,q6,q7,q8,q9,↓reduceIte]))
 simp +decide only[TF,q9,↓reduceIte]
 apply z;clear z
 refine WP.cond rfl (fun q10=>?_) (fun q10=>?_)
 ·refine WP.S dB fun _ z=>?_;simp +decide only[TF,q10,↓reduceIte];apply z;clear z
  apply WP.ret
  exact Ends.P rfl (Le.of_eq (by simp +decide only[St.get,W,bC,q1,q2,q3,q4,q5,q6,q7,q8,q9,q10,↓reduceIte]))
 apply WP.skip;show WP ..
 refine WP.S dB fun _ z=>?_
 simp +decide only[TF,q10,↓reduceIte]
 refine aj.P (Qd a.ats a.nl h9 h10 h11) rfl rfl ?_
 simp +decide only[TF,↓reduceIte]
 apply z;clear z
 apply WP.ret
 exact Ends.P rfl (Le.of_eq (by simp +decide only[St.get,W,bC,q1,q2,q3,q4,q5,q6,q7,q8,q9,q10,↓reduceIte]))
theorem Ky:∀(pre l:List (List UInt8)),uO pre l=0→∀v∈l,bK v=true
 |pre,[],_,v,hv=>by simp at hv
 |pre,x::l,h,v,hv=>by
  simp only[uO] at h
  split at h
  ·cases h
  split at h
  ·cases h
  rename_i h1 h2
  rcases List.mem_cons.1 hv with rfl|hv
  ·simpa using h1
  ·exact Ky _ l h v hv
theorem Ov:∀(pre l:List At),yP pre l=0→∀a∈l,nameB a.name=true∧∀v∈a.vals,bK v=true
 |pre,[],_,a,ha=>by simp at ha
 |pre,x::l,h,a,ha=>by
  simp only[yP] at h
  split at h
  ·rename_i h1;exact absurd h h1
  rename_i h1
  rcases List.mem_cons.1 ha with rfl|ha
  ·have h2:=Decidable.not_not.1 h1
   unfold atE at h2
   split at h2
   ·cases h2
   split at h2
   ·cases h2
   split at h2
   ·cases h2
   split at h2
   ·cases h2
   rename_i q1 q2 q3 q4
   exact⟨by simpa using q1,Ky [] _ h2⟩
  ·exact Ov _ l h a ha
theorem GH {l:List At}(h:eF l=0):∀a∈l,nameB a.name=true∧∀v∈a.vals,bK v=true:=by
 unfold eF at h
 split at h
 ·cases h
 exact Ov [] l h
theorem fO {a:As}(h:bC a=0):(aX a.id=true∧aX a.iP=true∧aX a.jI=true∧aX a.req=true∧bK a.sub=true)∧(0≤a.jd∧a.jd<a.fG∧a.fG≤1099511627776)∧(0≤a.lvl∧a.lvl≤3)∧eF a.ats=0:=by
 unfold bC at h
 split at h
 ·cases h
 split at h
 ·cases h
 split at h
 ·cases h
 rename_i h1 h2 h3
 simp only[Bool.or_eq_true,Bool.not_eq_true',not_or,Bool.not_eq_false,decide_eq_true_eq] at h1 h2 h3
 obtain⟨⟨⟨⟨q1,q2⟩,q3⟩,q4⟩,q5⟩:=h1
 exact⟨⟨q1,q2,q3,q4,q5⟩,by omega,by omega,h⟩
def bU (k v:List UInt8):List UInt8:=k++[61]++v++[10]
def lT:List UInt8:=[105,100]
def fP:List UInt8:=[105,115,115,117,101,114]
def gQ:List UInt8:=[97,117,100,105,101,110,99,101]
def iJ:List UInt8:=[115,117,98,106,101,99,116]
def jk:List UInt8:=[114,101,113,117,101,115,116]
def jO:List UInt8:=[105,115,115,117,101,100]
def kY:List UInt8:=[117,110,116,105,108]
def oz:List UInt8:=[108,101,118,101,108]
def kZ:List UInt8:=[97,116,116,114]
def lI (a:As):List UInt8:=bU lT (aF a.id)++bU fP (aF a.iP)++bU gQ (aF a.jI)++bU iJ (aF a.sub)++bU jk (aF a.req)++bU jO (Lib.itoa a.jd)++bU kY (Lib.itoa a.fG)++bU oz (Lib.itoa a.lvl)
def Hg (x:At):List UInt8:=bU kZ (ng (x.name::x.vals))
def jX (a:As)(k:Nat):List UInt8:=lI a++(((iI a.ats).take k).map Hg).flatten
def h_ (a:As):List UInt8:=lI a++((iI a.ats).map Hg).flatten
theorem Kz (a:As):jX a 0=lI a:=by simp[jX]
theorem uS (a:As):jX a (iI a.ats).length=h_ a:=by simp[jX,h_]
theorem xB (a:As){k:Nat}(hk:k<(iI a.ats).length):jX a (k+1)=jX a k++Hg (iI a.ats)[k]:=by
 unfold jX
 rw[List.take_add_one,List.getElem?_eq_getElem hk,List.map_append,List.flatten_append];simp[-List.map_take]
theorem fZ (k v:List UInt8):(bU k v).length=k.length+v.length+2:=by simp[bU];omega
theorem VO {ls:List (List UInt8)}{t:List UInt8}{n:Nat}(h:∀x∈ls,x.length≤n):(Lib.join ls t).length≤ls.length * (n+t.length):=by
 induction ls with
 |nil=>simp[Lib.join_nil]
 |cons a l ih=>
  have h1:=ih fun x hx=>h x (by simp[hx])
  have ha:=h a (by simp)
  cases l with
  |nil=>rw[Lib.join_one];simp;omega
  |cons b l=>
   have:=D5 t [a] (b::l) (by simp) (by simp)
   rw[List.singleton_append] at this
   rw[this,Lib.join_one]
   simp only[List.length_append,List.length_cons] at h1 ⊢
   rw[Nat.succ_mul];omega
theorem oC {l:List At}(hc:eF l=0){x:At}(hx:x∈iI l):x.name.length≤256∧x.nl=false∧x.vals≠[]∧x.vals.length≤16∧∀v∈x.vals,v.length≤256:=by
 obtain⟨a,ha,rfl⟩:=List.mem_map.1 ((tV l).mem_iff.1 hx)
 obtain⟨q1,q2⟩:=GH hc a ha
 have hk:=xw hc
 refine⟨?_,rfl,?_,?_,fun v hv=>DR (q2 v ((sZ _ _).1 hv))⟩
 ·show (bg a.name).length≤256
  rw[tC]
  have:=q1
  simp only[nameB,mM,Bool.and_eq_true,decide_eq_true_eq] at this
  omega
 ·intro e
  have:=dL a.vals
  rw[show bT a.vals=[] from e] at this
  exact hk.val a ha (List.length_eq_zero_iff.1 this.symm)
 ·show (bT a.vals).length≤16
  rw[dL];exact hk.v16 a ha
theorem aeQ {ls:List (List UInt8)}(h:∀x∈ls,x.length≤256):∀x∈ls.map aF,x.length≤768:=by
 intro x hx
 obtain⟨y,hy,rfl⟩:=List.mem_map.1 hx
 have:=nZ y
 have:=h y hy
 omega
theorem KA {ls:List (List UInt8)}(h:∀x∈ls,x.length≤256):(Lib.join (ls.map aF) [124]).length≤ls.length * 769:=by
 have:=VO (t:=[124]) (aeQ h)
 simpa using this
theorem abY {ls:List (List UInt8)}(h:∀x∈ls,x.length≤256):(ng ls).length≤ls.length * 769+3:=by
 unfold ng
 split
 ·simp
 split
 ·simp
 ·have:=KA h;omega
theorem KC {l:List At}(hc:eF l=0){x:At}(hx:x∈iI l):∀s∈x.name::x.vals,s.length≤256:=by
 obtain⟨h1,_,_,_,h5⟩:=oC hc hx
 intro s hs
 rcases List.mem_cons.1 hs with rfl|hs
 ·exact h1
 ·exact h5 s hs
theorem KD {l:List At}(hc:eF l=0){x:At}(hx:x∈iI l):(Hg x).length≤14000:=by
 obtain⟨h1,_,_,h4,h5⟩:=oC hc hx
 have:=abY (KC hc hx)
 unfold Hg
 rw[fZ]
 simp only[List.length_cons] at this
 have hk:kZ.length=4:=rfl
 omega
theorem jm {a:As}(hc:bC a=0):(lI a).length≤3000:=by
 obtain⟨⟨q1,q2,q3,q4,q5⟩,⟨q6,q7,q8⟩,⟨q9,q10⟩,_⟩:=fO hc
 have a1:=nJ q1;have a2:=nJ q2;have a3:=nJ q3;have a4:=nJ q4;have a5:=DR q5
 have b1:=nZ a.id;have b2:=nZ a.iP;have b3:=nZ a.jI;have b4:=nZ a.req;have b5:=nZ a.sub
 have c1:=BI (n:=a.jd) ⟨q6,by omega⟩;have c2:=BI (n:=a.fG) ⟨by omega,q8⟩;have c3:=BI (n:=a.lvl) ⟨q9,by omega⟩
 simp only[lI,List.length_append,fZ,lT,fP,gQ,iJ,jk,jO,kY,oz,List.length_cons,List.length_nil]
 omega
theorem KE {a:As}(hc:bC a=0)(k:Nat):(jX a k).length≤3000+k * 14000:=by
 induction k with
 |zero=>rw[Kz];have:=jm hc;omega
 |succ k ih=>
  rcases Nat.lt_or_ge k (iI a.ats).length with hk|hk
  ·rw[xB a hk,List.length_append]
   have:=KD (fO hc).2.2.2 (List.getElem_mem hk)
   omega
  ·have:jX a (k+1)=jX a k:=by
    unfold jX
    rw[List.take_of_length_le hk,List.take_of_length_le (by omega)]
   have h2:=congrArg List.length this
   omega
theorem aeR (l m:List UInt8):(l++m).isEmpty=(l.isEmpty && m.isEmpty):=by cases l <;> simp
theorem aeS (a:Bool)(l k v:List UInt8)(hl:l.length+(bU k v).length≤140737488355328):aG Pr 92 [.str k,.str v,.ref 0 0] [(0,.box 144 [lQ a 0,.slice 1 l.isEmpty (eY l) (some 1)]),(1,.aS 5 1 l.length)] (.aJ []) [(0,.box 144 [.ref 0 0,.slice 1 (l++bU k v).isEmpty (eY (l++bU k v)) (some 1)]),(1,.aS 5 1 (l++bU k v).length)]:=by
 have hll:=fZ k v
 refine aG.of_wp Tryz.func92 rfl (by kernel_rfl) Tryz.ntmps92 (by simp) ?_
 simp only[ay,Nat.reduceAdd,Nat.zero_add,List.map_cons,List.map_nil]
 refine WP.R fun _ z=>?_
 simp +decide only[TF,↓reduceIte]
 refine⟨by first|omega|(simp only[List.length_append,List.length_cons,List.length_nil];omega),by simp only[List.length_append,List.length_cons,List.length_nil];omega,by simp only[List.length_append,List.length_cons,List.length_nil];omega,?_⟩
 show aj Pr _ [.ref 0 0,.str (bU k v)] _ _
 refine aj.imp (agT 0 1 (by decide) a l.isEmpty l (bU k v) hl) rfl rfl (by cases a <;> simp[lk,aA,fC,lQ]) (by simp[lk]) (by simp[lk]) ?_
 simp +decide only[TF,↓reduceIte]
 apply z;clear z
 refine Ends.imp (.inl rfl) rfl (Le.of_eq (by simp +decide only[St.get])) ?_ ?_ ?_
 ·simp
 ·simp[lk,aA,fC,aeR]
 simp[lk]
theorem Ql (l:List At)(nl:Bool)(hn:l.length≤1099511627776)(hnl:nl=true→l=[])(hl:∀a∈l,a.ok)(hc:CkA l):ak Pr 96 [.slice 2 nl (l.map At.cs) none] (.slice 2 l.isEmpty ((iI l).map At.cs) none):=by
 refine aG.weak (TU l nl hn hnl hl hc) ⟨Le.refl _,trivial⟩ ?_
 by_cases h:l=[]
 · subst h;rw[Qk];exact Le.nil _ _ _
 · rw[if_neg h];exact Le.refl _
theorem o7 (b t:Nat)(h:b≠t)(a:Bool)(l k v:List UInt8)(hl:l.length+(bU k v).length≤140737488355328):aG Pr 92 [.str k,.str v,.ref b 0] [(b,.box 144 [lQ a b,.slice 1 l.isEmpty (eY l) (some t)]),(t,.aS 5 1 l.length)] (.aJ [])
  [(b,.box 144 [.ref b 0,.slice 1 (l++bU k v).isEmpty (eY (l++bU k v)) (some t)]),(t,.aS 5 1 (l++bU k v).length)]:=by
 obtain⟨f,g,h1,h2⟩:=kU [b,t] (by simp[h])
 have:=aG.rename h1 (aeS a l k v hl)
 have f0:f 0=b:=h2 0 b rfl
 have f1:f 1=t:=h2 1 t rfl
 simpa [kG,oP,dh,jL,Pz,f0,f1,PD] using this
theorem VP (a:As)(ha:a.ok)(hc:bC a=0):ak Pr 43 [.agg [.str a.id,.str a.iP,.str a.jI,.str a.sub,.str a.req,.int .i64 a.jd,.int .i64 a.fG,.int .i64 a.lvl,.slice 2 a.nl (a.ats.map At.cs) none]] (.str (h_ a)):=by
 obtain⟨⟨q1,q2,q3,q4,q5⟩,⟨q6,q7,q8⟩,⟨q9,q10⟩,hca⟩:=fO hc
 have hck:=xw hca
 have hhl:=jm hc
 obtain⟨⟨h1,h2,h3,h4,h5⟩,⟨h6,h7,h8⟩,h9,h10,h11⟩:=ha
 have hnA:(iI a.ats).length≤32:=by rw[yA];exact hck.len
 refine ak.of_wp Tryz.func43 rfl (by kernel_rfl) Tryz.ntmps43 (by simp) ?_
 simp only[ay]
 refine WP.sr [1] (by kernel_rfl) fun K hK=>?_
 simp +decide only[TF,↓reduceIte]
 refine hK _ _ ?_;clear hK K
 refine WP.sr [1,3] (by kernel_rfl) fun K hK=>?_
 simp +decide only[TF,↓reduceIte]
 refine hK _ _ ?_;clear hK K
 refine WP.weak (st':=⟨[(1,.ref 0 0),(3,.ref 1 0)],[(0,.box 24 [.str a.id,.str a.iP,.str a.jI,.str a.sub,.str a.req,.int .i64 a.jd,.int .i64 a.fG,.int .i64 a.lvl,.slice 2 a.nl (a.ats.map At.cs) none]),(1,.box 144 [lQ true 1,.slice 1 (([]:List UInt8)).isEmpty (eY (([]:List UInt8))) (some 2)]),(2,.aS 5 1 (([]:List UInt8)).length)]⟩) (Weak.trans (Weak.ghost 2 5 1 (F':=[(3,.ref 1 0),(1,.ref 0 0)]) (σ':=[(1,.box 144 [.aP,.slice 1 true [] (some 2)]),(0,.box 24 [.str a.id,.str a.iP,.str a.jI,.str a.sub,.str a.req,.int .i64 a.jd,.int .i64 a.fG,.int .i64 a.lvl,.slice 2 a.nl (a.ats.map At.cs) none])]) (by simp[lk]) (by simp[keep,ins,Ac,zC]) (by simp[Dq,Rj,UF,zC])) (Weak.store (by simp[St.get,lk,Le.refl]) (by simp[lk,lQ,eY]) (by simp[lk]) (by simp[aA,lk,fC,lQ]) (by simp))) ?_
 refine WP.sr [1,3,4] (by kernel_rfl) fun K hK=>?_
 simp +decide only[TF,↓reduceIte]
 refine hK _ _ ?_;clear hK K
 refine WP.meet (⟨[(4,.fn (.func 92) [] [.ref 1 0]),(1,.ref 0 0),(3,.ref 1 0)],[(0,.box 24 [.str a.id,.str a.iP,.str a.jI,.str a.sub,.str a.req,.int .i64 a.jd,.int .i64 a.fG,.int .i64 a.lvl,.slice 2 a.nl (a.ats.map At.cs) none]),(1,.box 144 [lQ false 1,.slice 1 (bU lT (aF a.id)).isEmpty (eY (bU lT (aF a.id))) (some 2)]),(2,.aS 5 1 (bU lT (aF a.id)).length)]⟩) ?_ ?_
 ·
  refine WP.region (by kernel_rfl) fun K hK=>?_
  simp +decide only[TF,↓reduceIte]
  refine aj.pure (qo a.id (by omega)) rfl rfl (by simp) ?_
  simp +decide only[TF,↓reduceIte]
  refine aj.imp (o7 1 2 (by decide) true (([]:List UInt8)) lT (aF a.id) (by rw[fZ];have:=jm hc;simp only[lI,List.length_append,fZ,lT,fP,gQ,iJ,jk,jO,kY,oz,List.length_cons,List.length_nil] at this ⊢;omega)) rfl rfl (by simp[lk,aA,fC,lQ]) (by simp[lk]) (by simp[lk]) ?_
  simp +decide only[TF,↓reduceIte]
  refine hK _ _ ?_
  show Weak _ _ _
  exact Weak.store (by simp[St.get,lk,Le.refl]) (by simp[lk,lQ]) (by simp[lk]) (by simp[aA,lk,fC,lQ]) (by simp)
 ·
  refine WP.meet (⟨[(4,.fn (.func 92) [] [.ref 1 0]),(1,.ref 0 0),(3,.ref 1 0)],[(0,.box 24 [.str a.id,.str a.iP,.str a.jI,.str a.sub,.str a.req,.int .i64 a.jd,.int .i64 a.fG,.int .i64 a.lvl,.slice 2 a.nl (a.ats.map At.cs) none]),(1,.box 144 [lQ false 1,.slice 1 (bU lT (aF a.id)++bU fP (aF a.iP)).isEmpty (eY (bU lT (aF a.id)++bU fP (aF a.iP))) (some 2)]),(2,.aS 5 1 (bU lT (aF a.id)++bU fP (aF a.iP)).length)]⟩) ?_ ?_
  ·
   refine WP.region (by kernel_rfl) fun K hK=>?_
   simp +decide only[TF,↓reduceIte]
   refine aj.pure (qo a.iP (by omega)) rfl rfl (by simp) ?_
   simp +decide only[TF,↓reduceIte]
   refine aj.imp (o7 1 2 (by decide) false (bU lT (aF a.id)) fP (aF a.iP) (by rw[fZ];have:=jm hc;simp only[lI,List.length_append,fZ,lT,fP,gQ,iJ,jk,jO,kY,oz,List.length_cons,List.length_nil] at this ⊢;omega)) rfl rfl (by simp[lk,aA,fC,lQ]) (by simp[lk]) (by simp[lk]) ?_
   simp +decide only[TF,↓reduceIte]
   refine hK _ _ ?_
   show Weak _ _ _
   exact Weak.store (by simp[St.get,lk,Le.refl]) (by simp[lk,lQ]) (by simp[lk]) (by simp[aA,lk,fC,lQ]) (by simp)
  ·
   refine WP.meet (⟨[(4,.fn (.func 92) [] [.ref 1 0]),(1,.ref 0 0),(3,.ref 1 0)],[(0,.box 24 [.str a.id,.str a.iP,.str a.jI,.str a.sub,.str a.req,.int .i64 a.jd,.int .i64 a.fG,.int .i64 a.lvl,.slice 2 a.nl (a.ats.map At.cs) none]),(1,.box 144 [lQ false 1,.slice 1 (bU lT (aF a.id)++bU fP (aF a.iP)++bU gQ (aF a.jI)).isEmpty (eY (bU lT (aF a.id)++bU fP (aF a.iP)++bU gQ (aF a.jI))) (some 2)]),(2,.aS 5 1 (bU lT (aF a.id)++bU fP (aF a.iP)++bU gQ (aF a.jI)).length)]⟩) ?_ ?_
   ·
    refine WP.region (by kernel_rfl) fun K hK=>?_
    simp +decide only[TF,↓reduceIte]
    refine aj.pure (qo a.jI (by omega)) rfl rfl (by simp) ?_
    simp +decide only[TF,↓reduceIte]
    refine aj.imp (o7 1 2 (by decide) false (bU lT (aF a.id)++bU fP (aF a.iP)) gQ (aF a.jI) (by rw[fZ];have:=jm hc;simp only[lI,List.length_append,fZ,lT,fP,gQ,iJ,jk,jO,kY,oz,List.length_cons,List.length_nil] at this ⊢;omega)) rfl rfl (by simp[lk,aA,fC,lQ]) (by simp[lk]) (by simp[lk]) ?_
    simp +decide only[TF,↓reduceIte]
    refine hK _ _ ?_
    show Weak _ _ _
    exact Weak.store (by simp[St.get,lk,Le.refl]) (by simp[lk,lQ]) (by simp[lk]) (by simp[aA,lk,fC,lQ]) (by simp)
   ·
    refine WP.meet (⟨[(4,.fn (.func 92) [] [.ref 1 0]),(1,.ref 0 0),(3,.ref 1 0)],[(0,.box 24 [.str a.id,.str a.iP,.str a.jI,.str a.sub,.str a.req,.int .i64 a.jd,.int .i64 a.fG,.int .i64 a.lvl,.slice 2 a.nl (a.ats.map At.cs) none]),(1,.box 144 [lQ false 1,.slice 1 (bU lT (aF a.id)++bU fP (aF a.iP)++bU gQ (aF a.jI)++bU iJ (aF a.sub)).isEmpty (eY (bU lT (aF a.id)++bU fP (aF a.iP)++bU gQ (aF a.jI)++bU iJ (aF a.sub))) (some 2)]),(2,.aS 5 1 (bU lT (aF a.id)++bU fP (aF a.iP)++bU gQ (aF a.jI)++bU iJ (aF a.sub)).length)]⟩) ?_ ?_
    ·
     refine WP.region (by kernel_rfl) fun K hK=>?_
     simp +decide only[TF,↓reduceIte]
     refine aj.pure (qo a.sub (by omega)) rfl rfl (by simp) ?_
     simp +decide only[TF,↓reduceIte]
     refine aj.imp (o7 1 2 (by decide) false (bU lT (aF a.id)++bU fP (aF a.iP)++bU gQ (aF a.jI)) iJ (aF a.sub) (by rw[fZ];have:=jm hc;simp only[lI,List.length_append,fZ,lT,fP,gQ,iJ,jk,jO,kY,oz,List.length_cons,List.length_nil] at this ⊢;omega)) rfl rfl (by simp[lk,aA,fC,lQ]) (by simp[lk]) (by simp[lk]) ?_
     simp +decide only[TF,↓reduceIte]
     refine hK _ _ ?_
     show Weak _ _ _
     exact Weak.store (by simp[St.get,lk,Le.refl]) (by simp[lk,lQ]) (by simp[lk]) (by simp[aA,lk,fC,lQ]) (by simp)
    ·
     refine WP.meet (⟨[(4,.fn (.func 92) [] [.ref 1 0]),(1,.ref 0 0),(3,.ref 1 0)],[(0,.box 24 [.str a.id,.str a.iP,.str a.jI,.str a.sub,.str a.req,.int .i64 a.jd,.int .i64 a.fG,.int .i64 a.lvl,.slice 2 a.nl (a.ats.map At.cs) none]),(1,.box 144 [lQ false 1,.slice 1 (bU lT (aF a.id)++bU fP (aF a.iP)++bU gQ (aF a.jI)++bU iJ (aF a.sub)++bU jk (aF a.req)).isEmpty (eY (bU lT (aF a.id)++bU fP (aF a.iP)++bU gQ (aF a.jI)++bU iJ (aF a.sub)++bU jk (aF a.req))) (some 2)]),(2,.aS 5 1 (bU lT (aF a.id)++bU fP (aF a.iP)++bU gQ (aF a.jI)++bU iJ (aF a.sub)++bU jk (aF a.req)).length)]⟩) ?_ ?_
     ·
      refine WP.region (by kernel_rfl) fun K hK=>?_
      simp +decide only[TF,↓reduceIte]
      refine aj.pure (qo a.req (by omega)) rfl rfl (by simp) ?_
      simp +decide only[TF,↓reduceIte]
      refine aj.imp (o7 1 2 (by decide) false (bU lT (aF a.id)++bU fP (aF a.iP)++bU gQ (aF a.jI)++bU iJ (aF a.sub)) jk (aF a.req) (by rw[fZ];have:=jm hc;simp only[lI,List.length_append,fZ,lT,fP,gQ,iJ,jk,jO,kY,oz,List.length_cons,List.length_nil] at this ⊢;omega)) rfl rfl (by simp[lk,aA,fC,lQ]) (by simp[lk]) (by simp[lk]) ?_
      simp +decide only[TF,↓reduceIte]
      refine hK _ _ ?_
      show Weak _ _ _
      exact Weak.store (by simp[St.get,lk,Le.refl]) (by simp[lk,lQ]) (by simp[lk]) (by simp[aA,lk,fC,lQ]) (by simp)
     ·
      refine WP.meet (⟨[(4,.fn (.func 92) [] [.ref 1 0]),(1,.ref 0 0),(3,.ref 1 0)],[(0,.box 24 [.str a.id,.str a.iP,.str a.jI,.str a.sub,.str a.req,.int .i64 a.jd,.int .i64 a.fG,.int .i64 a.lvl,.slice 2 a.nl (a.ats.map At.cs) none]),(1,.box 144 [lQ false 1,.slice 1 (bU lT (aF a.id)++bU fP (aF a.iP)++bU gQ (aF a.jI)++bU iJ (aF a.sub)++bU jk (aF a.req)++bU jO (Lib.itoa a.jd)).isEmpty (eY (bU lT (aF a.id)++bU fP (aF a.iP)++bU gQ (aF a.jI)++bU iJ (aF a.sub)++bU jk (aF a.req)++bU jO (Lib.itoa a.jd))) (some 2)]),(2,.aS 5 1 (bU lT (aF a.id)++bU fP (aF a.iP)++bU gQ (aF a.jI)++bU iJ (aF a.sub)++bU jk (aF a.req)++bU jO (Lib.itoa a.jd)).length)]⟩) ?_ ?_
      ·
       refine WP.region (by kernel_rfl) fun K hK=>?_
       simp +decide only[TF,↓reduceIte]
       refine aj.pure (aaW a.jd (by omega) (by omega)) rfl rfl (by simp) ?_
       simp +decide only[TF,↓reduceIte]
       refine aj.imp (o7 1 2 (by decide) false (bU lT (aF a.id)++bU fP (aF a.iP)++bU gQ (aF a.jI)++bU iJ (aF a.sub)++bU jk (aF a.req)) jO (Lib.itoa a.jd) (by rw[fZ];have:=jm hc;simp only[lI,List.length_append,fZ,lT,fP,gQ,iJ,jk,jO,kY,oz,List.length_cons,List.length_nil] at this ⊢;omega)) rfl rfl (by simp[lk,aA,fC,lQ]) (by simp[lk]) (by simp[lk]) ?_
       simp +decide only[TF,↓reduceIte]
       refine hK _ _ ?_
       show Weak _ _ _
       exact Weak.store (by simp[St.get,lk,Le.refl]) (by simp[lk,lQ]) (by simp[lk]) (by simp[aA,lk,fC,lQ]) (by simp)
      ·
       refine WP.meet (⟨[(4,.fn (.func 92) [] [.ref 1 0]),(1,.ref 0 0),(3,.ref 1 0)],[(0,.box 24 [.str a.id,.str a.iP,.str a.jI,.str a.sub,.str a.req,.int .i64 a.jd,.int .i64 a.fG,.int .i64 a.lvl,.slice 2 a.nl (a.ats.map At.cs) none]),(1,.box 144 [lQ false 1,.slice 1 (bU lT (aF a.id)++bU fP (aF a.iP)++bU gQ (aF a.jI)++bU iJ (aF a.sub)++bU jk (aF a.req)++bU jO (Lib.itoa a.jd)++bU kY (Lib.itoa a.fG)).isEmpty (eY (bU lT (aF a.id)++bU fP (aF a.iP)++bU gQ (aF a.jI)++bU iJ (aF a.sub)++bU jk (aF a.req)++bU jO (Lib.itoa a.jd)++bU kY (Lib.itoa a.fG))) (some 2)]),(2,.aS 5 1 (bU lT (aF a.id)++bU fP (aF a.iP)++bU gQ (aF a.jI)++bU iJ (aF a.sub)++bU jk (aF a.req)++bU jO (Lib.itoa a.jd)++bU kY (Lib.itoa a.fG)).length)]⟩) ?_ ?_
       ·
        refine WP.region (by kernel_rfl) fun K hK=>?_
        simp +decide only[TF,↓reduceIte]
        refine aj.pure (aaW a.fG (by omega) (by omega)) rfl rfl (by simp) ?_
        simp +decide only[TF,↓reduceIte]
        refine aj.imp (o7 1 2 (by decide) false (bU lT (aF a.id)++bU fP (aF a.iP)++bU gQ (aF a.jI)++bU iJ (aF a.sub)++bU jk (aF a.req)++bU jO (Lib.itoa a.jd)) kY (Lib.itoa a.fG) (by rw[fZ];have:=jm hc;simp only[lI,List.length_append,fZ,lT,fP,gQ,iJ,jk,jO,kY,oz,List.length_cons,List.length_nil] at this ⊢;omega)) rfl rfl (by simp[lk,aA,fC,lQ]) (by simp[lk]) (by simp[lk]) ?_
        simp +decide only[TF,↓reduceIte]
        refine hK _ _ ?_
        show Weak _ _ _
        exact Weak.store (by simp[St.get,lk,Le.refl]) (by simp[lk,lQ]) (by simp[lk]) (by simp[aA,lk,fC,lQ]) (by simp)
       ·
        refine WP.meet (⟨[(4,.fn (.func 92) [] [.ref 1 0]),(1,.ref 0 0),(3,.ref 1 0)],[(0,.box 24 [.str a.id,.str a.iP,.str a.jI,.str a.sub,.str a.req,.int .i64 a.jd,.int .i64 a.fG,.int .i64 a.lvl,.slice 2 a.nl (a.ats.map At.cs) none]),(1,.box 144 [lQ false 1,.slice 1 (bU lT (aF a.id)++bU fP (aF a.iP)++bU gQ (aF a.jI)++bU iJ (aF a.sub)++bU jk (aF a.req)++bU jO (Lib.itoa a.jd)++bU kY (Lib.itoa a.fG)++bU oz (Lib.itoa a.lvl)).isEmpty (eY (bU lT (aF a.id)++bU fP (aF a.iP)++bU gQ (aF a.jI)++bU iJ (aF a.sub)++bU jk (aF a.req)++bU jO (Lib.itoa a.jd)++bU kY (Lib.itoa a.fG)++bU oz (Lib.itoa a.lvl))) (some 2)]),(2,.aS 5 1 (bU lT (aF a.id)++bU fP (aF a.iP)++bU gQ (aF a.jI)++bU iJ (aF a.sub)++bU jk (aF a.req)++bU jO (Lib.itoa a.jd)++bU kY (Lib.itoa a.fG)++bU oz (Lib.itoa a.lvl)).length)]⟩) ?_ ?_
        ·
         refine WP.region (by kernel_rfl) fun K hK=>?_
         simp +decide only[TF,↓reduceIte]
         refine aj.pure (aaW a.lvl (by omega) (by omega)) rfl rfl (by simp) ?_
         simp +decide only[TF,↓reduceIte]
         refine aj.imp (o7 1 2 (by decide) false (bU lT (aF a.id)++bU fP (aF a.iP)++bU gQ (aF a.jI)++bU iJ (aF a.sub)++bU jk (aF a.req)++bU jO (Lib.itoa a.jd)++bU kY (Lib.itoa a.fG)) oz (Lib.itoa a.lvl) (by rw[fZ];have:=jm hc;simp only[lI,List.length_append,fZ,lT,fP,gQ,iJ,jk,jO,kY,oz,List.length_cons,List.length_nil] at this ⊢;omega)) rfl rfl (by simp[lk,aA,fC,lQ]) (by simp[lk]) (by simp[lk]) ?_
         simp +decide only[TF,↓reduceIte]
         refine hK _ _ ?_
         show Weak _ _ _
         exact Weak.store (by simp[St.get,lk,Le.refl]) (by simp[lk,lQ]) (by simp[lk]) (by simp[aA,lk,fC,lQ]) (by simp)
        ·
         refine WP.seq ?_
         refine WP.sr [3,4,50,51,52] (by kernel_rfl) fun K hK=>?_
         simp +decide only[TF,↓reduceIte]
         refine aj.pure (Ql a.ats a.nl h9 h10 h11 hck) rfl rfl (by simp[-List.map_take]) ?_
         simp +decide only[TF,↓reduceIte]
         refine hK _ _ ?_;clear hK K
         refine WP.block ?_
         refine WP.lp [3,4,50,51] (X:={k:Nat // k≤(iI a.ats).length}) (fun x=>match x with| ⟨(k),_⟩=>[(52,.int .i64 k)]) (fun x=>match x with| ⟨(k),_⟩=>[(0,.box 24 [.str a.id,.str a.iP,.str a.jI,.str a.sub,.str a.req,.int .i64 a.jd,.int .i64 a.fG,.int .i64 a.lvl,.slice 2 a.nl (a.ats.map At.cs) none]),(1,.box 144 [lQ false 1,.slice 1 (jX a k).isEmpty (eY (jX a k)) (some 2)]),(2,.aS 5 1 (jX a k).length)]) (fun x=>match x with| ⟨(k),_⟩=>(iI a.ats).length - k) (by simp +decide only[W,↓reduceIte];rfl) ?_ ⟨(0),Nat.zero_le _⟩ ?_
         rotate_left
         · exact Weak.store (by simp[St.get,lk,W,Le.refl]) (by simp[lk,Kz,lI]) (by simp[lk]) (by simp[aA,lk,fC,lQ]) (by simp)
         rintro ⟨k,hk⟩
         dsimp only
         simp only[List.cons_append,List.nil_append]
         refine WP.sr [3,4,50,51,52,53] (by kernel_rfl) fun K hK=>?_
         simp +decide only[TF,↓reduceIte]
         refine hK _ _ ?_;clear hK K
         refine WP.seq ?_
         refine WP.cond (b:=_) rfl (fun q1=>?_) (fun q1=>?_)
         ·
          have hlt:=aK q1
          have hne:a.ats.isEmpty=false:=by cases hx:a.ats with|nil=>rw[hx,Qk] at hlt;simp at hlt|cons=>rfl
          obtain⟨hn1,ahD,hn3,hn4,hn5⟩:=oC hca (List.getElem_mem hlt)
          have hg:((iI a.ats).map At.cs)[k]?=some [.str (iI a.ats)[k].name,.slice 1 (iI a.ats)[k].nl ((iI a.ats)[k].vals.map fun x=>[.str x]) none]:=getM hlt
          have hlk:=KE hc k
          have hln:=xB a hlt
          have hal:=KD hca (List.getElem_mem hlt)
          have hcs:=KC hca (List.getElem_mem hlt)
          have hat:bU kZ (ng ((iI a.ats)[k].name::(iI a.ats)[k].vals))=Hg (iI a.ats)[k]:=rfl
          refine WP.skip ?_
          show WP _ _ _ _ _ _
          refine WP.seq ?_
          refine WP.block ?_
          refine WP.sr [3,4,6,50,51,52] (by kernel_rfl) fun K hK=>?_
          simp +decide only[TF,q1,hg,hne,ahD,↓reduceIte]
          refine hK _ _ ?_;clear hK K
          refine WP.region (by kernel_rfl) fun K hK=>?_
          simp +decide only[TF,↓reduceIte]
          refine⟨⟨by omega,by omega⟩,?_⟩
          refine aj.pure (ahC ((iI a.ats)[k].name::(iI a.ats)[k].vals) false (by simp;omega) nofun (fun x hx=>by have:=hcs x hx;omega) (by have:=KA hcs;simp only[List.length_cons] at this;omega)) rfl rfl (by simp[fE]) ?_
          simp +decide only[TF,↓reduceIte]
          refine aj.imp (o7 1 2 (by decide) false (jX a k) kZ (ng ((iI a.ats)[k].name::(iI a.ats)[k].vals)) (by have h9:(bU kZ (ng ((iI a.ats)[k].name::(iI a.ats)[k].vals))).length≤14000:=hal;omega)) rfl rfl (by simp[lk,aA,fC,lQ]) (by simp[lk]) (by simp[lk]) ?_
          simp +decide only[TF,↓reduceIte]
          refine hK _ _ ?_;clear hK K
          show WP _ _ _ _ _ _
          refine WP.region (by kernel_rfl) fun K hK=>?_
          simp +decide only[TF,↓reduceIte]
          refine hK _ _ ?_;clear hK K
          show ∃y,_∧Weak _ _ _
          refine⟨⟨k+1,hlt⟩,?_,?_⟩
          · dsimp only;omega
          · exact Weak.store (by simp[St.get,lk,Le.refl,hne,aT hlt (show (iI a.ats).length≤140737488355328 by omega)]) (by simp[lk,hln,hat,lQ]) (by simp[lk]) (by simp[aA,lk,fC,lQ]) (by simp)
         ·
          have hge:=aN q1
          obtain rfl:k=(iI a.ats).length:=by omega
          refine WP.exit ?_
          show WP _ _ _ _ _ _
          refine WP.sr [2] (by kernel_rfl) fun K hK=>?_
          simp +decide only[TF,q1,↓reduceIte]
          refine aj.imp (PE 1 2 (by decide) (lQ false 1) (jX a (iI a.ats).length)) rfl rfl (by simp[lk,aA,fC,lQ]) (by simp[lk]) (by simp[lk]) ?_
          simp +decide only[TF,↓reduceIte]
          refine hK _ _ ?_;clear hK K
          refine WP.ret ?_
          exact Ends.pure (.inr rfl) rfl (Le.of_eq (by simp +decide only[St.get,W,uS,↓reduceIte])) (by simp)
theorem VQ (b:Nat)(s t:List UInt8)(hs:s.length<4294967281)(ht:t≠[]):aG Pr 49 [.str s,.str t] [] (.arr b 1 (mX s t).length) [(b,.arr 9 ((mX s t).map .str))]:=by
 refine⟨dF Tryz.func49 (by kernel_rfl) (by kernel_rfl),fun M γ w vs hst hl hr=>?_⟩
 match vs,hl with
 | [v,v'],_=>
  obtain⟨⟨⟨l⟩⟩,rfl,hb⟩:=qP (hr 0 _ _ rfl rfl)
  obtain⟨⟨⟨k⟩⟩,rfl,hc⟩:=qP (hr 1 _ _ rfl rfl)
  simp only at hb hc
  subst hb
  subst hc
  have h1:1≤(⟨⟨k⟩⟩:ByteArray).size:=List.length_pos_iff.2 ht
  obtain⟨⟨m,hm⟩,_⟩:=hst.inv
  refine (Tryz.strings_Split ⟨⟨l⟩⟩ ⟨⟨k⟩⟩ m w hs hm h1).mono ?_
  rintro e w' ⟨rfl,rfl⟩
  have hlen:=Lib.splitB_all ⟨⟨k⟩⟩ h1 0 _ ⟨⟨l⟩⟩ rfl
  have hl2:(mX l k).length=Lib.countB ⟨⟨l⟩⟩ ⟨⟨k⟩⟩+1:=by rw[mX,List.length_map];exact hlen
  have hn0:lk ([]:List (Nat × aU)) b=none:=rfl
  have hv:=aQ.fresh hst hn0 (.arr w.heap.size (Lib.countB ⟨⟨l⟩⟩ ⟨⟨k⟩⟩+1) 1) (w.alloc (.cells ((Lib.splitB ⟨⟨k⟩⟩ 0 (Lib.countB ⟨⟨l⟩⟩ ⟨⟨k⟩⟩) ⟨⟨l⟩⟩).map Value.string).toArray 9)) rfl rfl rfl (by simp) (bJ w _) (fun B hB=>by simp[G.block] at hB;omega)
  have hBn:=heap_alloc_new w (.cells ((Lib.splitB ⟨⟨k⟩⟩ 0 (Lib.countB ⟨⟨l⟩⟩ ⟨⟨k⟩⟩) ⟨⟨l⟩⟩).map Value.string).toArray 9)
  have hst2:=hst.change b (.arr 9 ((mX l k).map .str)) (.arr w.heap.size (Lib.countB ⟨⟨l⟩⟩ ⟨⟨k⟩⟩+1) 1) _ hv (fun i gi B hi hg hB=>bJ w _ _ (hst.lt hg hB)) (fun B hB=>by simp[G.block] at hB;omega)
   (.arr _ 9 (0,0) hBn (by simp[hl2,hlen]) (fun i v hi hv=>⟨?_,by unfold World.frozen?;rw[hBn];simp⟩) (fun i d v hd hv=>?_) ⟨.inl ⟨rfl,rfl⟩,?_,?_⟩)
  ·refine⟨_,_,rfl,?_,hv,by rw[hl2];exact .arr (upd_same _ _ _) (Nat.le_refl _)⟩
   have:lk [(b,aU.arr 9 ((mX l k).map .str))]=Go.Id.upd (lk []) b (some (.arr 9 ((mX l k).map .str))):=by funext j;simp only[lk,Go.Id.upd]
   rw[this];exact hst2
  ·simp only[List.getElem?_toArray,List.getElem?_map,Option.map_eq_some_iff] at hv
   obtain⟨x,_,rfl⟩:=hv;rfl
  ·simp only[List.getElem?_toArray,List.getElem?_map,Option.map_eq_some_iff] at hv
   obtain⟨x,hx,rfl⟩:=hv
   rw[mX,List.map_map,List.getElem?_map,hx] at hd
   cases hd
   exact qK rfl
  ·simp[hlen]
  ·have:=Lib.countB_le ⟨⟨k⟩⟩ h1 _ ⟨⟨l⟩⟩ (Nat.le_refl _)
   have h2:(⟨⟨l⟩⟩:ByteArray).size=l.length:=rfl
   show Lib.countB ⟨⟨l⟩⟩ ⟨⟨k⟩⟩+1≤9223372036854775807
   omega
def QO:List (List UInt8)→Option (List (List UInt8))
 | []=>some []
 |x::l=>match qG x with
  |none=>none
  |some y=>(QO l).map (y::·)
theorem KF {x:List UInt8}{l:List (List UInt8)}(h:qG x=none):QO (x::l)=none:=by simp[QO,h]
theorem Cj {x y:List UInt8}{l:List (List UInt8)}(h:qG x=some y):QO (x::l)=(QO l).map (y::·):=by simp[QO,h]
def o8 (s:List UInt8):Option (List (List UInt8)):=if (s == [45])=true then some [] else if (s == [37,50,68])=true then some [[45]] else QO (bn 124 [] s)
def tX (o:Option (List (List UInt8))):D:=
 match o with
 |some l=> .aJ [.slice 1 l.isEmpty (l.map fun x=>[.str x]) none,.int .i64 0]
 |none=> .aJ [.slice 1 true [] none,.int .i64 4]
theorem abZ {s:List UInt8}(h:(s == [45])=true):o8 s=some []:=by unfold o8;rw[if_pos h]
theorem ab1 {s:List UInt8}(h0:(s == [45])=false)(h:(s == [37,50,68])=true):o8 s=some [[45]]:=by unfold o8;rw[if_neg (by rw[h0];decide),if_pos h]
theorem VR {s:List UInt8}(h0:(s == [45])=false)(h:(s == [37,50,68])=false):o8 s=QO (bn 124 [] s):=by unfold o8;rw[if_neg (by rw[h0];decide),if_neg (by rw[h];decide)]
def vw (ls vs:List (List UInt8)):List D:=vs.map D.str++(ls.drop vs.length).map D.str
theorem ahE (ls:List (List UInt8)):vw ls []=ls.map D.str:=by simp[vw]
theorem ab2 (ls vs:List (List UInt8))(h:vs.length≤ls.length):(vw ls vs).length=ls.length:=by simp[vw];omega
theorem Ub {S:Nat→Prop}(ls vs:List (List UInt8)):(∀d∈vw ls vs,cZ S d)↔True:=by
 simp only[iff_true,vw,List.mem_append,List.mem_map]
 rintro d (⟨s,_,rfl⟩ | ⟨s,_,rfl⟩) <;> exact .str _
theorem XD {ls vs:List (List UInt8)}{k:Nat}(hk:k<ls.length)(hv:vs.length=k):(vw ls vs).drop k= .str ls[k]::(ls.drop (k+1)).map D.str:=by
 unfold vw
 rw[List.drop_append,List.drop_of_length_le (by simp;omega),List.nil_append,hv]
 simp only[List.length_map,hv,Nat.sub_self,List.drop_zero]
 rw[dI hk,List.map_cons]
theorem VT {ls vs:List (List UInt8)}{k:Nat}(hk:k<ls.length)(hv:vs.length=k)(y:List UInt8):(vw ls vs).take k++[D.str y]++(vw ls vs).drop (k+1)=vw ls (vs++[y]):=by
 have e:(vw ls vs).drop (k+1)=(ls.drop (k+1)).map D.str:=by
  have:=XD hk hv
  rw[← List.drop_drop,this];rfl
 rw[e]
 unfold vw
 rw[List.take_left' (by simpa using hv)]
 simp[hv]
theorem ab3 {ls vs:List (List UInt8)}(h:vs.length=ls.length):vw ls vs=vs.map D.str:=by unfold vw;rw[List.drop_of_length_le (by omega)];simp
theorem Le.Qm {a b a' b':D}(h:Le a a')(k:Le b b'):Le (.aJ [a,b]) (.aJ [a',b']):=fun M γ w v hv=>by
 cases hv with
 |aJ hl hr=>
  refine .aJ (by simpa using hl) fun i d x h1 h2=>?_
  match i with
  | 0=>cases h1;exact h _ _ _ _ (hr 0 _ _ rfl h2)
  | 1=>cases h1;exact k _ _ _ _ (hr 1 _ _ rfl h2)
  |i+2=>simp at h1
@[simp] theorem ajA {S:Nat→Prop}(o:Option (List (List UInt8))):cZ S (tX o):=by
 cases o with
 |none=>simp[tX]
 |some l=>simp[tX]
theorem c_split (s:List UInt8)(hs:s.length≤1048576):ak Pr 52 [.str s] (tX (o8 s)):=by
 have hcl:=n_ 124 s []
 have hcm:=qp 124 s []
 refine ak.of_wp Tryz.func52 rfl (by kernel_rfl) Tryz.ntmps52 (by simp) ?_
 simp only[ay]
 refine WP.sr [0] (by kernel_rfl) fun K hK=>?_
 simp +decide only[TF,↓reduceIte]
 refine hK _ _ ?_;clear hK K
 refine WP.seq ?_
 refine WP.sr [0,10] (by kernel_rfl) fun K hK=>?_
 simp +decide only[TF,↓reduceIte]
 refine hK _ _ ?_;clear hK K
 refine WP.cond (b:=_) rfl (fun q1=>?_) (fun q1=>?_)
 ·
  have hX:=abZ q1
  refine WP.sr [2,3] (by kernel_rfl) fun K hK=>?_
  simp +decide only[TF,q1,↓reduceIte]
  refine hK _ _ ?_;clear hK K
  refine WP.ret ?_
  exact Ends.pure (d:= .aJ [_,_]) (.inr rfl) rfl ((by rw[hX];simp +decide only[tX,St.get,lk,W,List.isEmpty_nil,↓reduceIte];first|exact Le.refl _|exact Le.Qm (Le.nil _ _ _) (Le.refl _))) (by simp)
 ·
  have h0:=q1
  refine WP.skip ?_
  show WP _ _ _ _ _ _
  refine WP.seq ?_
  refine WP.sr [0,12] (by kernel_rfl) fun K hK=>?_
  simp +decide only[TF,q1,↓reduceIte]
  refine hK _ _ ?_;clear hK K
  refine WP.cond (b:=_) rfl (fun q2=>?_) (fun q2=>?_)
  ·
   have hX:=ab1 h0 q2
   refine WP.sr [2,3] (by kernel_rfl) fun K hK=>?_
   simp +decide only[TF,q2,↓reduceIte]
   refine hK _ _ ?_;clear hK K
   refine WP.ret ?_
   exact Ends.pure (d:= .aJ [_,_]) (.inr rfl) rfl ((by rw[hX];simp +decide only[tX,St.get,lk,W,List.isEmpty_cons,↓reduceIte];first|exact Le.refl _|exact Le.Qm (Le.nil _ _ _) (Le.refl _))) (by simp)
  ·
   have hX2:=VR h0 q2
   refine WP.skip ?_
   show WP _ _ _ _ _ _
   refine WP.sr [4] (by kernel_rfl) fun K hK=>?_
   simp +decide only[TF,q2,↓reduceIte]
   refine aj.imp (VQ 0 s [124] (by omega) (by simp)) rfl rfl (by simp) (by simp[lk]) (by simp) ?_
   rw[JK]
   simp +decide only[TF,↓reduceIte]
   refine hK _ _ ?_;clear hK K
   refine WP.seq ?_
   refine WP.sr [4,16,17,18] (by kernel_rfl) fun K hK=>?_
   simp +decide only[TF,↓reduceIte]
   refine hK _ _ ?_;clear hK K
   refine WP.block ?_
   refine WP.lp [4,16,17] (X:={x:(Nat) × (List (List UInt8)) // match x with|(k,vs)=>k≤(bn 124 [] s).length∧vs.length=k∧QO (bn 124 [] s)=(QO ((bn 124 [] s).drop k)).map (vs++·)}) (fun x=>match x with| ⟨(k,vs),_⟩=>[(18,.int .i64 k)]) (fun x=>match x with| ⟨(k,vs),_⟩=>[(0,.arr 9 (vw (bn 124 [] s) vs))]) (fun x=>match x with| ⟨(k,vs),_⟩=>(bn 124 [] s).length - k) (by simp +decide only[W,↓reduceIte];rfl) ?_ ⟨(0,[]),⟨Nat.zero_le _,rfl,by simp⟩⟩ ?_
   rotate_left
   · exact Weak.store (by simp[St.get,lk,W,Le.refl]) (by simp[lk,ahE]) (by simp[lk]) (by simp[aA,lk,Ub]) (by simp)
   rintro ⟨⟨k,vs⟩,hk,hv,hI⟩
   dsimp only
   simp only[List.cons_append,List.nil_append]
   refine WP.sr [4,16,17,18,19] (by kernel_rfl) fun K hK=>?_
   simp +decide only[TF,↓reduceIte]
   refine hK _ _ ?_;clear hK K
   refine WP.seq ?_
   refine WP.cond (b:=_) rfl (fun q3=>?_) (fun q3=>?_)
   ·
    have hlt:=aK q3
    have hat:=XD hlt hv
    have hk1:(k<(bn 124 [] s).length)=True:=eq_true hlt
    rw[dI hlt] at hI
    refine WP.skip ?_
    show WP _ _ _ _ _ _
    refine WP.seq ?_
    refine WP.block ?_
    refine WP.sr [4,5,6,16,17,18] (by kernel_rfl) fun K hK=>?_
    simp +decide only[TF,q3,hat,hk1,Nat.mul_one,↓reduceIte]
    refine hK _ _ ?_;clear hK K
    rcases hu:qG (bn 124 [] s)[k] with _|y
    ·
     rw[KF hu,Option.map_none] at hI
     have hX:=hX2.trans hI
     refine WP.sr [4,5,7,8,16,17,18] (by kernel_rfl) fun K hK=>?_
     simp +decide only[TF,↓reduceIte]
     refine aj.pure (uJ (bn 124 [] s)[k] (by have:=hcm _ (List.getElem_mem hlt);simp at this;omega)) rfl rfl (by simp[-List.map_take]) ?_
     simp +decide only[TF,hu,Ej,↓reduceIte]
     refine hK _ _ ?_;clear hK K
     refine WP.seq ?_
     refine WP.sr [4,5,7,8,16,17,18,29] (by kernel_rfl) fun K hK=>?_
     simp +decide only[TF,↓reduceIte]
     refine hK _ _ ?_;clear hK K
     refine WP.cond (b:=true) (by rfl) (fun _=>?_) nofun
     refine WP.sr [2,3] (by kernel_rfl) fun K hK=>?_
     simp +decide only[TF,↓reduceIte]
     refine hK _ _ ?_;clear hK K
     refine WP.ret ?_
     exact Ends.pure (d:= .aJ [_,_]) (.inr rfl) rfl ((by rw[hX];simp +decide only[tX,St.get,lk,W,↓reduceIte];first|exact Le.refl _|exact Le.Qm (Le.nil _ _ _) (Le.refl _))) (by simp)
    ·
     rw[Cj hu,Option.map_map] at hI
     have hst:=VT hlt hv y
     have hL:(k+1≤(vw (bn 124 [] s) vs).length)=True:=eq_true (by rw[ab2 _ _ (by omega)];exact hlt)
     refine WP.sr [4,5,7,8,16,17,18] (by kernel_rfl) fun K hK=>?_
     simp +decide only[TF,↓reduceIte]
     refine aj.pure (uJ (bn 124 [] s)[k] (by have:=hcm _ (List.getElem_mem hlt);simp at this;omega)) rfl rfl (by simp[-List.map_take]) ?_
     simp +decide only[TF,hu,Ej,↓reduceIte]
     refine hK _ _ ?_;clear hK K
     refine WP.seq ?_
     refine WP.sr [4,5,7,8,16,17,18,29] (by kernel_rfl) fun K hK=>?_
     simp +decide only[TF,↓reduceIte]
     refine hK _ _ ?_;clear hK K
     refine WP.cond (b:=false) (by rfl) nofun (fun _=>?_)
     refine WP.skip ?_
     show WP _ _ _ _ _ _
     refine WP.region (by kernel_rfl) fun K hK=>?_
     simp +decide only[TF,hk1,Nat.mul_one,hst,hL,↓reduceIte]
     refine hK _ _ ?_;clear hK K
     show WP _ _ _ _ _ _
     refine WP.region (by kernel_rfl) fun K hK=>?_
     simp +decide only[TF,↓reduceIte]
     refine hK _ _ ?_;clear hK K
     show ∃y,_∧Weak _ _ _
     refine⟨⟨(k+1,vs++[y]),?_⟩,?_,?_⟩
     · exact⟨hlt,by simp[hv],by rw[hI];congr 1;funext z;simp⟩
     · dsimp only;omega
     · exact Weak.store (by simp[St.get,lk,Le.refl,aT hlt (show (bn 124 [] s).length≤140737488355328 by have:=hcl.1;omega)]) (by simp[lk]) (by simp[lk]) (by simp[aA,lk,Ub]) (by simp)
   ·
    have hge:=aN q3
    rw[eP hge] at hI
    have hX:=hX2.trans (hI.trans (b:=(QO []).map (vs++·)) (show _=some vs by simp[QO]))
    have hvl:vs.length=(bn 124 [] s).length:=by omega
    have hne:vs.isEmpty=false:=by cases vs with|nil=>simp at hv;omega|cons=>rfl
    refine WP.weak (st':=⟨[(4,.slice 1 false (vs.map fun x=>[.str x]) none)],[]⟩) (Weak.thaw rfl (by simp only[List.mem_singleton,forall_eq];have:=D6 (σ:=lk [(0,aU.arr 9 (vw (bn 124 [] s) vs))]) (b:=0) (e:=9) (ls:=vs) (by simp[lk,ab3 hvl]);rw[hvl] at this;exact this)) ?_
    refine WP.exit ?_
    show WP _ _ _ _ _ _
    refine WP.sr [2,3] (by kernel_rfl) fun K hK=>?_
    simp +decide only[TF,↓reduceIte]
    refine hK _ _ ?_;clear hK K
    refine WP.ret ?_
    exact Ends.pure (d:= .aJ [_,_]) (.inr rfl) rfl ((by rw[hX];simp +decide only[tX,St.get,lk,W,hne,↓reduceIte];first|exact Le.refl _|exact Le.Qm (Le.nil _ _ _) (Le.refl _))) (by simp)
theorem yD (s:List UInt8)(hs:s.length≤1048576):ak Pr 109 [.str s] (tX (o8 s)):=by
 have hcl:=n_ 124 s []
 have hcm:=qp 124 s []
 refine ak.of_wp Tryz.func109 rfl (by kernel_rfl) Tryz.ntmps109 (by simp) ?_
 simp only[ay]
 refine WP.sr [0] (by kernel_rfl) fun K hK=>?_
 simp +decide only[TF,↓reduceIte]
 refine hK _ _ ?_;clear hK K
 refine WP.seq ?_
 refine WP.sr [0,10] (by kernel_rfl) fun K hK=>?_
 simp +decide only[TF,↓reduceIte]
 refine hK _ _ ?_;clear hK K
 refine WP.cond (b:=_) rfl (fun q1=>?_) (fun q1=>?_)
 ·
  have hX:=abZ q1
  refine WP.sr [2,3] (by kernel_rfl) fun K hK=>?_
  simp +decide only[TF,q1,↓reduceIte]
  refine hK _ _ ?_;clear hK K
  refine WP.ret ?_
  exact Ends.pure (d:= .aJ [_,_]) (.inr rfl) rfl ((by rw[hX];simp +decide only[tX,St.get,lk,W,List.isEmpty_nil,↓reduceIte];first|exact Le.refl _|exact Le.fg _|exact Le.Qm (Le.nil _ _ _) (Le.refl _))) (by simp)
 ·
  have h0:=q1
  refine WP.skip ?_
  show WP _ _ _ _ _ _
  refine WP.seq ?_
  refine WP.sr [0,12] (by kernel_rfl) fun K hK=>?_
  simp +decide only[TF,q1,↓reduceIte]
  refine hK _ _ ?_;clear hK K
  refine WP.cond (b:=_) rfl (fun q2=>?_) (fun q2=>?_)
  ·
   have hX:=ab1 h0 q2
   refine WP.sr [2,3] (by kernel_rfl) fun K hK=>?_
   simp +decide only[TF,q2,↓reduceIte]
   refine hK _ _ ?_;clear hK K
   refine WP.ret ?_
   exact Ends.pure (d:= .aJ [_,_]) (.inr rfl) rfl ((by rw[hX];simp +decide only[tX,St.get,lk,W,List.isEmpty_cons,↓reduceIte];first|exact Le.refl _|exact Le.fg _|exact Le.Qm (Le.nil _ _ _) (Le.refl _))) (by simp)
  ·
   have hX2:=VR h0 q2
   refine WP.skip ?_
   show WP _ _ _ _ _ _
   refine WP.sr [4] (by kernel_rfl) fun K hK=>?_
   simp +decide only[TF,q2,↓reduceIte]
   refine aj.pure (ad7 s 124 (by omega)) rfl rfl (by simp[-List.map_take]) ?_
   simp +decide only[TF,↓reduceIte]
   refine hK _ _ ?_;clear hK K
   refine WP.sr [4,5] (by kernel_rfl) fun K hK=>?_
   simp +decide only[TF,↓reduceIte]
   refine hK _ _ ?_;clear hK K
   refine WP.seq ?_
   refine WP.sr [4,5,6] (by kernel_rfl) fun K hK=>?_
   simp +decide only[TF,↓reduceIte]
   refine hK _ _ ?_;clear hK K
   refine WP.block ?_
   refine WP.lp [4] (X:={x:(Nat) × (List (List UInt8)) // match x with|(k,vs)=>k≤(bn 124 [] s).length∧vs.length=k∧QO (bn 124 [] s)=(QO ((bn 124 [] s).drop k)).map (vs++·)}) (fun x=>match x with| ⟨(k,vs),_⟩=>[(5,.slice 1 vs.isEmpty (vs.map fun x=>[.str x]) (some 0)),(6,.int .i64 k)]) (fun x=>match x with| ⟨(k,vs),_⟩=>[(0,.aS 9 1 vs.length)]) (fun x=>match x with| ⟨(k,vs),_⟩=>(bn 124 [] s).length - k) (by simp +decide only[W,↓reduceIte];rfl) ?_ ⟨(0,[]),⟨Nat.zero_le _,rfl,by simp⟩⟩ ?_
   rotate_left
   · refine Weak.trans (Weak.ghost 0 9 1 (F':=[(6,.int .i64 0),(5,.slice 1 true [] (some 0)),(4,.slice 1 false ((bn 124 [] s).map fun x=>[.str x]) none)]) (σ':=[]) (by simp[lk]) (by simp[keep,ins,Ac,zC]) (by simp[Dq])) ?_;exact Weak.store (by simp[St.get,lk,Le.refl]) (by simp[lk]) (by simp[lk]) (by simp[aA,lk]) (by simp[lk])
   rintro ⟨⟨k,vs⟩,hk,hv,hI⟩
   dsimp only
   simp only[List.cons_append,List.nil_append]
   refine WP.seq ?_
   refine WP.sr [4,5,6,19] (by kernel_rfl) fun K hK=>?_
   simp +decide only[TF,↓reduceIte]
   refine hK _ _ ?_;clear hK K
   refine WP.cond (b:=_) rfl (fun q3=>?_) (fun q3=>?_)
   ·
    have hlt:=aK q3
    have hg:((bn 124 [] s).map fun x=>[D.str x])[k]?=some [.str (bn 124 [] s)[k]]:=getM hlt
    rw[dI hlt] at hI
    refine WP.skip ?_
    show WP _ _ _ _ _ _
    refine WP.seq ?_
    refine WP.block ?_
    rcases hu:qG (bn 124 [] s)[k] with _|y
    ·
     rw[KF hu,Option.map_none] at hI
     have hX:=hX2.trans hI
     refine WP.sr [4,5,6,7,8] (by kernel_rfl) fun K hK=>?_
     simp +decide only[TF,q3,hg,↓reduceIte]
     refine aj.pure (uK (bn 124 [] s)[k] (by have:=hcm _ (List.getElem_mem hlt);simp at this;omega)) rfl rfl (by simp[-List.map_take]) ?_
     simp +decide only[TF,hu,Ej,↓reduceIte]
     refine hK _ _ ?_;clear hK K
     refine WP.seq ?_
     refine WP.sr [4,5,6,7,8,31] (by kernel_rfl) fun K hK=>?_
     simp +decide only[TF,↓reduceIte]
     refine hK _ _ ?_;clear hK K
     refine WP.cond (b:=true) (by rfl) (fun _=>?_) nofun
     refine WP.sr [2,3] (by kernel_rfl) fun K hK=>?_
     simp +decide only[TF,↓reduceIte]
     refine hK _ _ ?_;clear hK K
     refine WP.ret ?_
     exact Ends.pure (d:= .aJ [_,_]) (.inr rfl) rfl ((by rw[hX];simp +decide only[tX,St.get,lk,W,↓reduceIte];first|exact Le.refl _|exact Le.fg _|exact Le.Qm (Le.nil _ _ _) (Le.refl _))) (by simp)
    ·
     rw[Cj hu,Option.map_map] at hI
     refine WP.sr [4,5,6,7,8] (by kernel_rfl) fun K hK=>?_
     simp +decide only[TF,q3,hg,↓reduceIte]
     refine aj.pure (uK (bn 124 [] s)[k] (by have:=hcm _ (List.getElem_mem hlt);simp at this;omega)) rfl rfl (by simp[-List.map_take]) ?_
     simp +decide only[TF,hu,Ej,↓reduceIte]
     refine hK _ _ ?_;clear hK K
     refine WP.seq ?_
     refine WP.sr [4,5,6,7,8,31] (by kernel_rfl) fun K hK=>?_
     simp +decide only[TF,↓reduceIte]
     refine hK _ _ ?_;clear hK K
     refine WP.cond (b:=false) (by rfl) nofun (fun _=>?_)
     refine WP.skip ?_
     show WP _ _ _ _ _ _
     refine WP.region (by kernel_rfl) fun K hK=>?_
     simp +decide only[TF,↓reduceIte]
     refine⟨⟨by simp only[List.length_append,List.length_map,List.length_cons,List.length_nil];omega,by simp only[List.length_append,List.length_map,List.length_cons,List.length_nil];omega⟩,?_⟩
     refine hK _ _ ?_;clear hK K
     show WP _ _ _ _ _ _
     refine WP.region (by kernel_rfl) fun K hK=>?_
     simp +decide only[TF,↓reduceIte]
     refine hK _ _ ?_;clear hK K
     show ∃y,_∧Weak _ _ _
     refine⟨⟨(k+1,vs++[y]),?_⟩,?_,?_⟩
     · exact⟨hlt,by simp[hv],by rw[hI];congr 1;funext z;simp⟩
     · dsimp only;omega
     · exact Weak.store (by simp[St.get,lk,Le.refl,Hf,aT hlt (show (bn 124 [] s).length≤140737488355328 by have:=hcl.1;omega)]) (by simp[lk]) (by simp[lk,fE,wY,-List.mem_append,-List.mem_map,-List.append_assoc]) (by simp[aA,lk]) (by simp[lk])
   ·
    have hge:=aN q3
    rw[eP hge] at hI
    have hX:=hX2.trans (hI.trans (b:=(QO []).map (vs++·)) (show _=some vs by simp[QO]))
    have hne:vs.isEmpty=false:=by cases vs with|nil=>simp at hv;omega|cons=>rfl
    refine WP.exit ?_
    show WP _ _ _ _ _ _
    refine WP.sr [2,3] (by kernel_rfl) fun K hK=>?_
    simp +decide only[TF,q3,hne,↓reduceIte]
    refine hK _ _ ?_;clear hK K
    refine WP.ret ?_
    exact Ends.pure (d:= .aJ [_,_]) (.inr rfl) rfl ((by rw[hX];simp +decide only[tX,St.get,lk,W,hne,↓reduceIte];first|exact Le.refl _|exact Le.fg _|exact Le.Qm (Le.nil _ _ _) (Le.refl _))) (by simp)
def dw (a:As):List UInt8 × Int:=if (bC a != 0)=true then ([],bC a) else if decide (((h_ a).length:Int)>4096)=true then ([],3) else (h_ a,0)
theorem ab4 {a:As}(h:(bC a != 0)=true):dw a=([],bC a):=by unfold dw;rw[if_pos h]
theorem ab5 {a:As}(h0:(bC a != 0)=false)(h:decide (((h_ a).length:Int)>4096)=true):dw a=([],3):=by unfold dw;rw[if_neg (by rw[h0];decide),if_pos h]
theorem VU {a:As}(h0:(bC a != 0)=false)(h:decide (((h_ a).length:Int)>4096)=false):dw a=(h_ a,0):=by unfold dw;rw[if_neg (by rw[h0];decide),if_neg (by rw[h];decide)]
theorem ajB {a:As}(h:(bC a != 0)=false):bC a=0:=by simpa using h
def Ox (a:As):List (List UInt8 × List UInt8):=[(lT,aF a.id),(fP,aF a.iP),(gQ,aF a.jI),(iJ,aF a.sub),(jk,aF a.req),(jO,Lib.itoa a.jd),(kY,Lib.itoa a.fG),(oz,Lib.itoa a.lvl)]
def Cm (a:As)(k:Nat):List UInt8:=(((Ox a).take k).map fun p=>bU p.1 p.2).flatten
theorem aeT (a:As):Cm a 0=[]:=rfl
theorem XE (a:As):Cm a (Ox a).length=lI a:=by
 unfold Cm lI
 rw[List.take_length]
 simp[Ox]
theorem VW (a:As){k:Nat}(hk:k<(Ox a).length):Cm a (k+1)=Cm a k++bU (Ox a)[k].1 (Ox a)[k].2:=by
 unfold Cm
 rw[List.take_add_one,List.getElem?_eq_getElem hk,List.map_append,List.flatten_append]
 simp[-List.map_take]
theorem ab6 (a:As)(k:Nat):(Cm a k).length≤(lI a).length:=by
 rw[← XE]
 unfold Cm
 rw[List.take_length]
 have h:=congrArg (fun l=>((l.map fun p:List UInt8 × List UInt8=>bU p.1 p.2).flatten).length) (List.take_append_drop k (Ox a))
 simp only[List.map_append,List.flatten_append,List.length_append] at h
 omega
abbrev jq:List Nat:=[1,2,3,4,5,9,15]
theorem jY (a:As)(ha:a.ok):ak Pr 11 [.agg [.str a.id,.str a.iP,.str a.jI,.str a.sub,.str a.req,.int .i64 a.jd,.int .i64 a.fG,.int .i64 a.lvl,.slice 2 a.nl (a.ats.map At.cs) none]] (.aJ [.str (dw a).1,.int .i64 (dw a).2]):=by
 have ha0:=ha
 refine ak.W Tryz.func11 Tryz.ntmps11 ?_
 simp only[ay]
 iterate 2 first|(refine WP.S jq fun _ z=>?_;simp +decide only[TF,↓reduceIte];apply z;clear z)|apply WP.seq
 refine WP.S jq fun _ z=>?_
 simp +decide only[TF,↓reduceIte]
 refine aj.P (zX a ha) rfl rfl ?_
 simp +decide only[TF,↓reduceIte]
 apply z;clear z
 refine WP.S jq fun _ z=>?_;simp +decide only[TF,↓reduceIte];apply z;clear z
 refine WP.cond rfl (fun q1=>?_) (fun q1=>?_)
 ·have hX:=ab4 q1
  refine WP.S jq fun _ z=>?_;simp +decide only[TF,q1,↓reduceIte];apply z;clear z
  apply WP.ret
  exact Ends.P (d:= .aJ [_,_]) rfl ((by rw[hX];simp +decide only[St.get,lk,W,↓reduceIte];exact Le.refl _))
 have h0:=q1
 have hc:=ajB h0
 apply WP.skip;show WP ..
 refine WP.S jq fun _ z=>?_
 simp +decide only[TF,q1,↓reduceIte]
 refine aj.P (VP a ha0 hc) rfl rfl ?_
 simp +decide only[TF,↓reduceIte]
 apply z;clear z
 iterate 2 first|(refine WP.S jq fun _ z=>?_;simp +decide only[TF,↓reduceIte];apply z;clear z)|apply WP.seq
 refine WP.cond rfl (fun q2=>?_) (fun q2=>?_)
 ·have hX:=ab5 h0 q2
  refine WP.S jq fun _ z=>?_;simp +decide only[TF,q2,↓reduceIte];apply z;clear z
  apply WP.ret
  exact Ends.P (d:= .aJ [_,_]) rfl ((by rw[hX];simp +decide only[St.get,lk,W,↓reduceIte];exact Le.refl _))
 have hX:=VU h0 q2
 iterate 2 first|(refine WP.S jq fun _ z=>?_;simp +decide only[TF,q2,↓reduceIte];apply z;clear z)|(apply WP.skip;show WP ..)
 apply WP.ret
 exact Ends.P (d:= .aJ [_,_]) rfl ((by rw[hX];simp +decide only[St.get,lk,W,↓reduceIte];exact Le.refl _))
theorem Oy:ak Pr 44 [] (.slice 1 false [[D.str lT],[D.str fP],[D.str gQ],[D.str iJ],[D.str jk],[D.str jO],[D.str kY],[D.str oz]] none):=by
 refine ak.W Tryz.func44 Tryz.ntmps44 ?_
 simp only[ay]
 iterate 2 (refine WP.S [0] fun _ z=>?_;simp +decide only[TF,↓reduceIte];apply z;clear z)
 apply WP.ret
 exact Ends.P rfl ((Le.refl _))
abbrev dG:List Nat:=[1,2,3,4,5,6,7,8,9,10,14,45,67,89]
theorem rU (a:As)(ha:a.ok):ak Pr 12 [.agg [.str a.id,.str a.iP,.str a.jI,.str a.sub,.str a.req,.int .i64 a.jd,.int .i64 a.fG,.int .i64 a.lvl,.slice 2 a.nl (a.ats.map At.cs) none]] (.aJ [.str (dw a).1,.int .i64 (dw a).2]):=by
 have ha0:=ha
 refine ak.W Tryz.func12 Tryz.ntmps12 ?_
 simp only[ay]
 iterate 2 first|(refine WP.S dG fun _ z=>?_;simp +decide only[TF,↓reduceIte];apply z;clear z)|apply WP.seq
 refine WP.S dG fun _ z=>?_
 simp +decide only[TF,↓reduceIte]
 refine aj.P (Ci a ha0) rfl rfl ?_
 simp +decide only[TF,↓reduceIte]
 apply z;clear z
 refine WP.S dG fun _ z=>?_;simp +decide only[TF,↓reduceIte];apply z;clear z
 refine WP.cond rfl (fun q1=>?_) (fun q1=>?_)
 ·have hX:=ab4 q1
  refine WP.S dG fun _ z=>?_;simp +decide only[TF,q1,↓reduceIte];apply z;clear z
  apply WP.ret
  exact Ends.P (d:= .aJ [_,_]) rfl ((by rw[hX];simp +decide only[St.get,lk,W,↓reduceIte];exact Le.refl _))
 have h0:=q1
 have hc:=ajB h0
 obtain⟨⟨q1,q2,q3,q4,q5⟩,⟨q6,q7,q8⟩,⟨q9,q10⟩,hca⟩:=fO hc
 have hck:=xw hca
 have hhl:=jm hc
 obtain⟨⟨h1,h2,h3,h4,h5⟩,⟨h6,h7,h8⟩,h9,h10,h11⟩:=ha
 have hnA:(iI a.ats).length≤32:=by rw[yA];exact hck.len
 apply WP.skip;show WP ..
 refine WP.S dG fun _ z=>?_
 simp +decide only[TF,↓reduceIte]
 refine aj.P (Oy) rfl rfl ?_
 simp +decide only[TF,↓reduceIte]
 apply z;clear z
 refine WP.D dG fun _ z=>?_
 simp +decide only[TF,↓reduceIte]
 refine aj.P (jT a.id (by omega)) rfl rfl ?_
 simp +decide only[TF,↓reduceIte]
 refine aj.P (jT a.iP (by omega)) rfl rfl ?_
 simp +decide only[TF,↓reduceIte]
 refine aj.P (jT a.jI (by omega)) rfl rfl ?_
 simp +decide only[TF,↓reduceIte]
 refine aj.P (jT a.sub (by omega)) rfl rfl ?_
 simp +decide only[TF,↓reduceIte]
 refine aj.P (jT a.req (by omega)) rfl rfl ?_
 simp +decide only[TF,↓reduceIte]
 refine aj.P (PL a.jd (by omega) (by omega)) rfl rfl ?_
 simp +decide only[TF,↓reduceIte]
 refine aj.P (PL a.fG (by omega) (by omega)) rfl rfl ?_
 simp +decide only[TF,↓reduceIte]
 refine aj.P (PL a.lvl (by omega) (by omega)) rfl rfl ?_
 simp +decide only[TF,↓reduceIte]
 refine z _ _ (by kernel_rfl) ?_;clear z
 iterate 2 first|(refine WP.S dG fun _ z=>?_;simp +decide only[TF,↓reduceIte];apply z;clear z)|apply WP.seq
 refine WP.S [1,5,6,7,8] fun _ z=>?_;simp +decide only[TF,↓reduceIte];apply z;clear z
 apply WP.block
 refine WP.lp [1,5,6] (X:={k:Nat // k≤(Ox a).length}) (fun x=>match x with| ⟨(k),_⟩=>[(7,.str (Cm a k)),(8,.int .i64 k)]) (fun x=>match x with| ⟨(k),_⟩=>[(0,.box 24 [.str a.id,.str a.iP,.str a.jI,.str a.sub,.str a.req,.int .i64 a.jd,.int .i64 a.fG,.int .i64 a.lvl,.slice 2 a.nl (a.ats.map At.cs) none])]) (fun x=>match x with| ⟨(k),_⟩=>(Ox a).length - k) (by simp +decide only[W,↓reduceIte];rfl) ?_ ⟨(0),Nat.zero_le _⟩ ?_
 rotate_left
 ·exact Weak.store (by simp[St.get,lk,W,Le.refl,aeT]) (by simp[lk]) (by simp[lk]) (by simp[aA,lk]) (by simp)
 rintro ⟨k,hk⟩
 dsimp only
 simp only[List.cons_append,List.nil_append]
 iterate 2 first|(refine WP.S dG fun _ z=>?_;simp +decide only[TF,↓reduceIte];apply z;clear z)|apply WP.seq
 refine WP.cond rfl (fun q2=>?_) (fun q2=>?_)
 ·have hlt:k<(Ox a).length:=by have:=of_decide_eq_true q2;have h8:(Ox a).length=8:=rfl;omega
  have hg5:([[D.str lT],[D.str fP],[D.str gQ],[D.str iJ],[D.str jk],[D.str jO],[D.str kY],[D.str oz]]:List (List D))[k]?=some [.str (Ox a)[k].1]:=(getM hlt:((Ox a).map fun p=>[D.str p.1])[k]?=_)
  have hg6:([[D.str (aF a.id)],[D.str (aF a.iP)],[D.str (aF a.jI)],[D.str (aF a.sub)],[D.str (aF a.req)],[D.str (Lib.itoa a.jd)],[D.str (Lib.itoa a.fG)],[D.str (Lib.itoa a.lvl)]]:List (List D))[k]?=some [.str (Ox a)[k].2]:=(getM hlt:((Ox a).map fun p=>[D.str p.2])[k]?=_)
  have hhn:=VW a hlt
  have hhk:=ab6 a (k+1)
  have hlq:=congrArg List.length hhn
  rw[List.length_append,fZ] at hlq
  iterate 3 first|(apply WP.skip;show WP ..)|apply WP.block|apply WP.seq
  refine WP.E fun _ z=>?_
  simp +decide only[TF,q2,hg5,hg6,↓reduceIte]
  refine⟨by omega,by simp only[List.length_append];omega,by simp only[List.length_append,List.length_cons,List.length_nil];omega,by simp only[List.length_append,List.length_cons,List.length_nil];omega,?_⟩
  refine z _ _ (by kernel_rfl) ?_;clear z
  show WP ..
  refine WP.R fun _ z=>?_;simp +decide only[TF,↓reduceIte];apply z;clear z
  show ∃y,_∧Weak _ _ _
  refine⟨⟨k+1,hlt⟩,?_,?_⟩
  ·dsimp only;omega
  exact Weak.store (by simp[St.get,lk,Le.refl,hhn,bU,aT hlt (show (Ox a).length≤140737488355328 by have h8:(Ox a).length=8:=rfl;omega)]) (by simp[lk]) (by simp[lk]) (by simp[aA,lk]) (by simp)
 have hge:(Ox a).length≤k:=by have:=of_decide_eq_false q2;have h8:(Ox a).length=8:=rfl;omega
 obtain rfl:k=(Ox a).length:=by omega
 apply WP.exit;show WP ..
 refine WP.S dG fun _ z=>?_
 simp +decide only[TF,q2,↓reduceIte]
 refine aj.P (uQ a.ats a.nl h9 h10 h11 hck) rfl rfl ?_
 simp +decide only[TF,↓reduceIte]
 apply z;clear z
 apply WP.seq
 refine WP.S [7,9,10] fun _ z=>?_;simp +decide only[TF,↓reduceIte];apply z;clear z
 apply WP.block
 refine WP.lp [9] (X:={k:Nat // k≤(iI a.ats).length}) (fun x=>match x with| ⟨(k),_⟩=>[(7,.str (jX a k)),(10,.int .i64 k)]) (fun x=>match x with| ⟨(k),_⟩=>[(0,.box 24 [.str a.id,.str a.iP,.str a.jI,.str a.sub,.str a.req,.int .i64 a.jd,.int .i64 a.fG,.int .i64 a.lvl,.slice 2 a.nl (a.ats.map At.cs) none])]) (fun x=>match x with| ⟨(k),_⟩=>(iI a.ats).length - k) (by simp +decide only[W,↓reduceIte];rfl) ?_ ⟨(0),Nat.zero_le _⟩ ?_
 rotate_left
 ·exact Weak.store (by simp[St.get,lk,W,Le.refl,XE,Kz]) (by simp[lk]) (by simp[lk]) (by simp[aA,lk]) (by simp)
 rintro ⟨k,hk⟩
 dsimp only
 simp only[List.cons_append,List.nil_append]
 iterate 2 first|(refine WP.S dG fun _ z=>?_;simp +decide only[TF,↓reduceIte];apply z;clear z)|apply WP.seq
 refine WP.cond rfl (fun q3=>?_) (fun q3=>?_)
 ·have hlt:=aK q3
  have hne:(iI a.ats).isEmpty=false:=by cases hx:iI a.ats with|nil=>rw[hx] at hlt;simp at hlt|cons=>rfl
  obtain⟨hn1,ahD,hn3,hn4,hn5⟩:=oC hca (List.getElem_mem hlt)
  have hg:((iI a.ats).map At.cs)[k]?=some [.str (iI a.ats)[k].name,.slice 1 (iI a.ats)[k].nl ((iI a.ats)[k].vals.map fun x=>[.str x]) none]:=getM hlt
  have hlk:=KE hc k
  have hln:=xB a hlt
  have hal:=KD hca (List.getElem_mem hlt)
  have hcs:=KC hca (List.getElem_mem hlt)
  have hj9:(ng ((iI a.ats)[k].name::(iI a.ats)[k].vals)).length+6≤14000:=by have h:=hal;rw[Hg,fZ] at h;have h4:kZ.length=4:=rfl;omega
  iterate 3 first|(apply WP.skip;show WP ..)|apply WP.block|apply WP.seq
  refine WP.E fun _ z=>?_
  simp +decide only[TF,q3,hg,hne,ahD,↓reduceIte]
  refine⟨by omega,⟨by omega,by omega⟩,?_⟩
  refine aj.pure (abX ((iI a.ats)[k].name::(iI a.ats)[k].vals) false (by simp;omega) nofun (fun x hx=>by have:=hcs x hx;omega) (by have:=KA hcs;simp only[List.length_cons] at this;omega)) rfl rfl (by simp[fE]) ?_
  simp +decide only[TF,↓reduceIte]
  refine⟨by simp only[List.length_append,List.length_cons,List.length_nil];omega,by simp only[List.length_append,List.length_cons,List.length_nil];omega,?_⟩
  refine z _ _ (by kernel_rfl) ?_;clear z
  show WP ..
  refine WP.R fun _ z=>?_;simp +decide only[TF,↓reduceIte];apply z;clear z
  show ∃y,_∧Weak _ _ _
  refine⟨⟨k+1,hlt⟩,?_,?_⟩
  ·dsimp only;omega
  exact Weak.store (by simp[St.get,lk,Le.refl,hln,Hg,bU,kZ,hne,aT hlt (show (iI a.ats).length≤140737488355328 by omega)]) (by simp[lk]) (by simp[lk]) (by simp[aA,lk]) (by simp)
 have hge:=aN q3
 obtain rfl:k=(iI a.ats).length:=by omega
 iterate 3 first|(refine WP.S dG fun _ z=>?_;simp +decide only[TF,q3,↓reduceIte];apply z;clear z)|(apply WP.exit;show WP ..)|apply WP.seq
 refine WP.cond rfl (fun q4=>?_) (fun q4=>?_)
 ·have hX:=ab5 h0 (by rw[← uS];exact q4)
  refine WP.S dG fun _ z=>?_;simp +decide only[TF,q4,↓reduceIte];apply z;clear z
  apply WP.ret
  exact Ends.P (d:= .aJ [_,_]) rfl ((by rw[hX];simp +decide only[St.get,lk,W,↓reduceIte];exact Le.refl _))
 have hX:=VU h0 (by rw[← uS];exact q4)
 rw[← uS] at hX
 iterate 2 first|(refine WP.S dG fun _ z=>?_;simp +decide only[TF,q4,↓reduceIte];apply z;clear z)|(apply WP.skip;show WP ..)
 apply WP.ret
 exact Ends.P (d:= .aJ [_,_]) rfl ((by rw[hX];simp +decide only[St.get,lk,W,↓reduceIte];exact Le.refl _))
def kM:Value:= .agg #[]
theorem ab7 {M:Nat→Nat→Prop}{γ:Nat→Option G}{w:World}{v:Value}(h:Rep M γ w (.iface 83 (.agg [])) v):v= .iface 83 kM:=by
 cases h with
 |iface h=>cases h with
  |agg hl hr=>rename_i vs;have:=Array.eq_empty_of_size_eq_zero (by simpa using hl);subst this;rfl
theorem rG:fU Pr (some (.iface 83 kM)) 54 [.bool false] [] .junk []:=by
 refine fU.of_wp Tryz.func54 rfl (by kernel_rfl) Tryz.ntmps54 (by simp) ?_
 simp only[ay,List.map_nil]
 refine WP.S [3] fun _ z=>?_;simp +decide only[TF,↓reduceIte];apply z;clear z
 refine WP.cT ?_
 refine WP.agM 2 (t:=83) (x:=kM) (by kernel_rfl) rfl rfl rfl fun K hK=>?_
 simp only[List.take_succ_cons,List.take_zero]
 simp +decide only[TF,↓reduceIte]
 refine hK _ _ (fun M γ w v hr=>ab7 (by simpa [bQ,St.get,lk,W] using hr)) ?_
 clear hK K
 show kE _ _ _ _ _ _ _ _
 exact kE.panic rfl rfl (by simp) (by simp)
theorem D7:ak Pr 54 [.bool true] (.aJ []):=by
 refine ak.W Tryz.func54 Tryz.ntmps54 ?_
 simp only[ay]
 iterate 2 first|(refine WP.S [3] fun _ z=>?_;simp +decide only[TF,↓reduceIte];apply z;clear z)|refine WP.cF ?_
 apply WP.skip
 exact Ends.P rfl (Le.of_eq (by simp +decide only[St.get]))
def rV (k:List UInt8)(ls:List (List UInt8)):Option (List UInt8 × List (List UInt8)):=
 if decide ((ls.length:Int)>1)=true then (if Lib.hasPrefix (ls.headD []) (k++[61])=true then some (Lib.trimPrefix (ls.headD []) (k++[61]),ls.tail) else none) else none
def xL {α:Type}(o:Option α):Option Value:=match o with|some _=>none|none=>some (.iface 83 kM)
def vL (o:Option (List UInt8 × List (List UInt8))):D:=match o with|some q=> .str q.1|none=> .junk
def rL (ls:List (List UInt8))(o:Option (List UInt8 × List (List UInt8))):List (List UInt8):=match o with|some q=>q.2|none=>ls
theorem ajC {k:List UInt8}{ls:List (List UInt8)}(h:decide ((ls.length:Int)>1)=false):rV k ls=none:=by unfold rV;rw[if_neg (by rw[h];decide)]
theorem ajD {k x:List UInt8}{l:List (List UInt8)}(h:Lib.hasPrefix x (k++[61])=false):rV k (x::l)=none:=by
 unfold rV
 split
 ·rw[if_neg (by simp[h])]
 ·rfl
theorem af7 {k x:List UInt8}{l:List (List UInt8)}(h0:decide (((x::l).length:Int)>1)=true)(h:Lib.hasPrefix x (k++[61])=true):rV k (x::l)=some (Lib.trimPrefix x (k++[61]),l):=by
 unfold rV;rw[if_pos h0,if_pos (by simpa using h)];rfl
theorem XF (k y:List UInt8)(ls:List (List UInt8))(hk:k.length≤100):fU Pr (xL (rV k (y::ls))) 53 [.ref 0 0,.str k] [(0,.box 88 [.slice 1 false ((y::ls).map fun x=>[D.str x]) none])] (vL (rV k (y::ls))) [(0,.box 88 [.slice 1 false ((rL (y::ls) (rV k (y::ls))).map fun x=>[D.str x]) none])]:=by
 have h1l:(1≤ls.length+1)=True:=eq_true (by omega)
 have htk:List.take ls.length (ls.map fun x=>[D.str x])=ls.map fun x=>[D.str x]:=List.take_of_length_le (by simp)
 refine fU.of_wp Tryz.func53 rfl (by kernel_rfl) Tryz.ntmps53 (by simp) ?_
 simp only[ay,Nat.zero_add,List.map_cons,List.map_nil]
 refine WP.sr [0,1] (by kernel_rfl) fun K hK=>?_
 simp +decide only[TF,↓reduceIte]
 refine hK _ _ ?_;clear hK K
 rcases hq:decide (((y::ls).length:Int)>1) with _ | _
 ·
  have hno:rV k (y::ls)=none:=ajC hq
  rw[List.length_cons] at hq
  refine WP.seq ?_
  refine WP.lX 6 (x:= .iface 83 kM) (by kernel_rfl) rfl rfl rfl fun K hK=>?_
  simp only[List.take_succ_cons,List.take_zero]
  simp +decide only[TF,hq,↓reduceIte]
  refine hK _ _ ?_;clear hK K
  refine iM.imp (rG) rfl rfl (by simp[lk,aA]) (by simp[lk]) (by simp[lk]) ?_
  show kE _ _ _ _ _ _ _ _
  refine kE.panic (by rw[hno];rfl) (by rw[hno];rfl) ?_ ?_
  · simp[St.lay,lk,aA,W,rL,hno]
  · simp[lk]
 ·
  have hq0:=hq
  rw[List.length_cons] at hq
  refine WP.sr [0,1] (by kernel_rfl) fun K hK=>?_
  simp +decide only[TF,hq,↓reduceIte]
  refine aj.pure (D7) rfl rfl (by simp[-List.map_take]) ?_
  simp +decide only[TF,↓reduceIte]
  refine hK _ _ ?_;clear hK K
  refine WP.sr [0,5,6] (by kernel_rfl) fun K hK=>?_
  simp +decide only[TF,↓reduceIte]
  refine⟨by omega,?_⟩
  refine aj.pure (LJ _ _) rfl rfl (by simp[-List.map_take]) ?_
  simp +decide only[TF,↓reduceIte]
  refine hK _ _ ?_;clear hK K
  rcases hp:Lib.hasPrefix y (k++[61]) with _ | _
  ·
   have hno:rV k (y::ls)=none:=ajD hp
   refine WP.seq ?_
   refine WP.lX 1 (x:= .iface 83 kM) (by kernel_rfl) rfl rfl rfl fun K hK=>?_
   simp only[List.take_succ_cons,List.take_zero]
   simp +decide only[TF,↓reduceIte]
   refine hK _ _ ?_;clear hK K
   refine iM.imp (rG) rfl rfl (by simp[lk,aA]) (by simp[lk]) (by simp[lk]) ?_
   show kE _ _ _ _ _ _ _ _
   refine kE.panic (by rw[hno];rfl) (by rw[hno];rfl) ?_ ?_
   · simp[St.lay,lk,aA,W,rL,hno]
   · simp[lk]
  ·
   have hyes:=af7 hq0 hp
   refine WP.sr [0,5] (by kernel_rfl) fun K hK=>?_
   simp +decide only[TF,↓reduceIte]
   refine aj.pure (D7) rfl rfl (by simp[-List.map_take]) ?_
   simp +decide only[TF,↓reduceIte]
   refine hK _ _ ?_;clear hK K
   refine WP.sr [5] (by kernel_rfl) fun K hK=>?_
   simp +decide only[TF,h1l,htk,↓reduceIte]
   refine hK _ _ ?_;clear hK K
   refine WP.sr [4] (by kernel_rfl) fun K hK=>?_
   simp +decide only[TF,↓reduceIte]
   refine hK _ _ ?_;clear hK K
   refine WP.ret ?_
   refine kE.ret (by rw[hyes];rfl) ?_
   refine Ends.imp (.inr rfl) rfl (Le.of_eq (by simp +decide only[St.get,W,vL,hyes,↓reduceIte])) ?_ ?_ ?_
   · simp[hyes,vL]
   · simp[lk,aA,rL,hyes]
   · simp[lk]
theorem xC {k y:List UInt8}{ls:List (List UInt8)}{q:List UInt8 × List (List UInt8)}(hk:k.length≤100)(h:rV k (y::ls)=some q):aG Pr 53 [.ref 0 0,.str k] [(0,.box 88 [.slice 1 false ((y::ls).map fun x=>[D.str x]) none])] (.str q.1) [(0,.box 88 [.slice 1 false (q.2.map fun x=>[D.str x]) none])]:=by
 have:=XF k y ls hk
 rw[h] at this
 exact this
theorem KG {k y:List UInt8}{ls:List (List UInt8)}(hk:k.length≤100)(h:rV k (y::ls)=none):fU Pr (some (.iface 83 kM)) 53 [.ref 0 0,.str k] [(0,.box 88 [.slice 1 false ((y::ls).map fun x=>[D.str x]) none])] .junk [(0,.box 88 [.junk])]:=by
 have:=XF k y ls hk
 rw[h] at this
 exact this.Po ⟨Le.junk _,trivial⟩
theorem Zf (s t:List UInt8):(Lib.trimPrefix s t).length≤s.length:=by
 unfold Lib.trimPrefix
 split <;> simp
theorem CB {k y:List UInt8}{ls:List (List UInt8)}{q:List UInt8 × List (List UInt8)}(h:rV k (y::ls)=some q):q.1.length≤y.length∧q.2=ls∧ls≠[]:=by
 unfold rV at h
 split at h
 ·rename_i h0
  split at h
  ·cases h
   refine⟨Zf _ _,rfl,?_⟩
   rintro rfl
   simp at h0
  ·cases h
 ·cases h
def lU (k:List UInt8)(ls:List (List UInt8)):Option (List UInt8 × List (List UInt8)):=(rV k ls).bind fun q=>(qG q.1).map fun z=>(z,q.2)
def rD (o:Option (List UInt8 × List (List UInt8))):D:=match o with|some q=> .slice 1 false (q.2.map fun x=>[D.str x]) none|none=> .junk
theorem Zg (k:List UInt8)(ls:List (List UInt8)):(rV k ls=none∧lU k ls=none)∨(∃q,rV k ls=some q∧qG q.1=none∧lU k ls=none)∨∃q z,rV k ls=some q∧qG q.1=some z∧lU k ls=some (z,q.2):=by
 unfold lU
 cases h:rV k ls with
 |none=>exact .inl ⟨rfl,rfl⟩
 |some q=>
  cases hu:qG q.1 with
  |none=>exact .inr (.inl ⟨q,rfl,hu,by simp[hu]⟩)
  |some z=>exact .inr (.inr ⟨q,z,rfl,hu,by simp[hu]⟩)
theorem XG (k y:List UInt8)(ls:List (List UInt8))(hk:k.length≤100)(hy:y.length≤4096):fU Pr (xL (lU k (y::ls))) 50 [.ref 0 0,.str k] [(0,.box 88 [.slice 1 false ((y::ls).map fun x=>[D.str x]) none])] (vL (lU k (y::ls))) [(0,.box 88 [rD (rV k (y::ls))])]:=by
 refine fU.of_wp Tryz.func50 rfl (by kernel_rfl) Tryz.ntmps50 (by simp) ?_
 simp only[ay,Nat.zero_add,List.map_cons,List.map_nil]
 refine WP.sr [0,1] (by kernel_rfl) fun K hK=>?_
 simp +decide only[TF,↓reduceIte]
 refine hK _ _ ?_;clear hK K
 rcases Zg k (y::ls) with⟨hn,ht⟩ | ⟨q,hn,hu,ht⟩ | ⟨q,z,hn,hu,ht⟩
 ·
  refine WP.seq ?_
  refine WP.lX 2 (x:= .iface 83 kM) (by kernel_rfl) rfl rfl rfl fun K hK=>?_
  simp only[List.take_succ_cons,List.take_zero]
  simp +decide only[TF,↓reduceIte]
  refine hK _ _ ?_;clear hK K
  refine iM.imp (KG hk hn) rfl rfl (by simp[lk,aA]) (by simp[lk]) (by simp[lk]) ?_
  show kE _ _ _ _ _ _ _ _
  refine kE.panic (by rw[ht];rfl) (by rw[ht];rfl) ?_ ?_
  · simp[St.lay,lk,dl,aA,W,rD,hn]
  · simp[lk]
 ·
  have hql:=CB hn
  have hbad:=trivial
  refine WP.sr [5,6] (by kernel_rfl) fun K hK=>?_
  simp +decide only[TF,↓reduceIte]
  refine aj.imp (xC hk hn) rfl rfl (by simp[lk,aA]) (by simp[lk]) (by simp[lk]) ?_
  simp +decide only[TF,↓reduceIte]
  refine aj.pure (uJ q.1 (by omega)) rfl rfl (by simp[-List.map_take]) ?_
  simp +decide only[TF,hu,Ej,↓reduceIte]
  refine hK _ _ ?_;clear hK K
  rcases True.intro with _
  ·
   refine WP.seq ?_
   refine WP.lX 2 (x:= .iface 83 kM) (by kernel_rfl) rfl rfl rfl fun K hK=>?_
   simp only[List.take_succ_cons,List.take_zero]
   simp +decide only[TF,↓reduceIte]
   refine hK _ _ ?_;clear hK K
   refine iM.imp (rG) rfl rfl (by simp[lk,aA]) (by simp[lk]) (by simp[lk]) ?_
   show kE _ _ _ _ _ _ _ _
   refine kE.panic (by rw[ht];rfl) (by rw[ht];rfl) ?_ ?_
   · simp[St.lay,lk,aA,W,rD,hn]
   · simp[lk]
 ·
  have hql:=CB hn
  refine WP.sr [5,6] (by kernel_rfl) fun K hK=>?_
  simp +decide only[TF,↓reduceIte]
  refine aj.imp (xC hk hn) rfl rfl (by simp[lk,aA]) (by simp[lk]) (by simp[lk]) ?_
  simp +decide only[TF,↓reduceIte]
  refine aj.pure (uJ q.1 (by omega)) rfl rfl (by simp[-List.map_take]) ?_
  simp +decide only[TF,hu,Ej,↓reduceIte]
  refine hK _ _ ?_;clear hK K
  refine WP.sr [5] (by kernel_rfl) fun K hK=>?_
  simp +decide only[TF,↓reduceIte]
  refine aj.pure (D7) rfl rfl (by simp[-List.map_take]) ?_
  simp +decide only[TF,↓reduceIte]
  refine hK _ _ ?_;clear hK K
  refine WP.sr [4] (by kernel_rfl) fun K hK=>?_
  simp +decide only[TF,↓reduceIte]
  refine hK _ _ ?_;clear hK K
  refine WP.ret ?_
  refine kE.ret (by rw[ht];rfl) ?_
  refine Ends.imp (.inr rfl) rfl (Le.of_eq (by simp +decide only[St.get,W,vL,ht,↓reduceIte])) ?_ ?_ ?_
  · simp[ht,vL]
  · simp[lk,aA,rD,hn]
  · simp[lk]
def zY (k:List UInt8)(ls:List (List UInt8)):Option (Int × List (List UInt8)):=(rV k ls).bind fun q=>if ((uY q.1).2 == 0)=true then some ((uY q.1).1,q.2) else none
def vNb (o:Option (Int × List (List UInt8))):D:=match o with|some q=> .int .i64 q.1|none=> .junk
theorem Zh (k:List UInt8)(ls:List (List UInt8)):(rV k ls=none∧zY k ls=none)∨(∃q,rV k ls=some q∧((uY q.1).2 == 0)=false∧zY k ls=none)∨∃q,rV k ls=some q∧((uY q.1).2 == 0)=true∧zY k ls=some ((uY q.1).1,q.2):=by
 unfold zY
 cases h:rV k ls with
 |none=>exact .inl ⟨rfl,rfl⟩
 |some q=>
  cases hu:((uY q.1).2 == 0) with
  |false=>exact .inr (.inl ⟨q,rfl,hu,by simp only[Option.bind_some,hu];rfl⟩)
  |true=>exact .inr (.inr ⟨q,rfl,hu,by simp only[Option.bind_some,hu,↓reduceIte]⟩)
theorem Oz (k y:List UInt8)(ls:List (List UInt8))(hk:k.length≤100)(hy:y.length≤4096):fU Pr (xL (zY k (y::ls))) 51 [.ref 0 0,.str k] [(0,.box 88 [.slice 1 false ((y::ls).map fun x=>[D.str x]) none])] (vNb (zY k (y::ls))) [(0,.box 88 [rD (rV k (y::ls))])]:=by
 refine fU.of_wp Tryz.func51 rfl (by kernel_rfl) Tryz.ntmps51 (by simp) ?_
 simp only[ay,Nat.zero_add,List.map_cons,List.map_nil]
 refine WP.sr [0,1] (by kernel_rfl) fun K hK=>?_
 simp +decide only[TF,↓reduceIte]
 refine hK _ _ ?_;clear hK K
 rcases Zh k (y::ls) with⟨hn,ht⟩ | ⟨q,hn,hu,ht⟩ | ⟨q,hn,hu,ht⟩
 ·
  refine WP.seq ?_
  refine WP.lX 2 (x:= .iface 83 kM) (by kernel_rfl) rfl rfl rfl fun K hK=>?_
  simp only[List.take_succ_cons,List.take_zero]
  simp +decide only[TF,↓reduceIte]
  refine hK _ _ ?_;clear hK K
  refine iM.imp (KG hk hn) rfl rfl (by simp[lk,aA]) (by simp[lk]) (by simp[lk]) ?_
  show kE _ _ _ _ _ _ _ _
  refine kE.panic (by rw[ht];rfl) (by rw[ht];rfl) ?_ ?_
  · simp[St.lay,lk,dl,aA,W,rD,hn]
  · simp[lk]
 ·
  have hql:=CB hn
  refine WP.sr [5,6] (by kernel_rfl) fun K hK=>?_
  simp +decide only[TF,↓reduceIte]
  refine aj.imp (xC hk hn) rfl rfl (by simp[lk,aA]) (by simp[lk]) (by simp[lk]) ?_
  simp +decide only[TF,↓reduceIte]
  refine aj.pure (NW q.1 (by omega)) rfl rfl (by simp[-List.map_take]) ?_
  simp +decide only[TF,Ld,↓reduceIte]
  refine hK _ _ ?_;clear hK K
  rcases True.intro with _
  ·
   refine WP.seq ?_
   refine WP.lX 2 (x:= .iface 83 kM) (by kernel_rfl) rfl rfl rfl fun K hK=>?_
   simp only[List.take_succ_cons,List.take_zero]
   simp +decide only[TF,hu,↓reduceIte]
   refine hK _ _ ?_;clear hK K
   refine iM.imp (rG) rfl rfl (by simp[lk,aA]) (by simp[lk]) (by simp[lk]) ?_
   show kE _ _ _ _ _ _ _ _
   refine kE.panic (by rw[ht];rfl) (by rw[ht];rfl) ?_ ?_
   · simp[St.lay,lk,aA,W,rD,hn]
   · simp[lk]
 ·
  have hql:=CB hn
  refine WP.sr [5,6] (by kernel_rfl) fun K hK=>?_
  simp +decide only[TF,↓reduceIte]
  refine aj.imp (xC hk hn) rfl rfl (by simp[lk,aA]) (by simp[lk]) (by simp[lk]) ?_
  simp +decide only[TF,↓reduceIte]
  refine aj.pure (NW q.1 (by omega)) rfl rfl (by simp[-List.map_take]) ?_
  simp +decide only[TF,Ld,↓reduceIte]
  refine hK _ _ ?_;clear hK K
  refine WP.sr [5] (by kernel_rfl) fun K hK=>?_
  simp +decide only[TF,hu,↓reduceIte]
  refine aj.pure (D7) rfl rfl (by simp[-List.map_take]) ?_
  simp +decide only[TF,↓reduceIte]
  refine hK _ _ ?_;clear hK K
  refine WP.sr [4] (by kernel_rfl) fun K hK=>?_
  simp +decide only[TF,↓reduceIte]
  refine hK _ _ ?_;clear hK K
  refine WP.ret ?_
  refine kE.ret (by rw[ht];rfl) ?_
  refine Ends.imp (.inr rfl) rfl (Le.of_eq (by simp +decide only[St.get,W,vNb,ht,↓reduceIte])) ?_ ?_ ?_
  · simp[ht,vNb]
  · simp[lk,aA,rD,hn]
  · simp[lk]
theorem aeV {k:List UInt8}{ls:List (List UInt8)}{z:List UInt8}{r:List (List UInt8)}(h:lU k ls=some (z,r)):∃x,rV k ls=some (x,r):=by
 unfold lU at h
 cases hq:rV k ls with
 |none=>rw[hq] at h;cases h
 |some q=>
  rw[hq] at h
  simp only[Option.bind_some,Option.map_eq_some_iff] at h
  obtain⟨w,_,e⟩:=h
  cases e
  exact⟨q.1,rfl⟩
theorem aeW {k:List UInt8}{ls:List (List UInt8)}{z:Int}{r:List (List UInt8)}(h:zY k ls=some (z,r)):∃x,rV k ls=some (x,r):=by
 unfold zY at h
 cases hq:rV k ls with
 |none=>rw[hq] at h;cases h
 |some q=>
  rw[hq] at h
  simp only[Option.bind_some] at h
  split at h
  ·cases h;exact⟨q.1,rfl⟩
  ·cases h
theorem ab8 {k y z:List UInt8}{ls r:List (List UInt8)}(hk:k.length≤100)(hy:y.length≤4096)(h:lU k (y::ls)=some (z,r)):aG Pr 50 [.ref 0 0,.str k] [(0,.box 88 [.slice 1 false ((y::ls).map fun x=>[D.str x]) none])] (.str z) [(0,.box 88 [.slice 1 false (r.map fun x=>[D.str x]) none])]:=by
 have:=XG k y ls hk hy
 obtain⟨x,hx⟩:=aeV h
 rw[h,hx] at this
 exact this
theorem ab9 {k y:List UInt8}{ls:List (List UInt8)}(hk:k.length≤100)(hy:y.length≤4096)(h:lU k (y::ls)=none):fU Pr (some (.iface 83 kM)) 50 [.ref 0 0,.str k] [(0,.box 88 [.slice 1 false ((y::ls).map fun x=>[D.str x]) none])] .junk [(0,.box 88 [.junk])]:=by
 have:=XG k y ls hk hy
 rw[h] at this
 exact this.Po ⟨Le.junk _,trivial⟩
theorem VX {k y:List UInt8}{z:Int}{ls r:List (List UInt8)}(hk:k.length≤100)(hy:y.length≤4096)(h:zY k (y::ls)=some (z,r)):aG Pr 51 [.ref 0 0,.str k] [(0,.box 88 [.slice 1 false ((y::ls).map fun x=>[D.str x]) none])] (.int .i64 z) [(0,.box 88 [.slice 1 false (r.map fun x=>[D.str x]) none])]:=by
 have:=Oz k y ls hk hy
 obtain⟨x,hx⟩:=aeW h
 rw[h,hx] at this
 exact this
theorem VY {k y:List UInt8}{ls:List (List UInt8)}(hk:k.length≤100)(hy:y.length≤4096)(h:zY k (y::ls)=none):fU Pr (some (.iface 83 kM)) 51 [.ref 0 0,.str k] [(0,.box 88 [.slice 1 false ((y::ls).map fun x=>[D.str x]) none])] .junk [(0,.box 88 [.junk])]:=by
 have:=Oz k y ls hk hy
 rw[h] at this
 exact this.Po ⟨Le.junk _,trivial⟩
def nxA (ls:List (List UInt8)):Option (At × List (List UInt8)):=(rV kZ ls).bind fun q=>(o8 q.1).bind fun vs=>match vs with|n::v::l=>some (⟨n,false,v::l⟩,q.2) | _=>none
def xE:Nat→List (List UInt8)→List At→Option (List At)
 | 0,_,acc=>some acc
 |n+1,ls,acc=>if decide ((ls.length:Int)>1)=true then (nxA ls).bind fun q=>xE n q.2 (acc++[q.1]) else some acc
def bD:As:=⟨[],[],[],[],[],0,0,0,true,[]⟩
def rdA (ls:List (List UInt8)):Option As:=
 (lU lT ls).bind fun q1=>(lU fP q1.2).bind fun q2=>(lU gQ q2.2).bind fun q3=>(lU iJ q3.2).bind fun q4=>(lU jk q4.2).bind fun q5=>
 (zY jO q5.2).bind fun q6=>(zY kY q6.2).bind fun q7=>(zY oz q7.2).bind fun q8=>(xE q8.2.length q8.2 []).map fun l=>⟨q1.1,q2.1,q3.1,q4.1,q5.1,q6.1,q7.1,q8.1,l.isEmpty,l⟩
def ig (s:List UInt8):As × Int:=
 if decide ((s.length:Int)>4096)=true then (bD,3) else match rdA (bn 10 [] s) with
  |none=>(bD,4)
  |some a=>if (((dw a).2 == 0) && ((dw a).1 == s))=true then (a,0) else (bD,4)
theorem Uc:∀n,n<16→hexD n∈hexL:=by decide +kernel
theorem acd {c:UInt8}(h:fA c.toNat=false)(h2:c≠37)(h3:c ∉ hexL)(s:List UInt8):c ∉ aF s:=by
 unfold aF
 rw[List.mem_flatMap]
 rintro ⟨x,_,hx⟩
 unfold vg at hx
 have hlt:=x.toNat_lt
 split at hx
 ·rename_i hp
  simp only[List.mem_singleton] at hx
  subst hx;rw[h] at hp;cases hp
 ·simp only[List.mem_cons,List.not_mem_nil,or_false] at hx
  rcases hx with hx|hx|hx
  ·exact h2 hx
  ·exact h3 (hx ▸ Uc _ (by omega))
  ·exact h3 (hx ▸ Uc _ (by omega))
theorem ace (s:List UInt8):(10:UInt8) ∉ aF s:=acd (by decide) (by decide) (by decide) s
theorem aeX (s:List UInt8):(124:UInt8) ∉ aF s:=acd (by decide) (by decide) (by decide) s
theorem XH {c d:UInt8}(h:c≠d):∀ls:List (List UInt8),(∀l∈ls,c ∉ l)→c ∉ Lib.join ls [d]
 | [],_=>by simp[Lib.join_nil]
 | [x],hl=>by rw[Lib.join_one];exact hl x (by simp)
 |x::y::r,hl=>by
  rw[afP]
  have:=XH h (y::r) fun l hm=>hl l (List.mem_cons_of_mem _ hm)
  simp only[List.mem_append,List.mem_cons,not_or]
  exact⟨hl x (by simp),h,this⟩
theorem aeY (ls:List (List UInt8)):(10:UInt8) ∉ ng ls:=by
 unfold ng
 split
 ·decide
 split
 ·decide
 ·refine XH (by decide) _ fun l hl=>?_
  obtain⟨x,_,rfl⟩:=List.mem_map.1 hl
  exact ace x
theorem XI:∀ls:List (List UInt8),QO (ls.map aF)=some ls
 | []=>rfl
 |x::l=>by rw[List.map_cons,Cj (qw x),XI l];rfl
theorem acf {x y:List UInt8}(h:aF x=aF y):x=y:=by
 have:=qw x
 rw[h,qw y] at this
 exact (Option.some.inj this).symm
theorem OA (ls:List (List UInt8)):o8 (ng ls)=some ls:=by
 cases ls with
 |nil=>rfl
 |cons x l=>
  unfold ng
  rw[if_neg (by simp;omega)]
  split
  ·rename_i h;rw[h];rfl
  ·rename_i h
   have hc:bn 124 [] (Lib.join ((x::l).map aF) [124])=(x::l).map aF:=S9 124 _ (by simp) fun w hw=>by
    obtain⟨y,_,rfl⟩:=List.mem_map.1 hw
    exact aeX y
   rw[VR,hc,XI]
   ·rw[beq_eq_false_iff_ne]
    intro e
    rw[e] at hc
    refine h ?_
    have h1:(x::l).map aF=[aF [45]]:=hc.symm
    cases l with
    |nil=>simp only[List.map_cons,List.map_nil,List.cons.injEq,and_true] at h1;rw[acf h1]
    |cons y l=>simp at h1
   ·rw[beq_eq_false_iff_ne]
    intro e
    rw[e] at hc
    have h1:(x::l).map aF=[[37,50,68]]:=hc.symm
    have h2:=qw x
    simp only[List.map_cons,List.cons.injEq] at h1
    rw[h1.1] at h2
    revert h2
    rw[show qG [37,50,68]=none from by decide +kernel]
    exact fun h=>by cases h
theorem OB:∀ls:List (List UInt8),(∀l∈ls,(10:UInt8) ∉ l)→bn 10 [] ((ls.map (·++[10])).flatten)=ls++[[]]
 | [],_=>rfl
 |x::l,h=>by
  rw[List.map_cons,List.flatten_cons,List.append_assoc,wP 10 x [] _ (h x (by simp)),List.nil_append,List.singleton_append,JM,OB l fun y hy=>h y (List.mem_cons_of_mem _ hy)]
  rfl
def D8 (k v:List UInt8):List UInt8:=k++[61]++v
def LU (a:As):List (List UInt8):=[D8 lT (aF a.id),D8 fP (aF a.iP),D8 gQ (aF a.jI),D8 iJ (aF a.sub),D8 jk (aF a.req),D8 jO (Lib.itoa a.jd),D8 kY (Lib.itoa a.fG),D8 oz (Lib.itoa a.lvl)]++(iI a.ats).map fun x=>D8 kZ (ng (x.name::x.vals))
theorem VZ (a:As):h_ a=((LU a).map (·++[10])).flatten:=by
 unfold h_ LU lI
 have:∀l:List At,(l.map Hg).flatten=((l.map fun x=>D8 kZ (ng (x.name::x.vals))).map (·++[10])).flatten:=fun l=>by
  rw[List.map_map];rfl
 rw[this,List.map_append,List.flatten_append]
 simp[bU,D8]
theorem ahF {k v:List UInt8}(h:(10:UInt8) ∉ k)(h2:(10:UInt8) ∉ v):(10:UInt8) ∉ D8 k v:=by
 unfold D8
 simp only[List.mem_append,List.mem_singleton,not_or]
 exact⟨⟨h,by decide⟩,h2⟩
theorem aeZ (a:As):∀l∈LU a,(10:UInt8) ∉ l:=by
 intro l hl
 unfold LU at hl
 simp only[List.mem_append,List.mem_cons,List.not_mem_nil,or_false,List.mem_map] at hl
 rcases hl with (rfl|rfl|rfl|rfl|rfl|rfl|rfl|rfl) | ⟨x,_,rfl⟩
 all_goals refine ahF (by decide) ?_
 all_goals first|exact ace _|exact (ag4 _).2.2|exact aeY _
theorem KH (a:As):bn 10 [] (h_ a)=LU a++[[]]:=by rw[VZ,OB _ (aeZ a)]
theorem Ud (k v:List UInt8):Lib.hasPrefix (D8 k v) (k++[61])=true:=by
 unfold Lib.hasPrefix D8
 rw[List.isPrefixOf_iff_prefix]
 exact List.prefix_append _ _
theorem Zi (k v:List UInt8):Lib.trimPrefix (D8 k v) (k++[61])=v:=by
 unfold Lib.trimPrefix
 rw[if_pos (Ud k v)]
 unfold D8
 exact List.drop_left' rfl
theorem KI (k v:List UInt8){r:List (List UInt8)}(h:r≠[]):rV k (D8 k v::r)=some (v,r):=by
 rw[af7 _ (Ud k v),Zi]
 have:0<r.length:=List.length_pos_iff.2 h
 simp;omega
theorem xG (k x:List UInt8){r:List (List UInt8)}(h:r≠[]):lU k (D8 k (aF x)::r)=some (x,r):=by
 unfold lU
 rw[KI k _ h,Option.bind_some,qw];rfl
theorem KJ (k:List UInt8){n:Int}(hn:iL n){r:List (List UInt8)}(h:r≠[]):zY k (D8 k (Lib.itoa n)::r)=some (n,r):=by
 unfold zY
 rw[KI k _ h,Option.bind_some,SY n hn.1 hn.2];rfl
theorem acg {x:At}(h1:x.nl=false)(h2:x.vals≠[]){r:List (List UInt8)}(h:r≠[]):nxA (D8 kZ (ng (x.name::x.vals))::r)=some (x,r):=by
 unfold nxA
 rw[KI kZ _ h,Option.bind_some,OA,Option.bind_some]
 obtain⟨nm,nl,vs⟩:=x
 cases vs with
 |nil=>exact absurd rfl h2
 |cons v l=>simp only at h1;subst h1;rfl
theorem KL:∀(xs:List At) (n:Nat) (acc:List At),(∀x∈xs,x.nl=false∧x.vals≠[])→xs.length≤n→xE n (xs.map (fun x=>D8 kZ (ng (x.name::x.vals)))++[[]]) acc=some (acc++xs)
 | [],0,acc,_,_=>by simp[xE]
 | [],n+1,acc,_,_=>by rw[xE,if_neg (by simp)];simp
 |x::l,0,acc,_,h=>by simp at h
 |x::l,n+1,acc,hx,h=>by
  rw[xE,if_pos (by simp;omega),List.map_cons,List.cons_append,acg (hx x (by simp)).1 (hx x (by simp)).2 (by simp),Option.bind_some,KL l n _ (fun y hy=>hx y (List.mem_cons_of_mem _ hy)) (by simp at h;omega)]
  simp
def nrm (a:As):As:={ a with nl:=(iI a.ats).isEmpty,ats:=iI a.ats }
theorem OC {a:As}(hc:bC a=0):rdA (bn 10 [] (h_ a))=some (nrm a):=by
 obtain⟨_,⟨q6,q7,q8⟩,⟨q9,q10⟩,hA⟩:=fO hc
 have i1:iL a.jd:=⟨by omega,by omega⟩
 have i2:iL a.fG:=⟨by omega,by omega⟩
 have i3:iL a.lvl:=⟨by omega,by omega⟩
 rw[KH]
 unfold LU rdA
 simp only[List.cons_append,List.nil_append]
 rw[xG lT _ (by simp),Option.bind_some,xG fP _ (by simp),Option.bind_some,xG gQ _ (by simp),Option.bind_some,xG iJ _ (by simp),Option.bind_some,xG jk _ (by simp),Option.bind_some,
  KJ jO i1 (by simp),Option.bind_some,KJ kY i2 (by simp),Option.bind_some,KJ oz i3 (by simp),Option.bind_some]
 simp only
 rw[KL _ _ _ (fun x hx=>⟨(oC hA hx).2.1,(oC hA hx).2.2.1⟩) (by simp)]
 rfl
theorem Zj:∀c:UInt8,zQ (zQ c)=zQ c:=DK (by decide +kernel)
theorem ach:∀c:UInt8,rF c.toNat=true→rF (zQ c).toNat=true:=DK (by decide +kernel)
theorem ae0:∀c:UInt8,b_ c.toNat=true→b_ (zQ c).toNat=true:=DK (by decide +kernel)
theorem OD (s:List UInt8):bg (bg s)=bg s:=by
 unfold bg
 rw[List.map_map]
 exact List.map_congr_left fun c _=>Zj c
theorem Zk {s:List UInt8}(h:nameB s=true):nameB (bg s)=true:=by
 unfold nameB mM at h ⊢
 simp only[Bool.and_eq_true,List.all_eq_true,decide_eq_true_eq,tC] at h ⊢
 obtain⟨⟨⟨h1,h2⟩,h3⟩,h4⟩:=h
 refine⟨⟨⟨fun c hc=>?_,?_⟩,h3⟩,?_⟩
 ·obtain⟨x,hx,rfl⟩:=List.mem_map.1 hc
  exact ach x (h1 x hx)
 ·cases s with
  |nil=>exact h2
  |cons c l=>rfl
 ·cases s with
  |nil=>exact h4
  |cons c l=>exact ae0 c h4
theorem GI {l:List (List UInt8)}(h:l.Nodup):(bT l).Nodup:=(zO l).nodup_iff.2 h
theorem Ue {l:List (List UInt8)}(h:l.Nodup):bT (bT l)=bT l:=tq (GI h) (yj h) fun x=>Iff.rfl
theorem ae1 {a:At}(h:a.vals.Nodup):UH (UH a)=UH a:=by
 unfold UH
 simp only[OD,Ue h]
theorem XJ {l:List At}{x:At}(hx:x∈iI l):∃a∈l,x=UH a:=by
 obtain⟨a,ha,rfl⟩:=List.mem_map.1 ((tV l).mem_iff.1 hx)
 exact⟨a,ha,rfl⟩
theorem Zl {l:List At}(hn:(l.map fun a=>bg a.name).Nodup):((iI l).map fun a=>bg a.name).Nodup:=by
 have:=((tV l).map fun a=>bg a.name).nodup_iff.2 (by
  rw[List.map_map]
  have e:((fun a:At=>bg a.name)∘UH)=fun a:At=>bg a.name:=funext fun a=>OD _
  rw[e];exact hn)
 exact this
theorem ae2 {l:List At}(hc:CkA l)(hd:∀a∈l,a.vals.Nodup)(hn:(l.map fun a=>bg a.name).Nodup):iI (iI l)=iI l:=by
 have e:(iI l).map UH=iI l:=by
  have:(iI l).map UH=(iI l).map id:=List.map_congr_left fun x hx=>by
   obtain⟨a,ha,rfl⟩:=XJ hx
   exact ae1 (hd a ha)
  rw[this,List.map_id]
 show ((iI l).map UH).mergeSort leA=iI l
 rw[e]
 refine List.mergeSort_of_pairwise ?_
 have h:=Ou hn
 unfold Asc at h
 rw[List.pairwise_map] at h
 refine h.imp fun {a b} hab=>?_
 unfold leA
 rw[Bool.not_eq_true']
 cases hq:Op.bytesLess b.name a.name with
 |false=>rfl
 |true=>
  rw[qA _ _ hab] at hq;cases hq
theorem XK:∀(pre l:List (List UInt8)),(∀v∈l,bK v=true)→l.Nodup→(∀v∈l,v ∉ pre)→uO pre l=0
 |pre,[],_,_,_=>rfl
 |pre,v::l,h1,h2,h3=>by
  rw[uO,if_neg (by rw[h1 v (by simp)];decide),if_neg (by simpa using h3 v (by simp))]
  rw[List.nodup_cons] at h2
  refine XK _ l (fun x hx=>h1 x (List.mem_cons_of_mem _ hx)) h2.2 fun x hx=>?_
  simp only[List.mem_append,List.mem_singleton,not_or]
  exact⟨h3 x (List.mem_cons_of_mem _ hx),fun e=>h2.1 (e ▸ hx)⟩
theorem XL:∀(pre l:List At),(∀a∈l,nameB a.name=true∧a.vals≠[]∧a.vals.length≤16∧a.vals.Nodup∧∀v∈a.vals,bK v=true)→(l.map fun a=>bg a.name).Nodup→(∀a∈l,∀b∈pre,bg a.name≠bg b.name)→yP pre l=0
 |pre,[],_,_,_=>rfl
 |pre,a::l,h1,h2,h3=>by
  obtain⟨q1,q2,q3,q4,q5⟩:=h1 a (by simp)
  have ha:atE pre a=0:=by
   unfold atE
   rw[if_neg (by rw[q1];decide),if_neg,if_neg,if_neg,XK [] _ q5 q4 (by simp)]
   ·simp;omega
   ·cases hv:a.vals with
    |nil=>exact absurd hv q2
    |cons x y=>simp
   ·rw[Bool.not_eq_true,List.any_eq_false]
    intro b hb
    simpa using h3 a (by simp) b hb
  rw[yP,if_neg (by rw[ha];simp)]
  rw[List.map_cons,List.nodup_cons] at h2
  refine XL _ l (fun x hx=>h1 x (List.mem_cons_of_mem _ hx)) h2.2 fun x hx b hb=>?_
  rcases List.mem_append.1 hb with hb|hb
  ·exact h3 x (List.mem_cons_of_mem _ hx) b hb
  ·rw[List.mem_singleton] at hb;subst hb
   exact fun e=>h2.1 (List.mem_map.2 ⟨x,hx,e⟩)
theorem KN {l:List At}(h:eF l=0):eF (iI l)=0∧iI (iI l)=iI l:=by
 have hg:=GH h
 have hk:=xw h
 have hz:(l.map fun a=>bg a.name).Nodup∧∀a∈l,a.vals≠[]∧a.vals.length≤16∧a.vals.Nodup:=by
  unfold eF at h
  split at h
  ·cases h
  exact⟨(yB [] l h).1,fun a ha=>((yB [] l h).2 a ha).2⟩
 refine⟨?_,ae2 hk (fun a ha=>(hz.2 a ha).2.2) hz.1⟩
 unfold eF
 rw[yA]
 have hlen:¬decide ((l.length:Int)>32)=true:=by
  intro q;unfold eF at h;rw[if_pos q] at h;cases h
 rw[if_neg hlen]
 refine XL [] _ (fun x hx=>?_) (Zl hz.1) (by simp)
 obtain⟨a,ha,rfl⟩:=XJ hx
 obtain⟨z1,z2,z3⟩:=hz.2 a ha
 refine⟨Zk (hg a ha).1,?_,?_,GI z3,fun v hv=>(hg a ha).2 v ((sZ _ _).1 hv)⟩
 ·intro e
  have:=dL a.vals
  rw[show bT a.vals=[] from e] at this
  exact z1 (List.length_eq_zero_iff.1 this.symm)
 ·show (bT a.vals).length≤16
  rw[dL];exact z2
theorem V3 {a:As}(h:bC a=0):bC (nrm a)=0:=by
 obtain⟨_,_,_,hA⟩:=fO h
 unfold bC at h ⊢
 simp only[nrm]
 split at h
 ·cases h
 split at h
 ·cases h
 split at h
 ·cases h
 rename_i h1 h2 h3
 exact (if_neg h1).trans ((if_neg h2).trans ((if_neg h3).trans (KN hA).1))
theorem V4 {a:As}(h:bC a=0):h_ (nrm a)=h_ a:=by
 obtain⟨_,_,_,hA⟩:=fO h
 show lI (nrm a)++((iI (iI a.ats)).map Hg).flatten=_
 rw[(KN hA).2];rfl
theorem o9 {a:As}{s:List UInt8}(h:dw a=(s,0)):bC a=0∧h_ a=s∧s.length≤4096:=by
 unfold dw at h
 split at h
 ·rename_i h1
  have:=congrArg Prod.snd h
  simp only at this
  rw[this] at h1;simp at h1
 split at h
 ·cases h
 ·rename_i h1 h2
  cases h
  exact⟨by simpa using h1,rfl,by simp at h2;omega⟩
theorem Qn {a:As}{s:List UInt8}(h1:bC a=0)(h2:h_ a=s)(h3:s.length≤4096):dw a=(s,0):=by
 subst h2
 exact VU (by rw[h1];rfl) (by simp;omega)
theorem aci {a:As}{s:List UInt8}(h:dw a=(s,0)):dw (nrm a)=(s,0):=by
 obtain⟨h1,h2,h3⟩:=o9 h
 exact Qn (V3 h1) ((V4 h1).trans h2) h3
theorem Qo {a:As}{s:List UInt8}(h:dw a=(s,0)):ig s=(nrm a,0):=by
 obtain⟨h1,h2,h3⟩:=o9 h
 have hr:=OC h1
 rw[h2] at hr
 have hn:=aci h
 unfold ig
 rw[if_neg (by simp;omega),hr]
 simp only[hn]
 rw[if_pos (by simp)]
theorem Qp {b:As}{s:List UInt8}(h:(ig s).2=0)(hb:(ig s).1=b):dw b=(s,0)∧nrm b=b∧rdA (bn 10 [] s)=some b∧s.length≤4096:=by
 by_cases h0:decide ((s.length:Int)>4096)=true
 ·unfold ig at h;rw[if_pos h0] at h;cases h
 cases hr:rdA (bn 10 [] s) with
 |none=>unfold ig at h;rw[if_neg h0,hr] at h;cases h
 |some a=>
  have e:ig s=if (((dw a).2 == 0) && ((dw a).1 == s))=true then (a,(0:Int)) else (bD,4):=by unfold ig;rw[if_neg h0,hr]
  by_cases h1:(((dw a).2 == 0) && ((dw a).1 == s))=true
  ·rw[if_pos h1] at e
   rw[e] at hb
   subst hb
   simp only[Bool.and_eq_true,beq_iff_eq] at h1
   have he:dw a=(s,0):=Prod.ext h1.2 h1.1
   refine⟨he,?_,rfl,by simp at h0;omega⟩
   obtain⟨q1,q2,_⟩:=o9 he
   have:=OC q1
   rw[q2,hr] at this
   exact (Option.some.inj this).symm
  ·rw[if_neg h1] at e
   rw[e] at h
   cases h
theorem KO (s:List UInt8):(4096<s.length∧ig s=(bD,3))∨(s.length≤4096∧ig s=(bD,4)∧∀a,dw a≠(s,0))∨(s.length≤4096∧∃b,ig s=(b,0)∧dw b=(s,0)∧nrm b=b∧rdA (bn 10 [] s)=some b):=by
 by_cases h:4096<s.length
 ·refine .inl ⟨h,?_⟩
  unfold ig;rw[if_pos (by simp;omega)]
 ·by_cases h0:(ig s).2=0
  ·obtain⟨q1,q2,q3,q4⟩:=Qp h0 rfl
   exact .inr (.inr ⟨q4,_,Prod.ext rfl h0,q1,q2,q3⟩)
  ·refine .inr (.inl ⟨by omega,?_,fun a ha=>h0 (by rw[Qo ha])⟩)
   unfold ig at h0 ⊢
   rw[if_neg (by simp;omega)] at h0 ⊢
   split
   ·rfl
   ·rename_i a ha
    rw[ha] at h0
    simp only at h0 ⊢
    split
    ·rename_i h1;rw[if_pos h1] at h0;exact absurd rfl h0
    ·rfl
structure UJ (ls:List (List UInt8)):Prop where
 ne:ls≠[]
 len:∀x∈ls,x.length≤4096
 sz:ls.length≤4097
theorem UJ.cut {s:List UInt8}(hs:s.length≤4096):UJ (bn 10 [] s):=
 ⟨fun e=>by have:=(n_ 10 s []).2;rw[e] at this;simp at this,fun x hx=>by have:=qp 10 s [] x hx;simp at this;omega,by have:=(n_ 10 s []).1;omega⟩
theorem CG {k:List UInt8}{ls:List (List UInt8)}{q:List UInt8 × List (List UInt8)}(h:UJ ls)(hn:rV k ls=some q):UJ q.2∧q.1.length≤4096∧ls.length=q.2.length+1:=by
 cases ls with
 |nil=>exact absurd rfl h.ne
 |cons y l=>
  obtain⟨h1,h2,h3⟩:=CB hn
  refine⟨⟨by rw[h2];exact h3,fun x hx=>h.len x (by rw[h2] at hx;simp[hx]),by have:=h.sz;rw[h2];simp at this;omega⟩,?_,by rw[h2];rfl⟩
  have:=h.len y (by simp)
  omega
theorem CJ {k:List UInt8}{ls r:List (List UInt8)}{z:List UInt8}(h:UJ ls)(hn:lU k ls=some (z,r)):UJ r∧z.length≤4096:=by
 unfold lU at hn
 cases hq:rV k ls with
 |none=>rw[hq] at hn;cases hn
 |some q=>
  obtain⟨q1,q2,_⟩:=CG h hq
  rw[hq] at hn
  simp only[Option.bind_some,Option.map_eq_some_iff] at hn
  obtain⟨w,hw,e⟩:=hn
  cases e
  exact⟨q1,Nat.le_trans (PU hw) q2⟩
theorem XM (s:List UInt8):iL (uY s).1:=by
 unfold uY iL
 split
 ·simp
 ·split
  ·split
   ·split
    ·simp only;omega
    ·simp
   ·simp
  ·split
   ·split
    ·simp only;omega
    ·simp
   ·simp
theorem Qq {k:List UInt8}{ls r:List (List UInt8)}{z:Int}(h:UJ ls)(hn:zY k ls=some (z,r)):UJ r∧iL z:=by
 unfold zY at hn
 cases hq:rV k ls with
 |none=>rw[hq] at hn;cases hn
 |some q=>
  obtain⟨q1,q2,_⟩:=CG h hq
  rw[hq] at hn
  simp only[Option.bind_some] at hn
  split at hn
  ·cases hn;exact⟨q1,XM _⟩
  ·cases hn
theorem uT {f:Nat→Nat}{b:Nat}(hf:f 0=b)(ls:List (List UInt8)):kG f [(0,.box 88 [.slice 1 false (ls.map fun x=>[D.str x]) none])]=[(b,.box 88 [.slice 1 false (ls.map fun x=>[D.str x]) none])]:=by
 have e:qQ f (ls.map fun x=>[D.str x])=ls.map fun x=>[D.str x]:=J5 f ls
 simp[kG,oP,dh,jL,e,hf]
theorem V5 {f:Nat→Nat}{b:Nat}(hf:f 0=b):kG f [(0,.box 88 [.junk])]=[(b,.box 88 [.junk])]:=by
 simp[kG,oP,dh,jL,hf]
theorem D9 {f:Nat→Nat}{b:Nat}(hf:f 0=b)(k:List UInt8):[D.ref 0 0,D.str k].map (dh f)=[.ref b 0,.str k]:=by
 simp[dh,hf]
theorem xH (b:Nat){k:List UInt8}{ls:List (List UInt8)}{q:List UInt8 × List (List UInt8)}(hk:k.length≤100)(hL:UJ ls)(h:rV k ls=some q):aG Pr 53 [.ref b 0,.str k] [(b,.box 88 [.slice 1 false (ls.map fun x=>[D.str x]) none])] (.str q.1) [(b,.box 88 [.slice 1 false (q.2.map fun x=>[D.str x]) none])]:=by
 cases ls with
 |nil=>exact absurd rfl hL.ne
 |cons y l=>
  obtain⟨f,g,h1,h2⟩:=kU [b] (by simp)
  have:=aG.rename h1 (xC hk h)
  have f0:f 0=b:=h2 0 b rfl
  rw[D9 f0,uT f0,uT f0] at this
  exact this
theorem Uf (b:Nat){k:List UInt8}{ls:List (List UInt8)}(hk:k.length≤100)(hL:UJ ls)(h:rV k ls=none):fU Pr (some (.iface 83 kM)) 53 [.ref b 0,.str k] [(b,.box 88 [.slice 1 false (ls.map fun x=>[D.str x]) none])] .junk [(b,.box 88 [.junk])]:=by
 cases ls with
 |nil=>exact absurd rfl hL.ne
 |cons y l=>
  obtain⟨f,g,h1,h2⟩:=kU [b] (by simp)
  have:=fU.rename h1 (KG hk h)
  have f0:f 0=b:=h2 0 b rfl
  rw[D9 f0,uT f0,V5 f0] at this
  exact this
theorem oD (b:Nat){k z:List UInt8}{ls r:List (List UInt8)}(hk:k.length≤100)(hL:UJ ls)(h:lU k ls=some (z,r)):aG Pr 50 [.ref b 0,.str k] [(b,.box 88 [.slice 1 false (ls.map fun x=>[D.str x]) none])] (.str z) [(b,.box 88 [.slice 1 false (r.map fun x=>[D.str x]) none])]:=by
 cases ls with
 |nil=>exact absurd rfl hL.ne
 |cons y l=>
  obtain⟨f,g,h1,h2⟩:=kU [b] (by simp)
  have:=aG.rename h1 (ab8 hk (hL.len y (by simp)) h)
  have f0:f 0=b:=h2 0 b rfl
  rw[D9 f0,uT f0,uT f0] at this
  exact this
theorem oG (b:Nat){k:List UInt8}{ls:List (List UInt8)}(hk:k.length≤100)(hL:UJ ls)(h:lU k ls=none):fU Pr (some (.iface 83 kM)) 50 [.ref b 0,.str k] [(b,.box 88 [.slice 1 false (ls.map fun x=>[D.str x]) none])] .junk [(b,.box 88 [.junk])]:=by
 cases ls with
 |nil=>exact absurd rfl hL.ne
 |cons y l=>
  obtain⟨f,g,h1,h2⟩:=kU [b] (by simp)
  have:=fU.rename h1 (ab9 hk (hL.len y (by simp)) h)
  have f0:f 0=b:=h2 0 b rfl
  rw[D9 f0,uT f0,V5 f0] at this
  exact this
theorem rW (b:Nat){k:List UInt8}{z:Int}{ls r:List (List UInt8)}(hk:k.length≤100)(hL:UJ ls)(h:zY k ls=some (z,r)):aG Pr 51 [.ref b 0,.str k] [(b,.box 88 [.slice 1 false (ls.map fun x=>[D.str x]) none])] (.int .i64 z) [(b,.box 88 [.slice 1 false (r.map fun x=>[D.str x]) none])]:=by
 cases ls with
 |nil=>exact absurd rfl hL.ne
 |cons y l=>
  obtain⟨f,g,h1,h2⟩:=kU [b] (by simp)
  have:=aG.rename h1 (VX hk (hL.len y (by simp)) h)
  have f0:f 0=b:=h2 0 b rfl
  rw[D9 f0,uT f0,uT f0] at this
  exact this
theorem rX (b:Nat){k:List UInt8}{ls:List (List UInt8)}(hk:k.length≤100)(hL:UJ ls)(h:zY k ls=none):fU Pr (some (.iface 83 kM)) 51 [.ref b 0,.str k] [(b,.box 88 [.slice 1 false (ls.map fun x=>[D.str x]) none])] .junk [(b,.box 88 [.junk])]:=by
 cases ls with
 |nil=>exact absurd rfl hL.ne
 |cons y l=>
  obtain⟨f,g,h1,h2⟩:=kU [b] (by simp)
  have:=fU.rename h1 (VY hk (hL.len y (by simp)) h)
  have f0:f 0=b:=h2 0 b rfl
  rw[D9 f0,uT f0,V5 f0] at this
  exact this
theorem XO:∀{l ls:List (List UInt8)},QO l=some ls→ls.length=l.length∧∀x∈ls,∃y∈l,x.length≤y.length
 | [],ls,h=>by cases h;simp
 |y::l,ls,h=>by
  cases hu:qG y with
  |none=>rw[KF hu] at h;cases h
  |some z=>
   rw[Cj hu,Option.map_eq_some_iff] at h
   obtain⟨m,hm,rfl⟩:=h
   obtain⟨h1,h2⟩:=XO hm
   refine⟨by simp[h1],fun x hx=>?_⟩
   rcases List.mem_cons.1 hx with rfl|hx
   ·exact⟨y,by simp,PU hu⟩
   ·obtain⟨w,hw,hle⟩:=h2 x hx
    exact⟨w,List.mem_cons_of_mem _ hw,hle⟩
theorem Ug {s:List UInt8}{ls:List (List UInt8)}(h:o8 s=some ls):ls.length≤s.length+1∧∀x∈ls,x.length≤s.length+1:=by
 unfold o8 at h
 split at h
 ·cases h;simp
 split at h
 ·cases h;simp
 ·obtain⟨h1,h2⟩:=XO h
  refine⟨by rw[h1];have:=(n_ 124 s []).1;omega,fun x hx=>?_⟩
  obtain⟨y,hy,hle⟩:=h2 x hx
  have:=qp 124 s [] y hy
  simp at this
  omega
theorem Zm (ls:List (List UInt8)):(rV kZ ls=none∧nxA ls=none)∨(∃q,rV kZ ls=some q∧o8 q.1=none∧nxA ls=none)∨(∃q l,rV kZ ls=some q∧o8 q.1=some l∧l.length≤1∧nxA ls=none)∨
  ∃q n v l,rV kZ ls=some q∧o8 q.1=some (n::v::l)∧nxA ls=some (⟨n,false,v::l⟩,q.2):=by
 unfold nxA
 cases h:rV kZ ls with
 |none=>exact .inl ⟨rfl,rfl⟩
 |some q=>
  cases hs:o8 q.1 with
  |none=>exact .inr (.inl ⟨q,rfl,hs,by simp only[Option.bind_some,hs];rfl⟩)
  |some l=>
   match l,hs with
   | [],hs=>exact .inr (.inr (.inl ⟨q,[],rfl,hs,by simp,by simp only[Option.bind_some,hs]⟩))
   | [n],hs=>exact .inr (.inr (.inl ⟨q,[n],rfl,hs,by simp,by simp only[Option.bind_some,hs]⟩))
   |n::v::l,hs=>exact .inr (.inr (.inr ⟨q,n,v,l,rfl,hs,by simp only[Option.bind_some,hs]⟩))
theorem OE {ls:List (List UInt8)}(h:1<ls.length)(n:Nat)(acc:List At):xE (n+1) ls acc=(nxA ls).bind fun q=>xE n q.2 (acc++[q.1]):=by
 rw[xE,if_pos (by simp;omega)]
theorem acj {ls:List (List UInt8)}(h:¬ 1<ls.length)(n:Nat)(acc:List At):xE n ls acc=some acc:=by
 cases n with
 |zero=>rfl
 |succ n=>rw[xE,if_neg (by simp;omega)]
def GK (acc:List At):Prop:=∀x∈acc,x.ok
theorem GK.snoc {acc:List At}{a:At}(h:GK acc)(ha:a.ok):GK (acc++[a]):=by
 intro x hx
 rcases List.mem_append.1 hx with hx|hx
 ·exact h x hx
 ·rw[List.mem_singleton] at hx;subst hx;exact ha
theorem acn {n v:List UInt8}{l:List (List UInt8)}{s:List UInt8}(hs:s.length≤4096)(h:o8 s=some (n::v::l)):(At.mk n false (v::l)).ok:=by
 obtain⟨h1,h2⟩:=Ug h
 refine⟨Nat.le_trans (h2 n (by simp)) (by omega),Nat.le_trans (show (v::l).length≤s.length+1 by simp at h1 ⊢;omega) (by omega),nofun,fun x hx=>Nat.le_trans (h2 x (List.mem_cons_of_mem _ hx)) (by omega)⟩
theorem ni (n:Int):Le (.aJ [.agg [.str [],.str [],.str [],.str [],.str [],.int .i64 0,.int .i64 0,.int .i64 0,.slice 0 true [] none],.int .i64 n]) (.aJ [.agg bD.cs,.int .i64 n]):=by
 have h9:Le (.slice 0 true [] none) (.slice 2 true [] none):=Le.nil _ _ _
 refine Le.Qm ?_ (Le.refl _)
 exact Le.agg ⟨Le.refl _,Le.refl _,Le.refl _,Le.refl _,Le.refl _,Le.refl _,Le.refl _,Le.refl _,h9,trivial⟩
section
variable {ls r1 r2 r3 r4 r5 r6 r7 r8:List (List UInt8)} {z1 z2 z3 z4 z5:List UInt8} {z6 z7 z8:Int}
theorem ae3 (h1:lU lT ls=none):rdA ls=none:=by unfold rdA;rw[h1];rfl
theorem ae4 (h1:lU lT ls=some (z1,r1))(h2:lU fP r1=none):rdA ls=none:=by unfold rdA;simp only[h1,h2,Option.bind_some,Option.bind_none]
theorem ae5 (h1:lU lT ls=some (z1,r1))(h2:lU fP r1=some (z2,r2))(h3:lU gQ r2=none):rdA ls=none:=by unfold rdA;simp only[h1,h2,h3,Option.bind_some,Option.bind_none]
theorem ae6 (h1:lU lT ls=some (z1,r1))(h2:lU fP r1=some (z2,r2))(h3:lU gQ r2=some (z3,r3))(h4:lU iJ r3=none):rdA ls=none:=by unfold rdA;simp only[h1,h2,h3,h4,Option.bind_some,Option.bind_none]
theorem ae7 (h1:lU lT ls=some (z1,r1))(h2:lU fP r1=some (z2,r2))(h3:lU gQ r2=some (z3,r3))(h4:lU iJ r3=some (z4,r4))(h5:lU jk r4=none):rdA ls=none:=by unfold rdA;simp only[h1,h2,h3,h4,h5,Option.bind_some,Option.bind_none]
theorem ae8 (h1:lU lT ls=some (z1,r1))(h2:lU fP r1=some (z2,r2))(h3:lU gQ r2=some (z3,r3))(h4:lU iJ r3=some (z4,r4))(h5:lU jk r4=some (z5,r5))(h6:zY jO r5=none):rdA ls=none:=by
 unfold rdA;simp only[h1,h2,h3,h4,h5,h6,Option.bind_some,Option.bind_none]
theorem ae9 (h1:lU lT ls=some (z1,r1))(h2:lU fP r1=some (z2,r2))(h3:lU gQ r2=some (z3,r3))(h4:lU iJ r3=some (z4,r4))(h5:lU jk r4=some (z5,r5))(h6:zY jO r5=some (z6,r6))(h7:zY kY r6=none):rdA ls=none:=by
 unfold rdA;simp only[h1,h2,h3,h4,h5,h6,h7,Option.bind_some,Option.bind_none]
theorem ae_ (h1:lU lT ls=some (z1,r1))(h2:lU fP r1=some (z2,r2))(h3:lU gQ r2=some (z3,r3))(h4:lU iJ r3=some (z4,r4))(h5:lU jk r4=some (z5,r5))(h6:zY jO r5=some (z6,r6))(h7:zY kY r6=some (z7,r7))(h8:zY oz r7=none):rdA ls=none:=by
 unfold rdA;simp only[h1,h2,h3,h4,h5,h6,h7,h8,Option.bind_some,Option.bind_none]
theorem ae' (h1:lU lT ls=some (z1,r1))(h2:lU fP r1=some (z2,r2))(h3:lU gQ r2=some (z3,r3))(h4:lU iJ r3=some (z4,r4))(h5:lU jk r4=some (z5,r5))(h6:zY jO r5=some (z6,r6))(h7:zY kY r6=some (z7,r7))(h8:zY oz r7=some (z8,r8)):
  rdA ls=(xE r8.length r8 []).map fun l=>⟨z1,z2,z3,z4,z5,z6,z7,z8,l.isEmpty,l⟩:=by
 unfold rdA;simp only[h1,h2,h3,h4,h5,h6,h7,h8,Option.bind_some]
end
theorem jZ {s:List UInt8}(hs:s.length≤4096)(h:rdA (bn 10 [] s)=none):ig s=(bD,4):=by
 unfold ig;rw[if_neg (by simp;omega),h]
theorem aco {s:List UInt8}{a:As}(hs:s.length≤4096)(h:rdA (bn 10 [] s)=some a)(h1:((dw a).2 == 0)=false):ig s=(bD,4):=by
 unfold ig;rw[if_neg (by simp;omega),h]
 simp only[h1,Bool.false_and];rfl
theorem acp {s:List UInt8}{a:As}(hs:s.length≤4096)(h:rdA (bn 10 [] s)=some a)(h1:((dw a).1 == s)=false):ig s=(bD,4):=by
 unfold ig;rw[if_neg (by simp;omega),h]
 simp only[h1,Bool.and_false];rfl
theorem acr {s:List UInt8}{a:As}(hs:s.length≤4096)(h:rdA (bn 10 [] s)=some a)(h0:((dw a).2 == 0)=true)(h1:((dw a).1 == s)=true):ig s=(a,0):=by
 unfold ig;rw[if_neg (by simp;omega),h]
 simp only[h0,h1,Bool.and_self,↓reduceIte]
theorem Qr {ls:List (List UInt8)}{acc:List At}(h:1<ls.length)(ht:nxA ls=none):xE ls.length ls acc=none:=by
 obtain⟨n,hn⟩:∃n,ls.length=n+1:=⟨ls.length - 1,by omega⟩
 rw[hn,OE h,ht];rfl
theorem afa {ls:List (List UInt8)}{acc:List At}{q:At × List (List UInt8)}(h:1<ls.length)(hq:ls.length=q.2.length+1)(ht:nxA ls=some q):xE ls.length ls acc=xE q.2.length q.2 (acc++[q.1]):=by
 rw[hq,OE h,ht];rfl
theorem afb (a b:Bool):a=false∨(a=true∧b=false)∨(a=true∧b=true):=by cases a <;> cases b <;> simp
theorem ajF {n:Nat}(h:n≤1):decide ((n:Int)>1)=false:=decide_eq_false (by omega)
theorem afc (M:Nat→Nat→Prop)(γ:Nat→Option G)(w:World):Rep M γ w (.iface 83 (.agg [])) (.iface 83 kM):=
 .iface (.agg (cs:=[]) rfl (fun i v hv=>by simp at hv) fun i d v hd hv=>by simp at hd)
theorem Uh {α:Type}{l:List (Nat × α)}{k:Nat}{x:α}(h:lk l k=some x):k<fresh l:=by
 rcases Nat.lt_or_ge k (fresh l) with h2|h2
 ·exact h2
 ·rw[Q5 l k h2] at h;cases h
theorem gI (h:24<Tryz.prog.types.size):(Tryz.prog.types[24]'h).size=9:=by kernel_rfl
theorem e40:((4:Int) == 0)=false:=by decide
theorem ajG {n:Nat}(h:decide ((n:Int)>1)=true):1<n:=by simp at h;omega
theorem ajH {n:Nat}(h:decide ((n:Int)>1)=false):¬ 1<n:=by simp at h;omega
def iy (s:List UInt8):D:= .aJ [.agg (ig s).1.cs,.int .i64 (ig s).2]
end Go.Proofs
namespace Go.Proofs
open Go Go.Id
set_option maxHeartbeats 4000000
theorem kC {s:List UInt8}(hX:ig s=(bD,4)){gc:Code}{r0:Nat}{U8:Array Oper}(gb:Tryz.f48.body=some (.seq (.region r0 U8 false) gc)){st:St}{cs0 cs1:List D}
  (h0:lk st.σ 0=some (.box 24 cs0)) (hl0:cs0.length=9) (h1:lk st.σ 1=some (.box 27 cs1)) (hl1:cs1.length=1) (h2:st.get 2= .ref 0 0) (h3:st.get 3= .ref 1 0):
  ∃u u' x xv,aiN Pr Tryz.f13 17 2 gc [.ref 0 0,.ref 1 0] (iy s) (.panic [{ v:= .iface 83 kM,recovered:=false }]) st u u' x xv:=by
 have hv:iy s= .aJ [.agg bD.cs,.int .i64 4]:=by unfold iy;rw[hX]
 rw[hv]
 have f0:=Uh h0
 have f1:=Uh h1
 have hd0:List.drop 9 cs0=[]:=List.drop_of_length_le (by omega)
 have hd1:List.drop 1 cs1=[]:=List.drop_of_length_le (by omega)
 have e0:(0=fresh st.σ)=False:=eq_false (by omega)
 have e1:(1=fresh st.σ)=False:=eq_false (by omega)
 have e2:(fresh st.σ=0)=False:=eq_false (by omega)
 have e3:(fresh st.σ=1)=False:=eq_false (by omega)
 refine⟨_,_,.iface 83 (.agg []),.iface 83 kM,.yes _,.inr ⟨rfl,rfl⟩,afc,?_⟩
 cases gb
 simp +decide only[ay,TF]
 refine WP.sr [0,1,2,7] (by kernel_rfl) fun K hK=>?_
 simp +decide only[TF,EV,↓reduceIte]
 refine hK _ _ ?_
 clear hK K
 refine WP.cond (b:=true) rfl (fun _=>?_) (fun q1=>by cases q1)
 refine WP.seq ?_
 refine WP.sr [0,1,2,4] (by kernel_rfl) fun K hK=>?_
 simp +decide only[TF,EV,↓reduceIte]
 refine hK _ _ ?_
 clear hK K
 refine WP.sr [0,1,2,14] (by kernel_rfl) fun K hK=>?_
 simp +decide only[TF,EV,↓reduceIte]
 refine hK _ _ ?_
 clear hK K
 refine WP.cond (b:=false) rfl (fun q1=>by cases q1) (fun _=>?_)
 refine WP.skip ?_
 show WP _ _ _ _ _ _
 refine WP.sr [0,1] (by kernel_rfl) fun K hK=>?_
 simp +decide only[TF,EV,Mc,h0,hl0,hd0,e0,↓reduceIte]
 refine hK _ _ ?_
 clear hK K
 refine WP.region (by kernel_rfl) fun K hK=>?_
 simp +decide only[TF,EV,Mc,h1,hl1,hd1,e1,↓reduceIte]
 refine hK _ _ ⟨.inl rfl,_,?_,ni 4⟩
 have hres:Tryz.f13.results.toList=[.cell 2 24,.cell 3 27]:=by kernel_rfl
 have ha:jw Tryz.prog 27=some false:=by kernel_rfl
 have g2:∀ σ,St.get ⟨st.F,σ⟩ 2= .ref 0 0:=fun _=>h2
 have g3:∀ σ,St.get ⟨st.F,σ⟩ 3= .ref 1 0:=fun _=>h3
 simp +decide only[resD,hres,Dp,Iu,dR,bQ,g2,g3,ha,TF,lk,↓reduceIte]
set_option maxRecDepth 10000
set_option maxHeartbeats 8000000
theorem xI (s:List UInt8)(hs:s.length≤1099511627776):ak Pr 13 [.str s] (iy s):=by
 by_cases hlong:4096<s.length
 ·
  have hX:ig s=(bD,3):=by unfold ig;rw[if_pos (by simp;omega)]
  refine ak.of_wp Tryz.func13 rfl (by kernel_rfl) Tryz.ntmps13 (by simp) ?_
  have hv:iy s= .aJ [.agg bD.cs,.int .i64 3]:=by unfold iy;rw[hX]
  rw[hv]
  simp only[ay]
  refine WP.sr [0,2,3] (by kernel_rfl) fun K hK=>?_
  simp +decide only[TF,EV,↓reduceIte]
  refine hK _ _ ?_;clear hK K
  refine WP.seq ?_
  refine WP.sr [0,2,3,11] (by kernel_rfl) fun K hK=>?_
  simp +decide only[TF,EV,↓reduceIte]
  refine hK _ _ ?_;clear hK K
  refine WP.cond (b:=_) rfl (fun q1=>?_) (fun q1=>?_)
  ·
   refine WP.sr [0,2,3] (by kernel_rfl) fun K hK=>?_
   simp +decide only[TF,EV,↓reduceIte]
   refine hK _ _ ?_;clear hK K
   refine WP.ret ?_
   refine Ends.pure (.inr rfl) rfl (Le.trans (Le.of_eq ?_) (ni 3)) ?_
   · simp +decide only[TF,gI]
   · simp[bD,As.cs]
  ·
   exfalso
   simp at q1
   omega
 ·
  have hs4:s.length≤4096:=by omega
  have L0:=UJ.cut hs4
  refine ak.aao (q1:=_) (q2:=_) (o1:=_) (o2:=_) (WM:=_) (Ro:=_) (st1:=⟨[(0,.str s),(2,.ref 0 0),(3,.ref 1 0)],[(0,.box 24 [.str [],.str [],.str [],.str [],.str [],.int .i64 0,.int .i64 0,.int .i64 0,.slice 0 true [] none]),(1,.box 27 [.int .i64 0])]⟩)
   Tryz.func13 rfl (by kernel_rfl) Tryz.ntmps13 (by simp) rfl rfl rfl rfl rfl rfl rfl rfl (by decide) Tryz.func48 rfl Tryz.ntmps48 rfl (by kernel_rfl) rfl rfl rfl rfl rfl rfl rfl rfl rfl (by decide) (by decide) (by decide) (by decide) (by decide) rfl ?_ ?_ ?_
  · simp[iy]
  ·
   simp only[ay]
   refine WP.region (by kernel_rfl) fun K hK=>?_
   simp +decide only[TF,EV,↓reduceIte]
   refine hK _ _ ⟨rfl,?_⟩
   clear hK K
   refine WP.sr [0,2,3,11] (by kernel_rfl) fun K hK=>?_
   simp +decide only[TF,EV,↓reduceIte]
   refine hK _ _ ?_;clear hK K
   refine WP.cond (b:=_) rfl (fun q1=>?_) (fun q1=>?_)
   ·
    exfalso
    simp at q1
    omega
   ·
    refine WP.skip ⟨rfl,?_⟩
    exact Weak.store (by simp[St.get,lk,W,Le.refl]) (by simp[lk]) (by simp[lk]) (by simp[aA,lk]) (by simp[lk,MS])
  ·
   simp only[List.map_cons,List.map_nil]
   refine WP.sr [0,2,3,4] (by kernel_rfl) fun K hK=>?_
   simp +decide only[TF,↓reduceIte]
   refine aj.pure (show ak Pr 49 [.str s,.str [10]] (.slice 1 false ((bn 10 [] s).map fun x=>[D.str x]) none) from by rw[← JK];exact YC s [10] (by omega) (by simp)) rfl rfl (by simp) ?_
   simp +decide only[TF,↓reduceIte]
   refine hK _ _ ?_;clear hK K
   rcases h1:lU lT (bn 10 [] s) with _ | ⟨z1,r1⟩
   ·
    have hX:=jZ hs4 (ae3 h1)
    refine WP.seq ?_
    refine WP.lX 1 (x:= .iface 83 kM) (by kernel_rfl) rfl rfl rfl fun K hK=>?_
    simp only[List.take_succ_cons,List.take_zero]
    simp +decide only[TF,↓reduceIte]
    refine hK _ _ ?_;clear hK K
    refine iM.imp (oG 2 (by decide) L0 h1) rfl rfl (by simp[lk,aA]) (by simp[lk]) (by simp[lk]) ?_
    exact kC hX rfl rfl rfl rfl rfl rfl rfl
   ·
    obtain⟨L1,y1⟩:=CJ L0 h1
    refine WP.sr [0,2,3,4] (by kernel_rfl) fun K hK=>?_
    simp +decide only[TF,↓reduceIte]
    refine aj.imp (oD 2 (by decide) L0 h1) rfl rfl (by simp[lk,aA]) (by simp[lk]) (by simp[lk]) ?_
    simp +decide only[TF,↓reduceIte]
    refine hK _ _ ?_;clear hK K
    rcases h2:lU fP r1 with _ | ⟨z2,r2⟩
    ·
     have hX:=jZ hs4 (ae4 h1 h2)
     refine WP.seq ?_
     refine WP.lX 1 (x:= .iface 83 kM) (by kernel_rfl) rfl rfl rfl fun K hK=>?_
     simp only[List.take_succ_cons,List.take_zero]
     simp +decide only[TF,↓reduceIte]
     refine hK _ _ ?_;clear hK K
     refine iM.imp (oG 2 (by decide) L1 h2) rfl rfl (by simp[lk,aA]) (by simp[lk]) (by simp[lk]) ?_
     exact kC hX rfl rfl rfl rfl rfl rfl rfl
    ·
     obtain⟨L2,y2⟩:=CJ L1 h2
     refine WP.sr [0,2,3,4] (by kernel_rfl) fun K hK=>?_
     simp +decide only[TF,↓reduceIte]
     refine aj.imp (oD 2 (by decide) L1 h2) rfl rfl (by simp[lk,aA]) (by simp[lk]) (by simp[lk]) ?_
     simp +decide only[TF,↓reduceIte]
     refine hK _ _ ?_;clear hK K
     rcases h3:lU gQ r2 with _ | ⟨z3,r3⟩
     ·
      have hX:=jZ hs4 (ae5 h1 h2 h3)
      refine WP.seq ?_
      refine WP.lX 1 (x:= .iface 83 kM) (by kernel_rfl) rfl rfl rfl fun K hK=>?_
      simp only[List.take_succ_cons,List.take_zero]
      simp +decide only[TF,↓reduceIte]
      refine hK _ _ ?_;clear hK K
      refine iM.imp (oG 2 (by decide) L2 h3) rfl rfl (by simp[lk,aA]) (by simp[lk]) (by simp[lk]) ?_
      exact kC hX rfl rfl rfl rfl rfl rfl rfl
     ·
      obtain⟨L3,y3⟩:=CJ L2 h3
      refine WP.sr [0,2,3,4] (by kernel_rfl) fun K hK=>?_
      simp +decide only[TF,↓reduceIte]
      refine aj.imp (oD 2 (by decide) L2 h3) rfl rfl (by simp[lk,aA]) (by simp[lk]) (by simp[lk]) ?_
      simp +decide only[TF,↓reduceIte]
      refine hK _ _ ?_;clear hK K
      rcases h4:lU iJ r3 with _ | ⟨z4,r4⟩
      ·
       have hX:=jZ hs4 (ae6 h1 h2 h3 h4)
       refine WP.seq ?_
       refine WP.lX 1 (x:= .iface 83 kM) (by kernel_rfl) rfl rfl rfl fun K hK=>?_
       simp only[List.take_succ_cons,List.take_zero]
       simp +decide only[TF,↓reduceIte]
       refine hK _ _ ?_;clear hK K
       refine iM.imp (oG 2 (by decide) L3 h4) rfl rfl (by simp[lk,aA]) (by simp[lk]) (by simp[lk]) ?_
       exact kC hX rfl rfl rfl rfl rfl rfl rfl
      ·
       obtain⟨L4,y4⟩:=CJ L3 h4
       refine WP.sr [0,2,3,4] (by kernel_rfl) fun K hK=>?_
       simp +decide only[TF,↓reduceIte]
       refine aj.imp (oD 2 (by decide) L3 h4) rfl rfl (by simp[lk,aA]) (by simp[lk]) (by simp[lk]) ?_
       simp +decide only[TF,↓reduceIte]
       refine hK _ _ ?_;clear hK K
       rcases h5:lU jk r4 with _ | ⟨z5,r5⟩
       ·
        have hX:=jZ hs4 (ae7 h1 h2 h3 h4 h5)
        refine WP.seq ?_
        refine WP.lX 1 (x:= .iface 83 kM) (by kernel_rfl) rfl rfl rfl fun K hK=>?_
        simp only[List.take_succ_cons,List.take_zero]
        simp +decide only[TF,↓reduceIte]
        refine hK _ _ ?_;clear hK K
        refine iM.imp (oG 2 (by decide) L4 h5) rfl rfl (by simp[lk,aA]) (by simp[lk]) (by simp[lk]) ?_
        exact kC hX rfl rfl rfl rfl rfl rfl rfl
       ·
        obtain⟨L5,y5⟩:=CJ L4 h5
        refine WP.sr [0,2,3,4] (by kernel_rfl) fun K hK=>?_
        simp +decide only[TF,↓reduceIte]
        refine aj.imp (oD 2 (by decide) L4 h5) rfl rfl (by simp[lk,aA]) (by simp[lk]) (by simp[lk]) ?_
        simp +decide only[TF,↓reduceIte]
        refine hK _ _ ?_;clear hK K
        rcases h6:zY jO r5 with _ | ⟨z6,r6⟩
        ·
         have hX:=jZ hs4 (ae8 h1 h2 h3 h4 h5 h6)
         refine WP.seq ?_
         refine WP.lX 1 (x:= .iface 83 kM) (by kernel_rfl) rfl rfl rfl fun K hK=>?_
         simp only[List.take_succ_cons,List.take_zero]
         simp +decide only[TF,↓reduceIte]
         refine hK _ _ ?_;clear hK K
         refine iM.imp (rX 2 (by decide) L5 h6) rfl rfl (by simp[lk,aA]) (by simp[lk]) (by simp[lk]) ?_
         exact kC hX rfl rfl rfl rfl rfl rfl rfl
        ·
         obtain⟨L6,y6⟩:=Qq L5 h6
         refine WP.sr [0,2,3,4] (by kernel_rfl) fun K hK=>?_
         simp +decide only[TF,↓reduceIte]
         refine aj.imp (rW 2 (by decide) L5 h6) rfl rfl (by simp[lk,aA]) (by simp[lk]) (by simp[lk]) ?_
         simp +decide only[TF,↓reduceIte]
         refine hK _ _ ?_;clear hK K
         rcases h7:zY kY r6 with _ | ⟨z7,r7⟩
         ·
          have hX:=jZ hs4 (ae9 h1 h2 h3 h4 h5 h6 h7)
          refine WP.seq ?_
          refine WP.lX 1 (x:= .iface 83 kM) (by kernel_rfl) rfl rfl rfl fun K hK=>?_
          simp only[List.take_succ_cons,List.take_zero]
          simp +decide only[TF,↓reduceIte]
          refine hK _ _ ?_;clear hK K
          refine iM.imp (rX 2 (by decide) L6 h7) rfl rfl (by simp[lk,aA]) (by simp[lk]) (by simp[lk]) ?_
          exact kC hX rfl rfl rfl rfl rfl rfl rfl
         ·
          obtain⟨L7,y7⟩:=Qq L6 h7
          refine WP.sr [0,2,3,4] (by kernel_rfl) fun K hK=>?_
          simp +decide only[TF,↓reduceIte]
          refine aj.imp (rW 2 (by decide) L6 h7) rfl rfl (by simp[lk,aA]) (by simp[lk]) (by simp[lk]) ?_
          simp +decide only[TF,↓reduceIte]
          refine hK _ _ ?_;clear hK K
          rcases h8:zY oz r7 with _ | ⟨z8,r8⟩
          ·
           have hX:=jZ hs4 (ae_ h1 h2 h3 h4 h5 h6 h7 h8)
           refine WP.seq ?_
           refine WP.lX 1 (x:= .iface 83 kM) (by kernel_rfl) rfl rfl rfl fun K hK=>?_
           simp only[List.take_succ_cons,List.take_zero]
           simp +decide only[TF,↓reduceIte]
           refine hK _ _ ?_;clear hK K
           refine iM.imp (rX 2 (by decide) L7 h8) rfl rfl (by simp[lk,aA]) (by simp[lk]) (by simp[lk]) ?_
           exact kC hX rfl rfl rfl rfl rfl rfl rfl
          ·
           obtain⟨L8,y8⟩:=Qq L7 h8
           have hR:=ae' h1 h2 h3 h4 h5 h6 h7 h8
           refine WP.sr [0,2,3,4] (by kernel_rfl) fun K hK=>?_
           simp +decide only[TF,↓reduceIte]
           refine aj.imp (rW 2 (by decide) L7 h8) rfl rfl (by simp[lk,aA]) (by simp[lk]) (by simp[lk]) ?_
           simp +decide only[TF,↓reduceIte]
           refine hK _ _ ?_;clear hK K
           refine WP.seq ?_
           refine WP.block ?_
           refine WP.lp [0,2,3,4] (X:={x:(List (List UInt8)) × (List At) // match x with|(ls,acc)=>UJ ls∧xE r8.length r8 []=xE ls.length ls acc∧GK acc∧acc.length+ls.length≤1000000}) (fun x=>match x with| ⟨(ls,acc),_⟩=>[]) (fun x=>match x with| ⟨(ls,acc),_⟩=>[(3,.aS 75 2 acc.length),(0,.box 24 [.str z1,.str z2,.str z3,.str z4,.str z5,.int .i64 z6,.int .i64 z7,.int .i64 z8,.slice 2 acc.isEmpty (acc.map At.cs) (some 3)]),(1,.box 27 [.int .i64 0]),(2,.box 88 [.slice 1 false (ls.map fun x=>[D.str x]) none])]) (fun x=>match x with| ⟨(ls,acc),_⟩=>ls.length) (by simp +decide only[W,↓reduceIte];rfl) ?_ ⟨(r8,[]),⟨L8,rfl,nofun,by have:=L8.sz;simp;omega⟩⟩ ?_
           rotate_left
           · refine Weak.trans (Weak.store (st':=⟨[(0,.str s),(2,.ref 0 0),(3,.ref 1 0),(4,.ref 2 0)],[(0,.box 24 [.str z1,.str z2,.str z3,.str z4,.str z5,.int .i64 z6,.int .i64 z7,.int .i64 z8,.slice 0 true [] none]),(1,.box 27 [.int .i64 0]),(2,.box 88 [.slice 1 false (r8.map fun x=>[D.str x]) none])]⟩) (by simp[St.get,lk,keep,ins,W,Le.refl]) (by simp[lk]) (by simp[lk]) (by simp[aA,lk]) (by simp[lk])) ?_;refine Weak.trans (Weak.ghost 3 75 2 (F':=[(0,.str s),(2,.ref 0 0),(3,.ref 1 0),(4,.ref 2 0)]) (σ':=[(0,.box 24 [.str z1,.str z2,.str z3,.str z4,.str z5,.int .i64 z6,.int .i64 z7,.int .i64 z8,.slice 2 true (([]:List At).map At.cs) (some 3)]),(1,.box 27 [.int .i64 0]),(2,.box 88 [.slice 1 false (r8.map fun x=>[D.str x]) none])]) (by simp[lk]) (by simp[Ac,zC]) (by simp[Dq,Rj,UF,zC])) ?_;exact Weak.store (by simp[St.get,lk,Le.refl]) (by simp[lk]) (by simp[lk]) (by simp[aA,lk]) (by simp[lk])
           rintro ⟨⟨ls,acc⟩,⟨hL,hI,hA,hn9⟩⟩
           dsimp only
           simp only[List.nil_append]
           refine WP.seq ?_
           refine WP.sr [0,2,3,4,47] (by kernel_rfl) fun K hK=>?_
           simp +decide only[TF,↓reduceIte]
           refine hK _ _ ?_;clear hK K
           refine WP.cond (b:=_) rfl (fun q1=>?_) (fun q1=>?_)
           ·
            have hlt:1<ls.length:=ajG q1
            refine WP.skip ?_
            show WP _ _ _ _ _ _
            refine WP.block ?_
            rcases Zm ls with⟨hn,ht⟩ | ⟨q,hn,hu,ht⟩ | ⟨q,l,hn,hu,hl1,ht⟩ | ⟨q,n,v,l,hn,hu,ht⟩
            ·
             have hX:=jZ hs4 (by rw[hR,hI,Qr hlt ht];rfl)
             refine WP.seq ?_
             refine WP.lX 1 (x:= .iface 83 kM) (by kernel_rfl) rfl rfl rfl fun K hK=>?_
             simp only[List.take_succ_cons,List.take_zero]
             simp +decide only[TF,q1,↓reduceIte]
             refine hK _ _ ?_;clear hK K
             refine iM.imp (Uf 2 (by decide) hL hn) rfl rfl (by simp[lk,aA]) (by simp[lk]) (by simp[lk]) ?_
             exact kC hX rfl rfl rfl rfl rfl rfl rfl
            ·
             have hX:=jZ hs4 (by rw[hR,hI,Qr hlt ht];rfl)
             obtain⟨M1,M2,M3⟩:=CG hL hn
             refine WP.sr [0,2,3,4,5,6] (by kernel_rfl) fun K hK=>?_
             simp +decide only[TF,q1,↓reduceIte]
             refine aj.imp (xH 2 (by decide) hL hn) rfl rfl (by simp[lk,aA]) (by simp[lk]) (by simp[lk]) ?_
             simp +decide only[TF,↓reduceIte]
             refine aj.pure (c_split q.1 (by omega)) rfl rfl (by simp[-List.map_take]) ?_
             simp +decide only[TF,hu,tX,↓reduceIte]
             refine hK _ _ ?_;clear hK K
             rcases True.intro with _
             ·
              refine WP.seq ?_
              refine WP.lX 7 (x:= .iface 83 kM) (by kernel_rfl) rfl rfl rfl fun K hK=>?_
              simp only[List.take_succ_cons,List.take_zero]
              simp +decide only[TF,e40,↓reduceIte]
              refine hK _ _ ?_;clear hK K
              refine iM.imp (rG) rfl rfl (by simp[lk,aA]) (by simp[lk]) (by simp[lk]) ?_
              exact kC hX rfl rfl rfl rfl rfl rfl rfl
            ·
             have hX:=jZ hs4 (by rw[hR,hI,Qr hlt ht];rfl)
             obtain⟨M1,M2,M3⟩:=CG hL hn
             have hl2:=ajF hl1
             refine WP.sr [0,2,3,4,5,6] (by kernel_rfl) fun K hK=>?_
             simp +decide only[TF,q1,↓reduceIte]
             refine aj.imp (xH 2 (by decide) hL hn) rfl rfl (by simp[lk,aA]) (by simp[lk]) (by simp[lk]) ?_
             simp +decide only[TF,↓reduceIte]
             refine aj.pure (c_split q.1 (by omega)) rfl rfl (by simp[-List.map_take]) ?_
             simp +decide only[TF,hu,tX,↓reduceIte]
             refine hK _ _ ?_;clear hK K
             rcases True.intro with _
             ·
              refine WP.seq ?_
              refine WP.lX 7 (x:= .iface 83 kM) (by kernel_rfl) rfl rfl rfl fun K hK=>?_
              simp only[List.take_succ_cons,List.take_zero]
              simp +decide only[TF,hl2,↓reduceIte]
              refine hK _ _ ?_;clear hK K
              refine iM.imp (rG) rfl rfl (by simp[lk,aA]) (by simp[lk]) (by simp[lk]) ?_
              exact kC hX rfl rfl rfl rfl rfl rfl rfl
            ·
             obtain⟨M1,M2,M3⟩:=CG hL hn
             have hl2:decide (((l.length+1+1:Nat):Int)>1)=true:=decide_eq_true (by omega)
             have hao:=acn M2 hu
             have h1l:(1≤l.length+1+1)=True:=eq_true (by omega)
             have htk:List.take l.length (l.map fun x=>[D.str x])=l.map fun x=>[D.str x]:=List.take_of_length_le (by simp)
             refine WP.sr [0,2,3,4,5,6] (by kernel_rfl) fun K hK=>?_
             simp +decide only[TF,q1,↓reduceIte]
             refine aj.imp (xH 2 (by decide) hL hn) rfl rfl (by simp[lk,aA]) (by simp[lk]) (by simp[lk]) ?_
             simp +decide only[TF,↓reduceIte]
             refine aj.pure (c_split q.1 (by omega)) rfl rfl (by simp[-List.map_take]) ?_
             simp +decide only[TF,hu,tX,↓reduceIte]
             refine hK _ _ ?_;clear hK K
             refine WP.sr [0,2,3,4,5] (by kernel_rfl) fun K hK=>?_
             simp +decide only[TF,hl2,↓reduceIte]
             refine aj.pure (D7) rfl rfl (by simp[-List.map_take]) ?_
             simp +decide only[TF,↓reduceIte]
             refine hK _ _ ?_;clear hK K
             refine WP.drawn (by kernel_rfl) (by kernel_rfl) fun K hK=>?_
             simp +decide only[TF,h1l,htk,↓reduceIte]
             refine⟨⟨by simp only[List.length_append,List.length_map,List.length_cons,List.length_nil];omega,by simp only[List.length_append,List.length_map,List.length_cons,List.length_nil];omega⟩,?_⟩
             refine hK _ _ (by kernel_rfl) ?_
             clear hK K
             show ∃y,_∧Weak _ _ _
             refine⟨⟨(q.2,acc++[⟨n,false,v::l⟩]),M1,hI.trans (afa hlt M3 ht),hA.snoc hao,by simp only[List.length_append,List.length_cons,List.length_nil];omega⟩,by dsimp only;omega,?_⟩
             exact Weak.store (by simp[St.get,lk,Le.refl]) (by simp[lk,Hf,At.cs]) (by simp[lk]) (by simp[aA,lk,aO,fE,-List.map_append,-List.mem_map,-List.mem_append]) (by simp[lk])
           ·
            have hge:¬ 1<ls.length:=ajH q1
            have hE:rdA (bn 10 [] s)=some ⟨z1,z2,z3,z4,z5,z6,z7,z8,acc.isEmpty,acc⟩:=by rw[hR,hI,acj hge];rfl
            have hA9:As.ok ⟨z1,z2,z3,z4,z5,z6,z7,z8,acc.isEmpty,acc⟩:=⟨⟨by simp only;omega,by simp only;omega,by simp only;omega,by simp only;omega,by simp only;omega⟩,⟨y6,y7,y8⟩,by simp only;omega,fun e=>List.isEmpty_iff.1 e,hA⟩
            refine WP.exit ?_
            show WP _ _ _ _ _ _
            refine WP.weak (st':=⟨[(0,.str s),(2,.ref 0 0),(3,.ref 1 0)],[(0,.box 24 [.str z1,.str z2,.str z3,.str z4,.str z5,.int .i64 z6,.int .i64 z7,.int .i64 z8,.slice 2 acc.isEmpty (acc.map At.cs) none]),(1,.box 27 [.int .i64 0])]⟩) ?_ ?_
            ·
             refine Weak.trans (Weak.aiJ 0 24 [.str z1,.str z2,.str z3,.str z4,.str z5,.int .i64 z6,.int .i64 z7,.int .i64 z8,.slice 2 acc.isEmpty (acc.map At.cs) (some 3)] [.str z1,.str z2,.str z3,.str z4,.str z5,.int .i64 z6,.int .i64 z7,.int .i64 z8,.slice 2 acc.isEmpty (acc.map At.cs) none] (by simp[lk]) ⟨Le.refl _,Le.refl _,Le.refl _,Le.refl _,Le.refl _,Le.refl _,Le.refl _,Le.refl _,Le.fg _,trivial⟩) ?_
             exact Weak.store (by simp[St.get,lk,W,Le.refl]) (by simp[lk,W]) (by simp[lk]) (by simp[aA,lk]) (by simp[lk])
            refine WP.sr [0,2,3,7,8] (by kernel_rfl) fun K hK=>?_
            simp +decide only[TF,↓reduceIte]
            refine aj.pure (jY ⟨z1,z2,z3,z4,z5,z6,z7,z8,acc.isEmpty,acc⟩ hA9) rfl rfl (by simp[-List.map_take]) ?_
            simp +decide only[TF,↓reduceIte]
            refine hK _ _ ?_;clear hK K
            rcases afb ((dw ⟨z1,z2,z3,z4,z5,z6,z7,z8,acc.isEmpty,acc⟩).2 == 0) ((dw ⟨z1,z2,z3,z4,z5,z6,z7,z8,acc.isEmpty,acc⟩).1 == s) with g1 | ⟨g1,g2⟩ | ⟨g1,g2⟩
            ·
             have hX:=aco hs4 hE g1
             refine WP.seq ?_
             refine WP.lX 7 (x:= .iface 83 kM) (by kernel_rfl) rfl rfl rfl fun K hK=>?_
             simp only[List.take_succ_cons,List.take_zero]
             simp +decide only[TF,g1,↓reduceIte]
             refine hK _ _ ?_;clear hK K
             refine iM.imp (rG) rfl rfl (by simp[lk,aA]) (by simp[lk]) (by simp[lk]) ?_
             exact kC hX rfl rfl rfl rfl rfl rfl rfl
            ·
             have hX:=acp hs4 hE g2
             refine WP.seq ?_
             refine WP.lX 7 (x:= .iface 83 kM) (by kernel_rfl) rfl rfl rfl fun K hK=>?_
             simp only[List.take_succ_cons,List.take_zero]
             simp +decide only[TF,g1,g2,↓reduceIte]
             refine hK _ _ ?_;clear hK K
             refine iM.imp (rG) rfl rfl (by simp[lk,aA]) (by simp[lk]) (by simp[lk]) ?_
             exact kC hX rfl rfl rfl rfl rfl rfl rfl
            ·
             have hX:=acr hs4 hE g1 g2
             refine WP.sr [2,3] (by kernel_rfl) fun K hK=>?_
             simp +decide only[TF,g1,g2,↓reduceIte]
             refine aj.pure (D7) rfl rfl (by simp[-List.map_take]) ?_
             simp +decide only[TF,↓reduceIte]
             refine hK _ _ ?_;clear hK K
             refine WP.sr [2,3] (by kernel_rfl) fun K hK=>?_
             simp +decide only[TF,↓reduceIte]
             refine hK _ _ ?_;clear hK K
             refine WP.ret ?_
             refine⟨_,_,.aI,_,.no,.inl ⟨.inr rfl,rfl⟩,fun M γ w=> .aI,?_⟩
             simp +decide only[lk,ay,TF,↓reduceIte]
             refine WP.sr [0,1,2,7] (by kernel_rfl) fun K hK=>?_
             simp +decide only[TF,EV,↓reduceIte]
             refine hK _ _ ?_;clear hK K
             refine WP.cond (b:=false) rfl (fun q1=>by cases q1) (fun _=>?_)
             refine WP.skip ⟨.inl rfl,_,rfl,Le.of_eq ?_⟩
             unfold iy;rw[hX]
             simp +decide only[TF,gI,As.cs]
end Go.Proofs
