import Derived.Test.YtekopfoidhhedaaGreatDoorG16
import Derived.Test.YtekopfoidhhedaaGreatDoorG09
import Derived.Test.YtekopfoidhhedaaGreatDoorG32
import Derived.ChangeBears
import Derived.ReadAgain
set_option linter.unusedVariables false
set_option linter.unusedSimpArgs false
set_option linter.unnecessarySimpa false
set_option maxRecDepth 100000
namespace Go.Proofs.YtekopfoidhhedaaGreatDoor.Rw
open Go Go.Id Go.Proofs Go.ChangeShapes Go.WideShapes Go.ChangeAt Go.RowKit
section
variable {H:Type} {enc:TypeId × Value→H} {W:World}
abbrev RdP (enc:TypeId × Value→H)(W:World)(t:TypeId)(A:List D→Prop):Prop:=Rd enc Tryz.prog W (fun _ _=>False) (fun _=>none) 0 (fun _=>true) true t A
abbrev XF (W:World)(d:D)(v:Value):Prop:=Rep (fun _ _=>False) (fun _=>none) W d v
theorem kids:Kids Tryz.prog (· < Tryz.prog.types.size):=kids_rows (by kernel_rfl) (by kernel_rfl)
theorem full:∀t e,t<Tryz.prog.types.size→Tryz.prog.underlying t=some (.slice e)→0<Tryz.prog.cellsOf e:=slices_full_of Tryz.prog (by kernel_rfl)
theorem rdS:RdP enc W 9 (fun ds=>∃s,ds=[.str s]∧s.length≤maxLen):=akI Tryz.underlying9
theorem rdI:RdP enc W 3 (fun ds=>∃n,ds=[.int .i64 n]∧(Lit.int .i64 n).wf=true):=akH Tryz.underlying3
theorem cl9:Tryz.prog.cellsOf 9=1:=by kernel_rfl
theorem aon:Tryz.prog.cellsOf 75=2:=by kernel_rfl
theorem aqa:RdP enc W 62 (fun ds=>∃nl l,ds=[.slice 1 nl (l.map fun x=>[D.str x]) none]∧(nl=true→l=[])):=by
 refine (KN Tryz.underlying62 (by rw[cl9];omega) (fun _ _ h=>h) rdS).mono ?_
 rintro ds ⟨nl,es,rfl,h1,h2,h3⟩
 obtain⟨l,rfl,_⟩:=zQ (f:=fun x=>[D.str x]) (g:=fun _=>True) es (fun e he=>let ⟨s,hs,_⟩:=h3 e he;⟨s,trivial,hs⟩)
 exact⟨nl,l,by rw[cl9],fun h=>by simpa using h1 h⟩
theorem aqb:RdP enc W 75 (fun ds=>∃x:At,ds=x.cs∧(x.nl=true→x.vals=[])):=by
 refine (Fz (As:=[_,_]) Tryz.underlying75 ⟨rfl,rdS,by kernel_rfl,aqa,by show _=_;kernel_rfl⟩).mono ?_
 rintro ds ⟨_,_,⟨s1,rfl,_⟩,⟨_,_,⟨nl,l,rfl,h1⟩,rfl,rfl⟩,rfl⟩
 exact⟨⟨s1,nl,l⟩,rfl,h1⟩
theorem aoo:RdP enc W 22 (fun ds=>∃nl l,ds=[.slice 2 nl (l.map At.cs) none]∧(nl=true→l=[])∧∀x∈l,x.nl=true→x.vals=[]):=by
 refine (KN Tryz.underlying22 (by rw[aon];omega) (fun _ _ h=>h) aqb).mono ?_
 rintro ds ⟨nl,es,rfl,h1,h2,h3⟩
 obtain⟨l,rfl,hl⟩:=zQ (f:=At.cs) (g:=fun x=>x.nl=true→x.vals=[]) es (fun e he=>let ⟨x,hs,hb⟩:=h3 e he;⟨x,hb,hs⟩)
 exact⟨nl,l,by rw[aon],fun h=>by simpa using h1 h,hl⟩
theorem wf_i64 {n:Int}(h:(Lit.int .i64 n).wf=true):jo n:=bounds_i64 h
theorem aqc:RdP enc W 24 (fun ds=>∃a:As,ds=a.cs∧a.big):=by
 refine (Fz (As:=[_,_,_,_,_,_,_,_,_]) Tryz.underlying24 ⟨rfl,rdS,by kernel_rfl,rdS,by kernel_rfl,rdS,by kernel_rfl,rdS,by kernel_rfl,rdS,by kernel_rfl,rdI,by kernel_rfl,rdI,by kernel_rfl,rdI,by kernel_rfl,aoo,by show _=_;kernel_rfl⟩).mono ?_
 rintro ds ⟨_,_,⟨s1,rfl,_⟩,⟨_,_,⟨s2,rfl,_⟩,⟨_,_,⟨s3,rfl,_⟩,⟨_,_,⟨s4,rfl,_⟩,⟨_,_,⟨s5,rfl,_⟩,⟨_,_,⟨i1,rfl,w1⟩,⟨_,_,⟨i2,rfl,w2⟩,⟨_,_,⟨i3,rfl,w3⟩,⟨_,_,⟨nl,l,rfl,h1,h2⟩,rfl,rfl⟩,rfl⟩,rfl⟩,rfl⟩,rfl⟩,rfl⟩,rfl⟩,rfl⟩,rfl⟩
 exact⟨⟨s1,s2,s3,s4,s5,i1,i2,i3,nl,l⟩,rfl,h1,⟨wf_i64 w1,wf_i64 w2,wf_i64 w3⟩,h2⟩
variable {r:Reach} {b0:Nat} {v:Value} {d:DataW H} {ps:List MemPlace}
theorem arg_str (hval:Value.okWide Tryz.prog W r b0 9 v)(h:DataW.Trod enc Tryz.prog W 0 (fun _=>true) true 9 v d ps):∃s,XF W (.str s) v:=by
 obtain⟨s,rfl⟩:=okWide_string Tryz.underlying9 hval
 exact⟨_,.str s⟩
theorem ajw (hval:Value.okWide Tryz.prog W r b0 3 v)(h:DataW.Trod enc Tryz.prog W 0 (fun _=>true) true 3 v d ps):∃n,XF W (.int .i64 n) v:=by
 obtain⟨n,rfl⟩:=okWide_int Tryz.underlying3 hval
 exact⟨_,.int _ _⟩
theorem ag0 {f:Func}{s:ChangeSpec}{apart again:Bool}{W W':World}{args:Array Value}{ds gs:List (DataW H)}{before:List MemPlace}
  (hW:DataW.Whole enc Tryz.prog f.params.toList s.vars apart W args.toList ds gs before) (hv:s.vars=[]) (hb:Below W.heap.size W W') (ht:∀t∈f.params.toList,t<Tryz.prog.types.size)
  (hr:f.resultTypes=#[4]) (hres:(s.fn H (ds++gs)).results=[.lit (.bool true)]) (hargs:(s.fn H (ds++gs)).args=ds) (hvars:(s.fn H (ds++gs)).vars=[]):
  s.post enc Tryz.prog f apart true false again W args (.bool true) W':=by
 refine abv hW hv hb hr Tryz.underlying4 hres hargs hvars fun sp hs=>?_
 have hlt:=hW.lt
 obtain⟨p,q,hA,hV,rfl,hz,hn⟩:=hW
 rw[hv] at hV
 obtain⟨rfl,rfl⟩:=trodVars_none hV
 rw[akz] at hlt hs ⊢
 exact SS kids full hb ht hA hlt sp hs
end
theorem one {W:World}{d:D}{v:Value}(h:XF W d v):∀(i:Nat) e u,[d][i]?=some e→[v][i]?=some u→XF W e u:=by
 intro i e u h1 h2
 match i with
 | 0=>simp at h1 h2;subst h1;subst h2;exact h
 |i+1=>simp at h1
theorem akl {W:World}{d:D}{v:Value}{ds:List D}{vs:List Value}(h:XF W d v)(k:∀(i:Nat) e u,ds[i]?=some e→vs[i]?=some u→XF W e u):∀(i:Nat) e u,(d::ds)[i]?=some e→(v::vs)[i]?=some u→XF W e u:=by
 intro i e u h1 h2
 match i with
 | 0=>simp at h1 h2;subst h1;subst h2;exact h
 |i+1=>exact k i e u (by simpa using h1) (by simpa using h2)
end Go.Proofs.YtekopfoidhhedaaGreatDoor.Rw
