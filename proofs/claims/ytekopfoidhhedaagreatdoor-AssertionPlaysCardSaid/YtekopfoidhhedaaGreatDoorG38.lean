import Derived.Test.YtekopfoidhhedaaGreatDoorG37
import Derived.Test.YtekopfoidhhedaaGreatDoorG33
set_option linter.unusedVariables false
set_option linter.unusedSimpArgs false
set_option linter.unnecessarySimpa false
set_option maxRecDepth 100000
namespace Go.Proofs.YtekopfoidhhedaaGreatDoor.Rw
open Go Go.Id Go.Proofs Go.ChangeShapes Go.WideShapes Go.ChangeAt Go.RowKit
section
variable {H:Type} {enc:TypeId × Value→H} {W:World}
theorem aop:Tryz.prog.cellsOf 59=16:=by kernel_rfl
theorem aqd:RdP enc W 59 (fun ds=>∃o:lJ,ds=o.cs∧o.a.big):=by
 refine (Fz (As:=[_,_,_,_,_,_,_,_]) Tryz.underlying59 ⟨rfl,rdI,by kernel_rfl,rdI,by kernel_rfl,rdI,by kernel_rfl,rdS,by kernel_rfl,rdS,by kernel_rfl,aqc,by kernel_rfl,rdS,by kernel_rfl,rdS,by show _=_;kernel_rfl⟩).mono ?_
 rintro ds ⟨_,_,⟨i1,rfl,_⟩,⟨_,_,⟨i2,rfl,_⟩,⟨_,_,⟨i3,rfl,_⟩,⟨_,_,⟨s1,rfl,_⟩,⟨_,_,⟨s2,rfl,_⟩,⟨_,_,⟨a,rfl,hb⟩,⟨_,_,⟨s3,rfl,_⟩,⟨_,_,⟨s4,rfl,_⟩,rfl,rfl⟩,rfl⟩,rfl⟩,rfl⟩,rfl⟩,rfl⟩,rfl⟩,rfl⟩
 exact⟨⟨i1,i2,i3,s1,s2,a,s3,s4⟩,rfl,hb⟩
theorem aoq:RdP enc W 39 (fun ds=>∃nl l,ds=[.slice 16 nl (l.map lJ.cs) none]∧(nl=true→l=[])∧∀o∈l,o.a.big):=by
 refine (KN Tryz.underlying39 (by rw[aop];omega) (fun _ _ h=>h) aqd).mono ?_
 rintro ds ⟨nl,es,rfl,h1,h2,h3⟩
 obtain⟨l,rfl,hl⟩:=zQ (f:=lJ.cs) (g:=fun o=>o.a.big) es (fun e he=>let ⟨x,hs,hb⟩:=h3 e he;⟨x,hb,hs⟩)
 exact⟨nl,l,by rw[aop],fun h=>by simpa using h1 h,hl⟩
variable {r:Reach} {b0:Nat} {v:Value} {d:DataW H} {ps:List MemPlace}
theorem ajx (hval:Value.okWide Tryz.prog W r b0 39 v)(h:DataW.Trod enc Tryz.prog W 0 (fun _=>true) true 39 v d ps):
  ∃(l:List lJ) (nl:Bool),(nl=true→l=[])∧(∀o∈l,o.a.big)∧XF W (.slice 16 nl (l.map lJ.cs) none) v:=by
 obtain⟨a,len,cap,rfl⟩:=okWide_slice Tryz.underlying39 hval
 obtain⟨e,⟨nl,l,rfl,h1,h2⟩,hr⟩:=akK (D':=fun e=>∃nl l,e= .slice 16 nl (l.map lJ.cs) none∧(nl=true→l=[])∧∀o∈l,o.a.big) aoq h (fun cs=>by simp) (by rintro ds ⟨nl,l,rfl,h,h2⟩;exact⟨_,rfl,nl,l,rfl,h,h2⟩)
 exact⟨l,nl,h1,h2,hr⟩
end
end Go.Proofs.YtekopfoidhhedaaGreatDoor.Rw
