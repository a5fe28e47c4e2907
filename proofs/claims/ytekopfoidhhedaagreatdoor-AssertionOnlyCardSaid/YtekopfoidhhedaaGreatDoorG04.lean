import Derived.Test.YtekopfoidhhedaaGreatDoorG02
import Derived.Lib.LaidTab
import Derived.Lib.ItoaNum
import Derived.Test.YtekopfoidhhedaaGreatDoorProg
import Derived.Lib.TrimByte
import Derived.Lib.IndexMore
import Derived.Lib.Bytealg
import Derived.Lib.DecodeN
set_option linter.unusedVariables false
set_option linter.unusedSimpArgs false
set_option linter.unnecessarySimpa false
namespace Go.Proofs
open Go Go.Id
def aat:List Int:=[48,49,50,51,52,53,54,55,56,57,97,98,99,100,101,102]
def aau (w:World):Prop:=
 (∃m,w.cell? ⟨1,0,none⟩=some (.int .i64 m))∧Lib.TabIs Tryz.prog w "internal/strconv.uint64pow10" .u64 Lib.pow10Tab∧(∃tp p,w.cell? ⟨5,0,none⟩=some (.iface tp p))∧(∃tp p,w.cell? ⟨6,0,none⟩=some (.iface tp p))∧Lib.TabIs Tryz.prog w "identity/digest.digits" .u8 aat
theorem II:Tryz.prog.globalNamed "internal/strconv.uint64pow10" = some 2:=by kernel_rfl
theorem vO:Tryz.prog.globalNamed "identity/digest.digits" = some 0:=by kernel_rfl
theorem Rq (w w':World)(h:aau w)(hk:∀k,k<8→w'.heap[k]?=w.heap[k]?):aau w':=by
 have hc:∀k,k<8→w'.cell? ⟨k,0,none⟩=w.cell? ⟨k,0,none⟩:=fun k h=>World.cell?_of_block (w:=w) (w':=w') (by simpa using hk k h)
 obtain⟨h1,h2,h3,h4,h5⟩:=h
 refine⟨by rw[hc 1 (by omega)];exact h1,?_,by rw[hc 5 (by omega)];exact h3,by rw[hc 6 (by omega)];exact h4,?_⟩
 ·unfold Lib.TabIs World.var? at h2 ⊢
  rw[II] at h2 ⊢
  simp only[Option.bind_some] at h2 ⊢
  rw[hk 2 (by omega)];exact h2
 ·unfold Lib.TabIs World.var? at h5 ⊢
  rw[vO] at h5 ⊢
  simp only[Option.bind_some] at h5 ⊢
  rw[hk 0 (by omega)];exact h5
def G6:List D:=aat.map (.int .u8)
def aav (g:Nat):Option (List D):=if g=0 then some G6 else none
theorem aaw (w:World)(h:aau w)(g:Nat)(cs:List D)(hg:aav g=some cs):g<8∧∃vs:List Value,vs.length=cs.length∧(∀(j:Nat) (v:Value),vs[j]?=some v→w.cell? ⟨g,j,none⟩=some v∧v.oneCell'=true)∧∀(j:Nat) (d:D) (v:Value),cs[j]?=some d→vs[j]?=some v→∀(M:Nat→Nat→Prop) (γ:Nat→Option G),Rep M γ w d v:=by
 unfold aav at hg
 split at hg
 rotate_left
 ·cases hg
 rename_i e
 subst e
 cases hg
 refine⟨by omega,aat.map (.int .u8),by simp[G6],fun j v hv=>⟨?_,?_⟩,fun j d v hd hv M γ=>?_⟩
 ·have h5:=h.2.2.2.2
  unfold Lib.TabIs at h5
  have hj:((aat.map fun z=>Value.int .u8 z).toArray)[j]?=some v:=by simpa using hv
  have:=World.var?_cell vO h5 j
  rw[this];exact hj
 ·rw[List.getElem?_map] at hv
  obtain⟨z,_,rfl⟩:=Option.map_eq_some_iff.1 hv
  rfl
 ·rw[G6,List.getElem?_map] at hd
  rw[List.getElem?_map] at hv
  obtain⟨z,hz,rfl⟩:=Option.map_eq_some_iff.1 hv
  rw[hz] at hd
  cases hd
  exact .int _ _
def ak8 (_:TypeId)(n:Nat)(ps:Array (Nat × Operand)):Bool:=n == 0 || (n == 1 && match ps.toList with| [(_,.tmp i)]=>i == 58 || i == 76 | _=>false)
noncomputable def Pr:gy:=⟨Tryz.prog,8,aau,Rq,ak8,aav,aaw⟩
theorem aB:Pr.prog=Tryz.prog∧(∀t ps,Pr.lit t 0 ps=true)∧(∀t i,Pr.lit t 1 #[(0,.tmp i)]=(i == 58 || i == 76))∧(∀t c,Pr.lit t 1 #[(0,.const c)]=false)∧(∀t ps,Pr.lit t 2 ps=false)∧(∀t ps,Pr.lit t 3 ps=false)∧(∀t ps,Pr.lit t 4 ps=false)∧(∀t ps,Pr.lit t 5 ps=false)∧(∀t ps,Pr.lit t 6 ps=false)∧Pr.glob 0=some G6:=
 ⟨rfl,fun _ _=>rfl,fun _ _=>rfl,fun _ _=>rfl,fun _ _=>rfl,fun _ _=>rfl,fun _ _=>rfl,fun _ _=>rfl,fun _ _=>rfl,rfl⟩
theorem dF {k:FuncId}{fn:Func}(h:Tryz.prog.funcs[k]?=some fn)(hn:(fn.name == "runtime.NumGoroutine")=false)(hb:fn.body.isNone=false):oI Pr.prog k:=⟨fn,h,hn,hb⟩
set_option maxRecDepth 10000
theorem Rt:rY Tryz.prog 24=some 9:=by kernel_rfl
theorem MH:jw Tryz.prog 24=some true:=by kernel_rfl
theorem pG:isStr Tryz.prog 9=true:=by kernel_rfl
theorem Ak:fM Tryz.prog 9=false:=by kernel_rfl
theorem IJ:gV Tryz.prog 24=some [.str [],.str [],.str [],.str [],.str [],.int .i64 0,.int .i64 0,.int .i64 0,.slice 0 true [] none]:=by kernel_rfl
theorem Ru:qJ Tryz.prog 41=2:=by kernel_rfl
theorem Rx:qJ Tryz.prog 47=2:=by kernel_rfl
theorem IK:isStr Tryz.prog 39=false:=by kernel_rfl
theorem yX:fM Tryz.prog 39=true:=by kernel_rfl
theorem IL:bV Tryz.prog 39=some (59,16,216):=by kernel_rfl
theorem Ry:rY Tryz.prog 59=some 16:=by kernel_rfl
theorem MJ:jw Tryz.prog 59=some true:=by kernel_rfl
theorem Ey:dV Tryz.prog 59 2=some (2,1):=by kernel_rfl
theorem uy:rY Tryz.prog 3=some 1:=by kernel_rfl
theorem qj:jw Tryz.prog 3=some false:=by kernel_rfl
theorem Ez:dV Tryz.prog 24 8=some (8,1):=by kernel_rfl
theorem Rz:rY Tryz.prog 22=some 1:=by kernel_rfl
theorem MN:jw Tryz.prog 22=some false:=by kernel_rfl
theorem EC:dV Tryz.prog 59 0=some (0,1):=by kernel_rfl
theorem ED:dV Tryz.prog 24 1=some (1,1):=by kernel_rfl
theorem uz:rY Tryz.prog 9=some 1:=by kernel_rfl
theorem ql:jw Tryz.prog 9=some false:=by kernel_rfl
theorem EF:dV Tryz.prog 24 2=some (2,1):=by kernel_rfl
theorem EG:dV Tryz.prog 24 5=some (5,1):=by kernel_rfl
theorem EH:dV Tryz.prog 24 6=some (6,1):=by kernel_rfl
theorem IQ:isStr Tryz.prog 62=false:=by kernel_rfl
theorem yY:fM Tryz.prog 62=true:=by kernel_rfl
theorem EI:dV Tryz.prog 24 4=some (4,1):=by kernel_rfl
theorem WQ:qJ Tryz.prog 4=5:=by kernel_rfl
theorem EJ:dV Tryz.prog 24 7=some (7,1):=by kernel_rfl
theorem EK:dV Tryz.prog 24 0=some (0,1):=by kernel_rfl
theorem EL:dV Tryz.prog 24 3=some (3,1):=by kernel_rfl
theorem IU:isStr Tryz.prog 22=false:=by kernel_rfl
theorem yZ:fM Tryz.prog 22=true:=by kernel_rfl
theorem zD:bV Tryz.prog 22=some (75,2,40):=by kernel_rfl
theorem EM:dV Tryz.prog 75 0=some (0,1):=by kernel_rfl
theorem EN:dV Tryz.prog 75 1=some (1,1):=by kernel_rfl
theorem RD:rY Tryz.prog 62=some 1:=by kernel_rfl
theorem MO:jw Tryz.prog 62=some false:=by kernel_rfl
theorem uD:bV Tryz.prog 62=some (9,1,16):=by kernel_rfl
theorem uF:g_ Tryz.prog 9=true:=by kernel_rfl
theorem IV:gV Tryz.prog 27=some [.int .i64 0]:=by kernel_rfl
theorem y9:eH Tryz.prog 24=true:=by kernel_rfl
theorem RF:rY Tryz.prog 27=some 1:=by kernel_rfl
theorem IW:gV Tryz.prog 88=some [.slice 0 true [] none]:=by kernel_rfl
theorem zf:eH Tryz.prog 88=true:=by kernel_rfl
theorem EO:dV Tryz.prog 88 0=some (0,1):=by kernel_rfl
theorem IX:gV Tryz.prog 75=some [.str [],.slice 0 true [] none]:=by kernel_rfl
theorem zh:eH Tryz.prog 75=true:=by kernel_rfl
theorem vP:g_ Tryz.prog 75=true:=by kernel_rfl
theorem IY:isStr Tryz.prog 35=false:=by kernel_rfl
theorem zi:fM Tryz.prog 35=true:=by kernel_rfl
theorem IZ:bV Tryz.prog 35=some (99,6,64):=by kernel_rfl
theorem qU:dV Tryz.prog 99 0=some (0,1):=by kernel_rfl
theorem qV:dV Tryz.prog 99 1=some (1,1):=by kernel_rfl
theorem EP:dV Tryz.prog 59 3=some (3,1):=by kernel_rfl
theorem ER:dV Tryz.prog 59 4=some (4,1):=by kernel_rfl
theorem ES:dV Tryz.prog 59 6=some (14,1):=by kernel_rfl
theorem ET:dV Tryz.prog 59 7=some (15,1):=by kernel_rfl
theorem EU:dV Tryz.prog 59 5=some (5,9):=by kernel_rfl
theorem I4:mapD Tryz.prog 105=some 121:=by kernel_rfl
theorem EW:gV Tryz.prog 107=some [.str [],.int .i64 0,.bG,.aP]:=by kernel_rfl
theorem vS:eH Tryz.prog 107=true:=by kernel_rfl
theorem Am:dV Tryz.prog 107 0=some (0,1):=by kernel_rfl
theorem Ap:dV Tryz.prog 107 1=some (1,1):=by kernel_rfl
theorem Aq:dV Tryz.prog 107 2=some (2,1):=by kernel_rfl
theorem Ar:dV Tryz.prog 107 3=some (3,1):=by kernel_rfl
theorem EX:gV Tryz.prog 114=some [.bool false,.str [],.int .i64 0,.slice 0 true [] none,.aP]:=by kernel_rfl
theorem vT:eH Tryz.prog 114=true:=by kernel_rfl
theorem Au:dV Tryz.prog 114 0=some (0,1):=by kernel_rfl
theorem Aw:dV Tryz.prog 114 1=some (1,1):=by kernel_rfl
theorem Az:dV Tryz.prog 114 2=some (2,1):=by kernel_rfl
theorem AA:dV Tryz.prog 114 4=some (4,1):=by kernel_rfl
theorem EY:gV Tryz.prog 117=some [.slice 0 true [] none]:=by kernel_rfl
theorem vV:eH Tryz.prog 117=true:=by kernel_rfl
theorem sF:rY Tryz.prog 55=some 5:=by kernel_rfl
theorem sG:jw Tryz.prog 55=some true:=by kernel_rfl
theorem lq:dV Tryz.prog 55 3=some (3,2):=by kernel_rfl
theorem lu:dV Tryz.prog 53 1=some (1,1):=by kernel_rfl
theorem qW:dV Tryz.prog 55 0=some (0,1):=by kernel_rfl
theorem AB:dV Tryz.prog 117 0=some (0,1):=by kernel_rfl
theorem MP:rY Tryz.prog 115=some 1:=by kernel_rfl
theorem I5:jw Tryz.prog 115=some false:=by kernel_rfl
theorem EZ:isStr Tryz.prog 115=false:=by kernel_rfl
theorem vW:fM Tryz.prog 115=true:=by kernel_rfl
theorem E5:g_ Tryz.prog 99=true:=by kernel_rfl
theorem nU:dV Tryz.prog 55 2=some (2,1):=by kernel_rfl
theorem vX:rY Tryz.prog 35=some 1:=by kernel_rfl
theorem xX:jw Tryz.prog 35=some false:=by kernel_rfl
theorem E8:bV Tryz.prog 115=some (55,5,72):=by kernel_rfl
theorem E_:g_ Tryz.prog 55=true:=by kernel_rfl
theorem I7:gV Tryz.prog 55=some [.str [],.str [],.slice 0 true [] none,.int .i64 0,.int .i64 0]:=by kernel_rfl
theorem I8:gV Tryz.prog 53=some [.int .i64 0,.int .i64 0]:=by kernel_rfl
theorem zk:eH Tryz.prog 53=true:=by kernel_rfl
theorem qX:dV Tryz.prog 53 0=some (0,1):=by kernel_rfl
theorem zl:eH Tryz.prog 55=true:=by kernel_rfl
theorem vY:dV Tryz.prog 55 1=some (1,1):=by kernel_rfl
theorem Fa:dV Tryz.prog 59 1=some (1,1):=by kernel_rfl
theorem MQ:rY Tryz.prog 105=some 1:=by kernel_rfl
theorem I9:jw Tryz.prog 105=some false:=by kernel_rfl
theorem Fb:isStr Tryz.prog 105=false:=by kernel_rfl
theorem Fg:gV Tryz.prog 121=some [.str [],.int .i64 0]:=by kernel_rfl
theorem MR:rY Tryz.prog 121=some 2:=by kernel_rfl
theorem AL:dV Tryz.prog 121 1=some (1,1):=by kernel_rfl
theorem Fh:isStr Tryz.prog 112=false:=by kernel_rfl
theorem vZ:fM Tryz.prog 112=true:=by kernel_rfl
theorem Fj:bV Tryz.prog 112=some (126,3,40):=by kernel_rfl
theorem AO:dV Tryz.prog 126 0=some (0,1):=by kernel_rfl
theorem RG:rY Tryz.prog 75=some 2:=by kernel_rfl
theorem MV:jw Tryz.prog 75=some true:=by kernel_rfl
theorem uG:gV Tryz.prog 99=some [.str [],.str [],.int .i64 0,.int .i64 0,.int .i64 0,.int .i64 0]:=by kernel_rfl
theorem zn:eH Tryz.prog 99=true:=by kernel_rfl
theorem Fp:dV Tryz.prog 99 2=some (2,2):=by kernel_rfl
theorem Fq:dV Tryz.prog 99 3=some (4,2):=by kernel_rfl
theorem wo:eH Tryz.prog 121=true:=by kernel_rfl
theorem AP:dV Tryz.prog 121 0=some (0,1):=by kernel_rfl
theorem sH:rY Tryz.prog 99=some 6:=by kernel_rfl
theorem Fv:zeroV Tryz.prog 121=some (.agg [.str [],.int .i64 0]):=by kernel_rfl
theorem MW:rY Tryz.prog 102=some 1:=by kernel_rfl
theorem I_:jw Tryz.prog 102=some false:=by kernel_rfl
theorem zF:mapD Tryz.prog 136=some 55:=by kernel_rfl
theorem Fz:gV Tryz.prog 138=some [.bG]:=by kernel_rfl
theorem wu:eH Tryz.prog 138=true:=by kernel_rfl
theorem uH:dV Tryz.prog 138 0=some (0,1):=by kernel_rfl
theorem Dw:rY Tryz.prog 136=some 1:=by kernel_rfl
theorem zG:jw Tryz.prog 136=some false:=by kernel_rfl
theorem Ja:zeroV Tryz.prog 55=some (.agg [.str [],.str [],.slice 0 true [] none,.int .i64 0,.int .i64 0]):=by kernel_rfl
theorem FB:isStr Tryz.prog 136=false:=by kernel_rfl
theorem wz:fM Tryz.prog 136=false:=by kernel_rfl
theorem FC:gV Tryz.prog 144=some [.aP,.slice 0 true [] none]:=by kernel_rfl
theorem nV:bV Tryz.prog 142=some (5,1,1):=by kernel_rfl
theorem Jb:g_ Tryz.prog 5=true:=by kernel_rfl
theorem FD:jJ Tryz.prog 142=none:=by kernel_rfl
theorem MX:jJ Tryz.prog 9=none:=by kernel_rfl
theorem FH:isStr Tryz.prog 142=false:=by kernel_rfl
theorem sJ:jJ Tryz.prog 5=some .u8:=by kernel_rfl
theorem MZ:jJ Tryz.prog 3=some .i64:=by kernel_rfl
theorem M_:isStr Tryz.prog 3=false:=by kernel_rfl
theorem Na:isStr Tryz.prog 5=false:=by kernel_rfl
theorem RH:qJ Tryz.prog 20=4:=by kernel_rfl
theorem Jc:Ei Tryz.prog 83=true:=by kernel_rfl
theorem Jd:gV Tryz.prog 83=some []:=by kernel_rfl
theorem RI:rY Tryz.prog 83=some 0:=by kernel_rfl
theorem zo:eH Tryz.prog 83=true:=by kernel_rfl
theorem FI:bV Tryz.prog 161=some (3,1,8):=by kernel_rfl
theorem Je:g_ Tryz.prog 3=true:=by kernel_rfl
theorem Jf:jJ Tryz.prog 21=some .i32:=by kernel_rfl
theorem Jg:isStr Tryz.prog 21=false:=by kernel_rfl
theorem xY:jw Tryz.prog 99=some true:=by kernel_rfl
theorem Jh:mapD Tryz.prog 169=some 3:=by kernel_rfl
theorem FK:gV Tryz.prog 171=some [.bG,.int .i64 0]:=by kernel_rfl
theorem wB:eH Tryz.prog 171=true:=by kernel_rfl
theorem AQ:dV Tryz.prog 171 0=some (0,1):=by kernel_rfl
theorem AU:dV Tryz.prog 171 1=some (1,1):=by kernel_rfl
theorem FM:gV Tryz.prog 174=some [.int .i64 0,.slice 0 true [] none]:=by kernel_rfl
theorem wC:eH Tryz.prog 174=true:=by kernel_rfl
theorem AV:dV Tryz.prog 174 0=some (0,1):=by kernel_rfl
theorem AX:rY Tryz.prog 53=some 2:=by kernel_rfl
theorem xZ:jw Tryz.prog 53=some true:=by kernel_rfl
theorem FN:gV Tryz.prog 126=some [.str [],.str [],.int .i64 0]:=by kernel_rfl
theorem wE:eH Tryz.prog 126=true:=by kernel_rfl
theorem AY:dV Tryz.prog 126 1=some (1,1):=by kernel_rfl
theorem AZ:dV Tryz.prog 126 2=some (2,1):=by kernel_rfl
theorem A8:g_ Tryz.prog 126=true:=by kernel_rfl
theorem A_:dV Tryz.prog 114 3=some (3,1):=by kernel_rfl
theorem Nb:rY Tryz.prog 112=some 1:=by kernel_rfl
theorem Ji:jw Tryz.prog 112=some false:=by kernel_rfl
theorem Nc:rY Tryz.prog 109=some 1:=by kernel_rfl
theorem Jj:jw Tryz.prog 109=some false:=by kernel_rfl
theorem Dx:qJ Tryz.prog 105=6:=by kernel_rfl
theorem FP:jJ Tryz.prog 182=some .u64:=by kernel_rfl
theorem FQ:isStr Tryz.prog 182=false:=by kernel_rfl
theorem RJ:qJ Tryz.prog 44=2:=by kernel_rfl
theorem WR:rY Tryz.prog 4=some 1:=by kernel_rfl
theorem RN:jw Tryz.prog 4=some false:=by kernel_rfl
theorem Nh:rY Tryz.prog 126=some 3:=by kernel_rfl
theorem Jk:jw Tryz.prog 126=some true:=by kernel_rfl
theorem Nj:rY Tryz.prog 169=some 1:=by kernel_rfl
theorem Jl:jw Tryz.prog 169=some false:=by kernel_rfl
theorem Nk:zeroV Tryz.prog 3=some (.int .i64 0):=by kernel_rfl
theorem Dy:qJ Tryz.prog 136=6:=by kernel_rfl
theorem Ba:dV Tryz.prog 144 1=some (1,1):=by kernel_rfl
theorem Nl:rY Tryz.prog 142=some 1:=by kernel_rfl
theorem Jm:jw Tryz.prog 142=some false:=by kernel_rfl
theorem Bc:byteElem Tryz.prog 5=true:=by kernel_rfl
theorem x9:gV Tryz.prog 9=some [.str []]:=by kernel_rfl
theorem wF:fM Tryz.prog 142=true:=by kernel_rfl
theorem Np:qJ Tryz.prog 146=4:=by kernel_rfl
theorem Pv:rY Tryz.prog 5=some 1:=by kernel_rfl
theorem Jo:jw Tryz.prog 5=some false:=by kernel_rfl
theorem FT:CX Tryz.prog 99=some [.s,.s,.i,.i,.i,.i]:=by kernel_rfl
theorem Nq:qJ Tryz.prog 109=2:=by kernel_rfl
theorem Bd:dV Tryz.prog 174 1=some (1,1):=by kernel_rfl
theorem Nr:rY Tryz.prog 172=some 1:=by kernel_rfl
theorem Jp:jw Tryz.prog 172=some false:=by kernel_rfl
theorem FU:bV Tryz.prog 172=some (213,2,24):=by kernel_rfl
theorem Bf:dV Tryz.prog 213 1=some (1,1):=by kernel_rfl
theorem FW:isStr Tryz.prog 172=false:=by kernel_rfl
theorem wG:fM Tryz.prog 172=true:=by kernel_rfl
theorem FX:gV Tryz.prog 213=some [.str [],.int .i64 0]:=by kernel_rfl
theorem wH:eH Tryz.prog 213=true:=by kernel_rfl
theorem Bg:dV Tryz.prog 213 0=some (0,1):=by kernel_rfl
theorem Bh:g_ Tryz.prog 213=true:=by kernel_rfl
theorem FY:jJ Tryz.prog 223=some .u32:=by kernel_rfl
theorem F5:isStr Tryz.prog 223=false:=by kernel_rfl
theorem wI:gV Tryz.prog 226=some [.int .u8 0,.int .u8 0,.int .u8 0,.int .u8 0,.int .u8 0,.int .u8 0,.int .u8 0,.int .u8 0,.int .u8 0,.int .u8 0,.int .u8 0,.int .u8 0,.int .u8 0,.int .u8 0,.int .u8 0,.int .u8 0]:=by kernel_rfl
theorem uI:Ll Tryz.prog 226=some (16,1):=by kernel_rfl
theorem F6:isStr Tryz.prog 226=false:=by kernel_rfl
theorem F7:jJ Tryz.prog 184=some .u64:=by kernel_rfl
theorem F8:isStr Tryz.prog 184=false:=by kernel_rfl
theorem Ns:rY Tryz.prog 226=some 16:=by kernel_rfl
theorem Jq:jw Tryz.prog 226=some true:=by kernel_rfl
theorem Jr:ZQ Tryz.prog 226=some 16:=by kernel_rfl
theorem Nu:qJ Tryz.prog 102=2:=by kernel_rfl
theorem Dz:qJ Tryz.prog 169=6:=by kernel_rfl
theorem F9:isStr Tryz.prog 169=false:=by kernel_rfl
theorem wJ:fM Tryz.prog 169=false:=by kernel_rfl
theorem RP:qJ Tryz.prog 35=1:=by kernel_rfl
theorem Bj:dV Tryz.prog 144 0=some (0,1):=by kernel_rfl
theorem Nv:rY Tryz.prog 141=some 1:=by kernel_rfl
theorem Js:jw Tryz.prog 141=some false:=by kernel_rfl
theorem Nw:qJ Tryz.prog 141=2:=by kernel_rfl
theorem Gf:jJ Tryz.prog 141=none:=by kernel_rfl
theorem Gg:jJ Tryz.prog 229=none:=by kernel_rfl
theorem Gh:isStr Tryz.prog 141=false:=by kernel_rfl
theorem Gi:isStr Tryz.prog 229=false:=by kernel_rfl
theorem Ny:rY Tryz.prog 213=some 2:=by kernel_rfl
theorem Jt:jw Tryz.prog 213=some true:=by kernel_rfl
theorem Gj:jJ Tryz.prog 237=some .u64:=by kernel_rfl
theorem Gl:isStr Tryz.prog 237=false:=by kernel_rfl
theorem Gm:gV Tryz.prog 237=some [.int .u64 0]:=by kernel_rfl
theorem Nz:rY Tryz.prog 237=some 1:=by kernel_rfl
theorem NC:gV Tryz.prog 3=some [.int .i64 0]:=by kernel_rfl
theorem ND:Ei Tryz.prog 9=true:=by kernel_rfl
theorem Ju:jw Tryz.prog 237=some false:=by kernel_rfl
theorem Gn:isStr Tryz.prog 161=false:=by kernel_rfl
theorem wK:fM Tryz.prog 161=true:=by kernel_rfl
theorem Jv:Ll Tryz.prog 292=some (32,1):=by kernel_rfl
theorem Jw:Ll Tryz.prog 293=some (64,1):=by kernel_rfl
set_option maxRecDepth 20000
theorem EV:(∀(α:Type) (a b:List α),List.append a b=a++b)∧(∀(α:Type) (x:α) (a b:List α),(x::a)++b=x::(a++b))∧(∀(α:Type) (a:List α),[]++a=a)∧(∀(α:Type) [BEq α] [LawfulBEq α] (a:α),(a != a)=false)∧(∀(α:Type) [BEq α] [ReflBEq α] (a:α),(a == a)=true)∧((!true)=false)∧((!false)=true):=
 ⟨fun _ _ _=>rfl,fun _ _ _ _=>rfl,fun _ _=>rfl,fun _ _ _ a=>bne_self_eq_false a,fun _ _ _ a=>beq_self_eq_true a,rfl,rfl⟩
theorem FV:type_of% (@List.append_eq.{0})∧type_of% (@List.cons_append.{0})∧type_of% (@List.nil_append.{0})∧type_of% (@Bool.not_true)∧type_of% (@Bool.not_false)∧type_of% (@Option.isSome_none.{0})∧type_of% (@Option.isSome_some.{0})∧type_of% (@Option.getD_none.{0})∧type_of% (@Option.getD_some.{0})∧type_of% (@Option.map_none.{0,0})∧type_of% (@Option.map_some.{0,0})∧type_of% (@List.take_succ_cons.{0})∧type_of% (@List.take_zero.{0})∧type_of% (@List.drop_succ_cons.{0})∧type_of% (@List.drop_zero.{0})∧type_of% (@List.isEmpty_cons.{0})∧type_of% (@Bool.and_false)∧type_of% (@Bool.false_and)∧type_of% (@List.getElem?_cons_zero.{0})∧type_of% (@List.getElem?_cons_succ.{0})∧type_of% (@Int.natCast_nonneg)∧type_of% (@Int.toNat_natCast)∧type_of% (@Nat.add_zero)∧type_of% (@MG):=⟨@List.append_eq.{0},@List.cons_append.{0},@List.nil_append.{0},@Bool.not_true,@Bool.not_false,@Option.isSome_none.{0},@Option.isSome_some.{0},@Option.getD_none.{0},@Option.getD_some.{0},@Option.map_none.{0,0},@Option.map_some.{0,0},@List.take_succ_cons.{0},@List.take_zero.{0},@List.drop_succ_cons.{0},@List.drop_zero.{0},@List.isEmpty_cons.{0},@Bool.and_false,@Bool.false_and,@List.getElem?_cons_zero.{0},@List.getElem?_cons_succ.{0},@Int.natCast_nonneg,@Int.toNat_natCast,@Nat.add_zero,@MG⟩
theorem TF:type_of% EV∧type_of% FV∧type_of% W∧type_of% aB∧type_of% Rt∧type_of% MH∧type_of% pG∧type_of% Ak∧type_of% IJ∧type_of% Ru∧type_of% Rx∧type_of% IK∧type_of% yX∧type_of% IL∧type_of% Ry∧type_of% MJ∧type_of% Ey∧type_of% uy∧type_of% qj∧type_of% Ez∧type_of% Rz∧type_of% MN∧type_of% EC∧type_of% ED∧type_of% uz∧type_of% ql∧type_of% EF∧type_of% EG∧type_of% EH∧type_of% IQ∧type_of% yY∧type_of% EI∧type_of% WQ∧type_of% EJ∧type_of% EK∧type_of% EL∧type_of% IU∧type_of% yZ∧type_of% zD∧type_of% EM∧type_of% EN∧type_of% RD∧type_of% MO∧type_of% uD∧type_of% uF∧type_of% IV∧type_of% y9∧type_of% RF∧type_of% IW∧type_of% zf∧type_of% EO∧type_of% IX∧type_of% zh∧type_of% vP∧type_of% IY∧type_of% zi∧type_of% IZ∧type_of% qU∧type_of% qV∧type_of% EP∧type_of% ER∧type_of% ES∧type_of% ET∧type_of% EU∧type_of% I4∧type_of% EW∧type_of% vS∧type_of% Am∧type_of% Ap∧type_of% Aq∧type_of% Ar∧type_of% EX∧type_of% vT∧type_of% Au∧type_of% Aw∧type_of% Az∧type_of% AA∧type_of% EY∧type_of% vV∧type_of% sF∧type_of% sG∧type_of% lq∧type_of% lu∧type_of% qW∧type_of% AB∧type_of% MP∧type_of% I5∧type_of% EZ∧type_of% vW∧type_of% E5∧type_of% nU∧type_of% vX∧type_of% xX∧type_of% E8∧type_of% E_∧type_of% I7∧type_of% I8∧type_of% zk∧type_of% qX∧type_of% zl∧type_of% vY∧type_of% Fa∧type_of% MQ∧type_of% I9∧type_of% Fb∧type_of% Fg∧type_of% MR∧type_of% AL∧type_of% Fh∧type_of% vZ∧type_of% Fj∧type_of% AO∧type_of% RG∧type_of% MV∧type_of% uG∧type_of% zn∧type_of% Fp∧type_of% Fq∧type_of% wo∧type_of% AP∧type_of% sH∧type_of% Fv∧type_of% MW∧type_of% I_∧type_of% zF∧type_of% Fz∧type_of% wu∧type_of% uH∧type_of% Dw∧type_of% zG∧type_of% Ja∧type_of% FB∧type_of% wz∧type_of% FC∧type_of% nV∧type_of% Jb∧type_of% FD∧type_of% MX∧type_of% FH∧type_of% sJ∧type_of% MZ∧type_of% M_∧type_of% Na∧type_of% RH∧type_of% Jc∧type_of% Jd∧type_of% RI∧type_of% zo∧type_of% FI∧type_of% Je∧type_of% Jf∧type_of% Jg∧type_of% xY∧type_of% Jh∧type_of% FK∧type_of% wB∧type_of% AQ∧type_of% AU∧type_of% FM∧type_of% wC∧type_of% AV∧type_of% AX∧type_of% xZ∧type_of% FN∧type_of% wE∧type_of% AY∧type_of% AZ∧type_of% A8∧type_of% A_∧type_of% Nb∧type_of% Ji∧type_of% Nc∧type_of% Jj∧type_of% Dx∧type_of% FP∧type_of% FQ∧type_of% RJ∧type_of% WR∧type_of% RN∧type_of% Nh∧type_of% Jk∧type_of% Nj∧type_of% Jl∧type_of% Nk∧type_of% Dy∧type_of% Ba∧type_of% Nl∧type_of% Jm∧type_of% Bc∧type_of% x9∧type_of% wF∧type_of% Np∧type_of% Pv∧type_of% Jo∧type_of% FT∧type_of% Nq∧type_of% Bd∧type_of% Nr∧type_of% Jp∧type_of% FU∧type_of% Bf∧type_of% FW∧type_of% wG∧type_of% FX∧type_of% wH∧type_of% Bg∧type_of% Bh∧type_of% FY∧type_of% F5∧type_of% wI∧type_of% uI∧type_of% F6∧type_of% F7∧type_of% F8∧type_of% Ns∧type_of% Jq∧type_of% Jr∧type_of% Nu∧type_of% Dz∧type_of% F9∧type_of% wJ∧type_of% RP∧type_of% Bj∧type_of% Nv∧type_of% Js∧type_of% Nw∧type_of% Gf∧type_of% Gg∧type_of% Gh∧type_of% Gi∧type_of% Ny∧type_of% Jt∧type_of% Gj∧type_of% Gl∧type_of% Gm∧type_of% Nz∧type_of% NC∧type_of% ND∧type_of% Ju∧type_of% Gn∧type_of% wK∧type_of% Jv∧type_of% Jw:=⟨EV,FV,W,aB,Rt,MH,pG,Ak,IJ,Ru,Rx,IK,yX,IL,Ry,MJ,Ey,uy,qj,Ez,Rz,MN,EC,ED,uz,ql,EF,EG,EH,IQ,yY,EI,WQ,EJ,EK,EL,IU,yZ,zD,EM,EN,RD,MO,uD,uF,IV,y9,RF,IW,zf,EO,IX,zh,vP,IY,zi,IZ,qU,qV,EP,ER,ES,ET,EU,I4,EW,vS,Am,Ap,Aq,Ar,EX,vT,Au,Aw,Az,AA,EY,vV,sF,sG,lq,lu,qW,AB,MP,I5,EZ,vW,E5,nU,vX,xX,E8,E_,I7,I8,zk,qX,zl,vY,Fa,MQ,I9,Fb,Fg,MR,AL,Fh,vZ,Fj,AO,RG,MV,uG,zn,Fp,Fq,wo,AP,sH,Fv,MW,I_,zF,Fz,wu,uH,Dw,zG,Ja,FB,wz,FC,nV,Jb,FD,MX,FH,sJ,MZ,M_,Na,RH,Jc,Jd,RI,zo,FI,Je,Jf,Jg,xY,Jh,FK,wB,AQ,AU,FM,wC,AV,AX,xZ,FN,wE,AY,AZ,A8,A_,Nb,Ji,Nc,Jj,Dx,FP,FQ,RJ,WR,RN,Nh,Jk,Nj,Jl,Nk,Dy,Ba,Nl,Jm,Bc,x9,wF,Np,Pv,Jo,FT,Nq,Bd,Nr,Jp,FU,Bf,FW,wG,FX,wH,Bg,Bh,FY,F5,wI,uI,F6,F7,F8,Ns,Jq,Jr,Nu,Dz,F9,wJ,RP,Bj,Nv,Js,Nw,Gf,Gg,Gh,Gi,Ny,Jt,Gj,Gl,Gm,Nz,NC,ND,Ju,Gn,wK,Jv,Jw⟩
theorem aax {n:Nat}(h:0<n)(hn:n≤140737488355328):IntKind.wrap .i64 ((n:Int) - 1)=((n - 1:Nat):Int):=by
 rw[wrap_i64 (by omega) (by omega)];omega
def upperB (n:Int):Bool:=decide (n≥65) && decide (n≤90)
def b_ (n:Int):Bool:=upperB n || (decide (n≥97) && decide (n≤122))
def iH (n:Int):Bool:=decide (n≥48) && decide (n≤57)
def dO (n:Int):Bool:=b_ n || iH n || n == 45 || n == 95 || n == 46 || n == 58
def aX (s:List UInt8):Bool:=s.all (fun c=>dO c.toNat) && !(s == []) && decide ((s.length:Int)≤64)
def nX (n:Int):Bool:=decide (32≤n) && decide (n≤126)
def DC (s:List UInt8)(i:Nat):Int:=
 match s[i]? with
 |some c=>c.toNat
 |none=>-1
theorem yc {s:List UInt8}{i:Nat}(h:i<s.length):DC s i=s[i].toNat:=by simp[DC,h]
theorem WS (s:List UInt8)(i:Nat)(c:UInt8):(DC s i == (c.toNat:Int))=(s[i]? == some c):=by
 unfold DC
 cases h:s[i]? with
 |none=>rw[Bool.eq_iff_iff];simp
 |some d=>
  rw[Bool.eq_iff_iff]
  simp only[beq_iff_eq,Option.some.injEq]
  exact⟨fun e=>UInt8.toNat_inj.1 (by omega),fun e=>by rw[e]⟩
def endsB (s:List UInt8):Bool:=!(DC s 0 == 32) && !(DC s (s.length - 1) == 32)
theorem aay (s:List UInt8):endsB s=(!(s[0]? == some 32) && !(s[s.length - 1]? == some 32)):=by
 unfold endsB
 have h1:=WS s 0 32
 have h2:=WS s (s.length - 1) 32
 simp only[show ((32:UInt8).toNat:Int)=32 from rfl] at h1 h2
 rw[h1,h2]
def bK (s:List UInt8):Bool:=s.all (fun c=>nX c.toNat) && !(s == []) && decide ((s.length:Int)≤256) && endsB s
theorem U_ (s:List UInt8)(h:s≠[]):(Lib.trimB s 32 == s)=endsB s:=by
 have hp:0<s.length:=List.length_pos_iff.2 h
 rw[Bool.eq_iff_iff]
 simp only[beq_iff_eq,aay,Bool.and_eq_true,Bool.not_eq_true',beq_eq_false_iff_ne]
 constructor
 ·intro e
  have hl1:(Lib.trimRightB s 32).length≤s.length:=by
   unfold Lib.trimRightB
   simpa using (List.dropWhile_sublist (· == (32:UInt8)) (l:=s.reverse)).length_le
  have hl2:(Lib.trimB s 32).length≤(Lib.trimRightB s 32).length:=(List.dropWhile_sublist _).length_le
  rw[e] at hl2
  have hr:s.reverse.dropWhile (· == 32)=s.reverse:=(List.dropWhile_sublist _).eq_of_length (by
   have:(Lib.trimRightB s 32).length=(s.reverse.dropWhile (· == 32)).length:=by simp[Lib.trimRightB]
   simp only[List.length_reverse];omega)
  have hr':Lib.trimRightB s 32=s:=by rw[Lib.trimRightB,hr,List.reverse_reverse]
  have hd:s.dropWhile (· == 32)=s:=by have:=e;rw[Lib.trimB,hr',Lib.trimLeftB] at this;exact this
  constructor
  ·intro h0
   cases s with
   |nil=>cases h0
   |cons a t=>
    simp only[List.getElem?_cons_zero,Option.some.injEq] at h0
    subst h0
    simp only[List.dropWhile_cons,beq_self_eq_true,if_true] at hd
    have:=(List.dropWhile_sublist (· == (32:UInt8)) (l:=t)).length_le
    rw[hd] at this
    simp at this
    omega
  ·intro h0
   have h1:s.reverse[0]?=some 32:=by rw[List.getElem?_reverse hp];simpa using h0
   generalize s.reverse=r at *
   cases r with
   |nil=>cases h1
   |cons a t=>
    simp only[List.getElem?_cons_zero,Option.some.injEq] at h1
    subst h1
    simp only[List.dropWhile_cons,beq_self_eq_true,if_true] at hr
    have:=(List.dropWhile_sublist (· == (32:UInt8)) (l:=t)).length_le
    rw[hr] at this
    simp at this
    omega
 ·rintro ⟨h0,h1⟩
  have hr:Lib.trimRightB s 32=s.take s.length:=Lib.trimRightB_take s 32 s.length (Nat.le_refl _) (fun j b hj hb=>by
   have:=(List.getElem?_eq_some_iff.1 hb).1;omega) (fun b _ hb e=>h1 (by rw[hb,e]))
  rw[List.take_length] at hr
  rw[Lib.trimB,hr,Lib.trimLeftB_drop s 32 0 (Nat.zero_le _) (fun j b hj=>by omega) (fun b hb e=>h0 (by rw[hb,e]))]
  rfl
theorem aiY (s:ByteArray){k:Nat}(h:k<s.size):s.get! k=s.data.toList[k]'h:=by
 show s.data[k]! = _
 rw[getElem!_pos s.data k h]
 rfl
theorem Yu (s:List UInt8)(k:Nat)(hk:k≤s.length):s.length≤k∨(k<s.length∧126<(iy s k).1∧(s.drop k).all (fun c=>nX c.toNat)=false)∨
  (∃h:k<s.length,(iy s k).1=s[k].toNat∧(iy s k).2=1∧(s.drop k).all (fun c=>nX c.toNat)=(nX s[k].toNat && (s.drop (k+1)).all (fun c=>nX c.toNat))):=by
 by_cases h:k<s.length
 ·right
  have e:iy s k=Lib.decodeN ((⟨s.toArray⟩:ByteArray).size - k) ((⟨s.toArray⟩:ByteArray).get! k).toNat ((⟨s.toArray⟩:ByteArray).get! (k+1)).toNat ((⟨s.toArray⟩:ByteArray).get! (k+2)).toNat ((⟨s.toArray⟩:ByteArray).get! (k+3)).toNat:=Lib.decode_at _ _
  have hb:(⟨s.toArray⟩:ByteArray).get! k=s[k]:=aiY ⟨s.toArray⟩ h
  rw[hb] at e
  have hd:(s.drop k).all (fun c=>nX c.toNat)=(nX s[k].toNat && (s.drop (k+1)).all (fun c=>nX c.toNat)):=by rw[dI h,List.all_cons]
  by_cases h8:s[k].toNat<128
  ·right
   refine⟨h,?_,?_,hd⟩ <;> (rw[e];unfold Lib.decodeN;rw[if_pos h8])
  ·left
   refine⟨h,?_,?_⟩
   ·rw[e];unfold Lib.decodeN;rw[if_neg h8]
    repeat' split
    all_goals (first|omega|(simp only[];omega))
   ·rw[hd]
    have:nX s[k].toNat=false:=by simp[nX];omega
    rw[this];rfl
 ·left;omega
def fA (n:Int):Bool:=decide (n≥33) && decide (n≤126) && !(n == 37) && !(n == 124) && !(n == 44) && !(n == 61) && !(n == 59) && !(n == 34)
theorem aaz (n:Int)(h0:33≤n)(h1:n≤126):decide (Lib.indexByte [37,124,44,61,59,34] n.toNat.toUInt8<0)=(!(n == 37) && !(n == 124) && !(n == 44) && !(n == 61) && !(n == 59) && !(n == 34)):=by
 obtain⟨m,rfl⟩:∃m:Nat,n=m:=⟨n.toNat,by omega⟩
 have hm:m<127:=by omega
 clear h0 h1
 revert m
 decide +kernel
end Go.Proofs
