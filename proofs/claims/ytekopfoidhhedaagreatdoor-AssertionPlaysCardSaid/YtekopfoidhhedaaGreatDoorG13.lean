import Derived.Test.YtekopfoidhhedaaGreatDoorG09
import Derived.Lib.LaidTab
import Derived.Lib.ItoaNum
import Derived.Test.YtekopfoidhhedaaGreatDoorProg
import Derived.Test.YtekopfoidhhedaaGreatDoorG08
import Derived.Test.YtekopfoidhhedaaGreatDoorG11
set_option linter.unusedVariables false
set_option linter.unusedSimpArgs false
set_option linter.unnecessarySimpa false
namespace Go.Proofs
open Go Go.Id
def adU:List Int:=[48,49,50,51,52,53,54,55,56,57,97,98,99,100,101,102]
def adX (w:World):Prop:=
 (∃m,w.cell? ⟨1,0,none⟩=some (.int .i64 m))∧Lib.TabIs Tryz.prog w "internal/strconv.uint64pow10" .u64 Lib.pow10Tab∧(∃tp p,w.cell? ⟨5,0,none⟩=some (.iface tp p))∧(∃tp p,w.cell? ⟨6,0,none⟩=some (.iface tp p))∧Lib.TabIs Tryz.prog w "identity/digest.digits" .u8 adU
theorem KP:Tryz.prog.globalNamed "internal/strconv.uint64pow10" = some 2:=by kernel_rfl
theorem xY:Tryz.prog.globalNamed "identity/digest.digits" = some 0:=by kernel_rfl
theorem Vd (w w':World)(h:adX w)(hk:∀k,k<8→w'.heap[k]?=w.heap[k]?):adX w':=by
 have hc:∀k,k<8→w'.cell? ⟨k,0,none⟩=w.cell? ⟨k,0,none⟩:=fun k h=>World.cell?_of_block (w:=w) (w':=w') (by simpa using hk k h)
 obtain⟨h1,h2,h3,h4,h5⟩:=h
 refine⟨by rw[hc 1 (by omega)];exact h1,?_,by rw[hc 5 (by omega)];exact h3,by rw[hc 6 (by omega)];exact h4,?_⟩
 ·unfold Lib.TabIs World.var? at h2 ⊢
  rw[KP] at h2 ⊢
  simp only[adf] at h2 ⊢
  rw[hk 2 (by omega)];exact h2
 ·unfold Lib.TabIs World.var? at h5 ⊢
  rw[xY] at h5 ⊢
  simp only[adf] at h5 ⊢
  rw[hk 0 (by omega)];exact h5
def JF:List D:=adU.map (.int .u8)
def adY (g:Nat):Option (List D):=if g=0 then some JF else none
theorem adZ (w:World)(h:adX w)(g:Nat)(cs:List D)(hg:adY g=some cs):g<8∧∃vs:List Value,vs.length=cs.length∧(∀(j:Nat) (v:Value),vs[j]?=some v→w.cell? ⟨g,j,none⟩=some v∧v.oneCell'=true)∧∀(j:Nat) (d:D) (v:Value),cs[j]?=some d→vs[j]?=some v→∀(M:Nat→Nat→Prop) (γ:Nat→Option G),Rep M γ w d v:=by
 unfold adY at hg
 split at hg
 rotate_left
 ·cases hg
 rename_i e
 subst e
 cases hg
 refine⟨by omega,adU.map (.int .u8),by simp[JF],fun j v hv=>⟨?_,?_⟩,fun j d v hd hv M γ=>?_⟩
 ·have h5:=h.2.2.2.2
  unfold Lib.TabIs at h5
  have hj:((adU.map fun z=>Value.int .u8 z).toArray)[j]?=some v:=by simpa using hv
  have:=World.var?_cell xY h5 j
  rw[this];exact hj
 ·rw[adw] at hv
  obtain⟨z,_,rfl⟩:=abR.1 hv
  rfl
 ·rw[JF,adw] at hd
  rw[adw] at hv
  obtain⟨z,hz,rfl⟩:=abR.1 hv
  rw[hz] at hd
  cases hd
  exact .int _ _
def apk (_:TypeId)(n:Nat)(ps:Array (Nat × Operand)):Bool:=n == 0 || (n == 1 && match ps.toList with| [(_,.tmp i)]=>i == 58 || i == 76 | _=>false)
noncomputable def Pr:dF:=⟨Tryz.prog,8,adX,Vd,apk,adY,adZ⟩
theorem ak:Pr.prog=Tryz.prog∧(∀t ps,Pr.lit t 0 ps=true)∧(∀t i,Pr.lit t 1 #[(0,.tmp i)]=(i == 58 || i == 76))∧(∀t c,Pr.lit t 1 #[(0,.const c)]=false)∧(∀t ps,Pr.lit t 2 ps=false)∧(∀t ps,Pr.lit t 3 ps=false)∧(∀t ps,Pr.lit t 4 ps=false)∧(∀t ps,Pr.lit t 5 ps=false)∧(∀t ps,Pr.lit t 6 ps=false)∧Pr.glob 0=some JF:=
 ⟨rfl,fun _ _=>rfl,fun _ _=>rfl,fun _ _=>rfl,fun _ _=>rfl,fun _ _=>rfl,fun _ _=>rfl,fun _ _=>rfl,fun _ _=>rfl,rfl⟩
theorem dH {k:FuncId}{fn:Func}(h:Tryz.prog.funcs[k]?=some fn)(hn:(fn.name == "runtime.NumGoroutine")=false)(hb:fn.body.isNone=false):oJ Pr.prog k:=⟨fn,h,hn,hb⟩
set_option maxRecDepth 10000
theorem Ve:uP Tryz.prog 24=some 9:=by kernel_rfl
theorem P6:j_ Tryz.prog 24=some true:=by kernel_rfl
theorem qW:isStr Tryz.prog 9=true:=by kernel_rfl
theorem C9:gI Tryz.prog 9=false:=by kernel_rfl
theorem KQ:iC Tryz.prog 24=some [.str [],.str [],.str [],.str [],.str [],.int .i64 0,.int .i64 0,.int .i64 0,.slice 0 true [] none]:=by kernel_rfl
theorem Vf:sV Tryz.prog 41=2:=by kernel_rfl
theorem Vg:sV Tryz.prog 47=2:=by kernel_rfl
theorem KR:isStr Tryz.prog 39=false:=by kernel_rfl
theorem A8:gI Tryz.prog 39=true:=by kernel_rfl
theorem KT:cu Tryz.prog 39=some (59,16,216):=by kernel_rfl
theorem Vh:uP Tryz.prog 59=some 16:=by kernel_rfl
theorem P7:j_ Tryz.prog 59=some true:=by kernel_rfl
theorem Hf:eu Tryz.prog 59 2=some (2,1):=by kernel_rfl
theorem o8:uP Tryz.prog 3=some 1:=by kernel_rfl
theorem lW:j_ Tryz.prog 3=some false:=by kernel_rfl
theorem Hg:eu Tryz.prog 24 8=some (8,1):=by kernel_rfl
theorem Vj:uP Tryz.prog 22=some 1:=by kernel_rfl
theorem P8:j_ Tryz.prog 22=some false:=by kernel_rfl
theorem Hl:eu Tryz.prog 59 0=some (0,1):=by kernel_rfl
theorem Ho:eu Tryz.prog 24 1=some (1,1):=by kernel_rfl
theorem qK:uP Tryz.prog 9=some 1:=by kernel_rfl
theorem nT:j_ Tryz.prog 9=some false:=by kernel_rfl
theorem Hq:eu Tryz.prog 24 2=some (2,1):=by kernel_rfl
theorem Hr:eu Tryz.prog 24 5=some (5,1):=by kernel_rfl
theorem Ht:eu Tryz.prog 24 6=some (6,1):=by kernel_rfl
theorem KU:isStr Tryz.prog 62=false:=by kernel_rfl
theorem A_:gI Tryz.prog 62=true:=by kernel_rfl
theorem Hu:eu Tryz.prog 24 4=some (4,1):=by kernel_rfl
theorem ZL:sV Tryz.prog 4=5:=by kernel_rfl
theorem Hw:eu Tryz.prog 24 7=some (7,1):=by kernel_rfl
theorem Hy:eu Tryz.prog 24 0=some (0,1):=by kernel_rfl
theorem Hz:eu Tryz.prog 24 3=some (3,1):=by kernel_rfl
theorem KW:isStr Tryz.prog 22=false:=by kernel_rfl
theorem Ba:gI Tryz.prog 22=true:=by kernel_rfl
theorem BL:cu Tryz.prog 22=some (75,2,40):=by kernel_rfl
theorem HY:eu Tryz.prog 75 0=some (0,1):=by kernel_rfl
theorem H6:eu Tryz.prog 75 1=some (1,1):=by kernel_rfl
theorem Vk:uP Tryz.prog 62=some 1:=by kernel_rfl
theorem P9:j_ Tryz.prog 62=some false:=by kernel_rfl
theorem wL:cu Tryz.prog 62=some (9,1,16):=by kernel_rfl
theorem wM:iK Tryz.prog 9=true:=by kernel_rfl
theorem KX:iC Tryz.prog 27=some [.int .i64 0]:=by kernel_rfl
theorem Bc:eY Tryz.prog 24=true:=by kernel_rfl
theorem Vl:uP Tryz.prog 27=some 1:=by kernel_rfl
theorem KY:iC Tryz.prog 88=some [.slice 0 true [] none]:=by kernel_rfl
theorem Bd:eY Tryz.prog 88=true:=by kernel_rfl
theorem H7:eu Tryz.prog 88 0=some (0,1):=by kernel_rfl
theorem KZ:iC Tryz.prog 75=some [.str [],.slice 0 true [] none]:=by kernel_rfl
theorem Bf:eY Tryz.prog 75=true:=by kernel_rfl
theorem xZ:iK Tryz.prog 75=true:=by kernel_rfl
theorem K_:isStr Tryz.prog 35=false:=by kernel_rfl
theorem Bg:gI Tryz.prog 35=true:=by kernel_rfl
theorem La:cu Tryz.prog 35=some (99,6,64):=by kernel_rfl
theorem tK:eu Tryz.prog 99 0=some (0,1):=by kernel_rfl
theorem tN:eu Tryz.prog 99 1=some (1,1):=by kernel_rfl
theorem H8:eu Tryz.prog 59 3=some (3,1):=by kernel_rfl
theorem H9:eu Tryz.prog 59 4=some (4,1):=by kernel_rfl
theorem H_:eu Tryz.prog 59 6=some (14,1):=by kernel_rfl
theorem Ia:eu Tryz.prog 59 7=some (15,1):=by kernel_rfl
theorem Ib:eu Tryz.prog 59 5=some (5,9):=by kernel_rfl
theorem Lc:mapD Tryz.prog 105=some 121:=by kernel_rfl
theorem Ic:iC Tryz.prog 107=some [.str [],.int .i64 0,.bI,.aV]:=by kernel_rfl
theorem x9:eY Tryz.prog 107=true:=by kernel_rfl
theorem C_:eu Tryz.prog 107 0=some (0,1):=by kernel_rfl
theorem Dc:eu Tryz.prog 107 1=some (1,1):=by kernel_rfl
theorem Df:eu Tryz.prog 107 2=some (2,1):=by kernel_rfl
theorem Dh:eu Tryz.prog 107 3=some (3,1):=by kernel_rfl
theorem Ie:iC Tryz.prog 114=some [.bool false,.str [],.int .i64 0,.slice 0 true [] none,.aV]:=by kernel_rfl
theorem yc:eY Tryz.prog 114=true:=by kernel_rfl
theorem Di:eu Tryz.prog 114 0=some (0,1):=by kernel_rfl
theorem Dj:eu Tryz.prog 114 1=some (1,1):=by kernel_rfl
theorem Dk:eu Tryz.prog 114 2=some (2,1):=by kernel_rfl
theorem Dl:eu Tryz.prog 114 4=some (4,1):=by kernel_rfl
theorem Ig:iC Tryz.prog 117=some [.slice 0 true [] none]:=by kernel_rfl
theorem yg:eY Tryz.prog 117=true:=by kernel_rfl
theorem uT:uP Tryz.prog 55=some 5:=by kernel_rfl
theorem uU:j_ Tryz.prog 55=some true:=by kernel_rfl
theorem lq:eu Tryz.prog 55 3=some (3,2):=by kernel_rfl
theorem jX:eu Tryz.prog 53 1=some (1,1):=by kernel_rfl
theorem pV:eu Tryz.prog 55 0=some (0,1):=by kernel_rfl
theorem Dn:eu Tryz.prog 117 0=some (0,1):=by kernel_rfl
theorem P_:uP Tryz.prog 115=some 1:=by kernel_rfl
theorem Ld:j_ Tryz.prog 115=some false:=by kernel_rfl
theorem Ih:isStr Tryz.prog 115=false:=by kernel_rfl
theorem yh:gI Tryz.prog 115=true:=by kernel_rfl
theorem Ii:iK Tryz.prog 99=true:=by kernel_rfl
theorem m_:eu Tryz.prog 55 2=some (2,1):=by kernel_rfl
theorem uV:uP Tryz.prog 35=some 1:=by kernel_rfl
theorem uX:j_ Tryz.prog 35=some false:=by kernel_rfl
theorem Ij:cu Tryz.prog 115=some (55,5,72):=by kernel_rfl
theorem Ik:iK Tryz.prog 55=true:=by kernel_rfl
theorem Lh:iC Tryz.prog 55=some [.str [],.str [],.slice 0 true [] none,.int .i64 0,.int .i64 0]:=by kernel_rfl
theorem Lj:iC Tryz.prog 53=some [.int .i64 0,.int .i64 0]:=by kernel_rfl
theorem Bh:eY Tryz.prog 53=true:=by kernel_rfl
theorem ng:eu Tryz.prog 53 0=some (0,1):=by kernel_rfl
theorem Bj:eY Tryz.prog 55=true:=by kernel_rfl
theorem tV:eu Tryz.prog 55 1=some (1,1):=by kernel_rfl
theorem Il:eu Tryz.prog 59 1=some (1,1):=by kernel_rfl
theorem Qa:uP Tryz.prog 105=some 1:=by kernel_rfl
theorem Ll:j_ Tryz.prog 105=some false:=by kernel_rfl
theorem Ip:isStr Tryz.prog 105=false:=by kernel_rfl
theorem Iq:iC Tryz.prog 121=some [.str [],.int .i64 0]:=by kernel_rfl
theorem Qb:uP Tryz.prog 121=some 2:=by kernel_rfl
theorem Dp:eu Tryz.prog 121 1=some (1,1):=by kernel_rfl
theorem Ir:isStr Tryz.prog 112=false:=by kernel_rfl
theorem yj:gI Tryz.prog 112=true:=by kernel_rfl
theorem Iu:cu Tryz.prog 112=some (126,3,40):=by kernel_rfl
theorem Dq:eu Tryz.prog 126 0=some (0,1):=by kernel_rfl
theorem Vm:uP Tryz.prog 75=some 2:=by kernel_rfl
theorem Qc:j_ Tryz.prog 75=some true:=by kernel_rfl
theorem wO:iC Tryz.prog 99=some [.str [],.str [],.int .i64 0,.int .i64 0,.int .i64 0,.int .i64 0]:=by kernel_rfl
theorem Bl:eY Tryz.prog 99=true:=by kernel_rfl
theorem Iw:eu Tryz.prog 99 2=some (2,2):=by kernel_rfl
theorem Iy:eu Tryz.prog 99 3=some (4,2):=by kernel_rfl
theorem yu:eY Tryz.prog 121=true:=by kernel_rfl
theorem Dt:eu Tryz.prog 121 0=some (0,1):=by kernel_rfl
theorem uY:uP Tryz.prog 99=some 6:=by kernel_rfl
theorem Iz:zeroV Tryz.prog 121=some (.agg [.str [],.int .i64 0]):=by kernel_rfl
theorem Qd:uP Tryz.prog 102=some 1:=by kernel_rfl
theorem Lm:j_ Tryz.prog 102=some false:=by kernel_rfl
theorem BM:mapD Tryz.prog 136=some 55:=by kernel_rfl
theorem IB:iC Tryz.prog 138=some [.bI]:=by kernel_rfl
theorem yw:eY Tryz.prog 138=true:=by kernel_rfl
theorem wP:eu Tryz.prog 138 0=some (0,1):=by kernel_rfl
theorem FD:uP Tryz.prog 136=some 1:=by kernel_rfl
theorem BN:j_ Tryz.prog 136=some false:=by kernel_rfl
theorem Lp:zeroV Tryz.prog 55=some (.agg [.str [],.str [],.slice 0 true [] none,.int .i64 0,.int .i64 0]):=by kernel_rfl
theorem IC:isStr Tryz.prog 136=false:=by kernel_rfl
theorem yx:gI Tryz.prog 136=false:=by kernel_rfl
theorem IE:iC Tryz.prog 144=some [.aV,.slice 0 true [] none]:=by kernel_rfl
theorem pW:cu Tryz.prog 142=some (5,1,1):=by kernel_rfl
theorem Lr:iK Tryz.prog 5=true:=by kernel_rfl
theorem IG:kS Tryz.prog 142=none:=by kernel_rfl
theorem Qe:kS Tryz.prog 9=none:=by kernel_rfl
theorem II:isStr Tryz.prog 142=false:=by kernel_rfl
theorem uZ:kS Tryz.prog 5=some .u8:=by kernel_rfl
theorem Qg:kS Tryz.prog 3=some .i64:=by kernel_rfl
theorem Qh:isStr Tryz.prog 3=false:=by kernel_rfl
theorem Qi:isStr Tryz.prog 5=false:=by kernel_rfl
theorem Vo:sV Tryz.prog 20=4:=by kernel_rfl
theorem Ls:GR Tryz.prog 83=true:=by kernel_rfl
theorem Lu:iC Tryz.prog 83=some []:=by kernel_rfl
theorem Vp:uP Tryz.prog 83=some 0:=by kernel_rfl
theorem Bo:eY Tryz.prog 83=true:=by kernel_rfl
theorem IJ:cu Tryz.prog 161=some (3,1,8):=by kernel_rfl
theorem LC:iK Tryz.prog 3=true:=by kernel_rfl
theorem LD:kS Tryz.prog 21=some .i32:=by kernel_rfl
theorem LG:isStr Tryz.prog 21=false:=by kernel_rfl
theorem zT:j_ Tryz.prog 99=some true:=by kernel_rfl
theorem LH:mapD Tryz.prog 169=some 3:=by kernel_rfl
theorem IK:iC Tryz.prog 171=some [.bI,.int .i64 0]:=by kernel_rfl
theorem yA:eY Tryz.prog 171=true:=by kernel_rfl
theorem Du:eu Tryz.prog 171 0=some (0,1):=by kernel_rfl
theorem Dv:eu Tryz.prog 171 1=some (1,1):=by kernel_rfl
theorem IL:iC Tryz.prog 174=some [.int .i64 0,.slice 0 true [] none]:=by kernel_rfl
theorem yB:eY Tryz.prog 174=true:=by kernel_rfl
theorem Dw:eu Tryz.prog 174 0=some (0,1):=by kernel_rfl
theorem yC:uP Tryz.prog 53=some 2:=by kernel_rfl
theorem u_:j_ Tryz.prog 53=some true:=by kernel_rfl
theorem IQ:iC Tryz.prog 126=some [.str [],.str [],.int .i64 0]:=by kernel_rfl
theorem yD:eY Tryz.prog 126=true:=by kernel_rfl
theorem Dx:eu Tryz.prog 126 1=some (1,1):=by kernel_rfl
theorem Dy:eu Tryz.prog 126 2=some (2,1):=by kernel_rfl
theorem Dz:iK Tryz.prog 126=true:=by kernel_rfl
theorem DC:eu Tryz.prog 114 3=some (3,1):=by kernel_rfl
theorem Qj:uP Tryz.prog 112=some 1:=by kernel_rfl
theorem LJ:j_ Tryz.prog 112=some false:=by kernel_rfl
theorem Qk:uP Tryz.prog 109=some 1:=by kernel_rfl
theorem LK:j_ Tryz.prog 109=some false:=by kernel_rfl
theorem FH:sV Tryz.prog 105=6:=by kernel_rfl
theorem IU:kS Tryz.prog 182=some .u64:=by kernel_rfl
theorem IV:isStr Tryz.prog 182=false:=by kernel_rfl
theorem Vq:sV Tryz.prog 44=2:=by kernel_rfl
theorem ZM:uP Tryz.prog 4=some 1:=by kernel_rfl
theorem Vr:j_ Tryz.prog 4=some false:=by kernel_rfl
theorem Ql:uP Tryz.prog 126=some 3:=by kernel_rfl
theorem LM:j_ Tryz.prog 126=some true:=by kernel_rfl
theorem Qm:uP Tryz.prog 169=some 1:=by kernel_rfl
theorem LP:j_ Tryz.prog 169=some false:=by kernel_rfl
theorem Qn:zeroV Tryz.prog 3=some (.int .i64 0):=by kernel_rfl
theorem FI:sV Tryz.prog 136=6:=by kernel_rfl
theorem DF:eu Tryz.prog 144 1=some (1,1):=by kernel_rfl
theorem Qo:uP Tryz.prog 142=some 1:=by kernel_rfl
theorem LQ:j_ Tryz.prog 142=some false:=by kernel_rfl
theorem DI:byteElem Tryz.prog 5=true:=by kernel_rfl
theorem zU:iC Tryz.prog 9=some [.str []]:=by kernel_rfl
theorem yE:gI Tryz.prog 142=true:=by kernel_rfl
theorem Qp:sV Tryz.prog 146=4:=by kernel_rfl
theorem S9:uP Tryz.prog 5=some 1:=by kernel_rfl
theorem LU:j_ Tryz.prog 5=some false:=by kernel_rfl
theorem IW:EU Tryz.prog 99=some [.s,.s,.i,.i,.i,.i]:=by kernel_rfl
theorem Qq:sV Tryz.prog 109=2:=by kernel_rfl
theorem DJ:eu Tryz.prog 174 1=some (1,1):=by kernel_rfl
theorem Qr:uP Tryz.prog 172=some 1:=by kernel_rfl
theorem LV:j_ Tryz.prog 172=some false:=by kernel_rfl
theorem IX:cu Tryz.prog 172=some (213,2,24):=by kernel_rfl
theorem DK:eu Tryz.prog 213 1=some (1,1):=by kernel_rfl
theorem IY:isStr Tryz.prog 172=false:=by kernel_rfl
theorem yF:gI Tryz.prog 172=true:=by kernel_rfl
theorem IZ:iC Tryz.prog 213=some [.str [],.int .i64 0]:=by kernel_rfl
theorem yG:eY Tryz.prog 213=true:=by kernel_rfl
theorem DL:eu Tryz.prog 213 0=some (0,1):=by kernel_rfl
theorem DN:iK Tryz.prog 213=true:=by kernel_rfl
theorem I4:kS Tryz.prog 223=some .u32:=by kernel_rfl
theorem I5:isStr Tryz.prog 223=false:=by kernel_rfl
theorem yH:iC Tryz.prog 226=some [.int .u8 0,.int .u8 0,.int .u8 0,.int .u8 0,.int .u8 0,.int .u8 0,.int .u8 0,.int .u8 0,.int .u8 0,.int .u8 0,.int .u8 0,.int .u8 0,.int .u8 0,.int .u8 0,.int .u8 0,.int .u8 0]:=by kernel_rfl
theorem wQ:OJ Tryz.prog 226=some (16,1):=by kernel_rfl
theorem I7:isStr Tryz.prog 226=false:=by kernel_rfl
theorem I8:kS Tryz.prog 184=some .u64:=by kernel_rfl
theorem I9:isStr Tryz.prog 184=false:=by kernel_rfl
theorem Qs:uP Tryz.prog 226=some 16:=by kernel_rfl
theorem LW:j_ Tryz.prog 226=some true:=by kernel_rfl
theorem LX:adi Tryz.prog 226=some 16:=by kernel_rfl
theorem Qu:sV Tryz.prog 102=2:=by kernel_rfl
theorem FK:sV Tryz.prog 169=6:=by kernel_rfl
theorem I_:isStr Tryz.prog 169=false:=by kernel_rfl
theorem yI:gI Tryz.prog 169=false:=by kernel_rfl
theorem Vs:sV Tryz.prog 35=1:=by kernel_rfl
theorem DR:eu Tryz.prog 144 0=some (0,1):=by kernel_rfl
theorem Qv:uP Tryz.prog 141=some 1:=by kernel_rfl
theorem LY:j_ Tryz.prog 141=some false:=by kernel_rfl
theorem Qw:sV Tryz.prog 141=2:=by kernel_rfl
theorem Ja:kS Tryz.prog 141=none:=by kernel_rfl
theorem Jb:kS Tryz.prog 229=none:=by kernel_rfl
theorem Jc:isStr Tryz.prog 141=false:=by kernel_rfl
theorem Jd:isStr Tryz.prog 229=false:=by kernel_rfl
theorem Qx:uP Tryz.prog 213=some 2:=by kernel_rfl
theorem LZ:j_ Tryz.prog 213=some true:=by kernel_rfl
theorem Je:kS Tryz.prog 237=some .u64:=by kernel_rfl
theorem Jf:isStr Tryz.prog 237=false:=by kernel_rfl
theorem Jg:iC Tryz.prog 237=some [.int .u64 0]:=by kernel_rfl
theorem Qy:uP Tryz.prog 237=some 1:=by kernel_rfl
theorem Qz:iC Tryz.prog 3=some [.int .i64 0]:=by kernel_rfl
theorem QA:GR Tryz.prog 9=true:=by kernel_rfl
theorem L9:j_ Tryz.prog 237=some false:=by kernel_rfl
theorem Jh:isStr Tryz.prog 161=false:=by kernel_rfl
theorem yJ:gI Tryz.prog 161=true:=by kernel_rfl
theorem L_:OJ Tryz.prog 292=some (32,1):=by kernel_rfl
theorem Mc:OJ Tryz.prog 293=some (64,1):=by kernel_rfl
set_option maxRecDepth 20000
theorem EV:(∀(α:Type) (a b:List α),List.append a b=a++b)∧(∀(α:Type) (x:α) (a b:List α),(x::a)++b=x::(a++b))∧(∀(α:Type) (a:List α),[]++a=a)∧(∀(α:Type) [BEq α] [LawfulBEq α] (a:α),(a != a)=false)∧(∀(α:Type) [BEq α] [ReflBEq α] (a:α),(a == a)=true)∧((!true)=false)∧((!false)=true):=
 ⟨fun _ _ _=>rfl,fun _ _ _ _=>rfl,fun _ _=>rfl,fun _ _ _ a=>bne_self_eq_false a,fun _ _ _ a=>beq_self_eq_true a,rfl,rfl⟩
theorem FV:type_of% (@List.append_eq.{0})∧type_of% (@abS.{0})∧type_of% (@abT.{0})∧type_of% (@aoC)∧type_of% (@apa)∧type_of% (@Option.isSome_none.{0})∧type_of% (@Option.isSome_some.{0})∧type_of% (@Option.getD_none.{0})∧type_of% (@alb.{0})∧type_of% (@akn.{0,0})∧type_of% (@aiD.{0,0})∧type_of% (@ahL.{0})∧type_of% (@ajE.{0})∧type_of% (@anx.{0})∧type_of% (@aoY.{0})∧type_of% (@List.isEmpty_cons.{0})∧type_of% (@Bool.and_false)∧type_of% (@akD)∧type_of% (@alB.{0})∧type_of% (@amG.{0})∧type_of% (@Int.natCast_nonneg)∧type_of% (@Int.toNat_natCast)∧type_of% (@amQ)∧type_of% (@PY):=⟨@List.append_eq.{0},@abS.{0},@abT.{0},@aoC,@apa,@Option.isSome_none.{0},@Option.isSome_some.{0},@Option.getD_none.{0},@alb.{0},@akn.{0,0},@aiD.{0,0},@ahL.{0},@ajE.{0},@anx.{0},@aoY.{0},@List.isEmpty_cons.{0},@Bool.and_false,@akD,@alB.{0},@amG.{0},@Int.natCast_nonneg,@Int.toNat_natCast,@amQ,@PY⟩
theorem TF:type_of% EV∧type_of% FV∧type_of% W∧type_of% ak∧type_of% Ve∧type_of% P6∧type_of% qW∧type_of% C9∧type_of% KQ∧type_of% Vf∧type_of% Vg∧type_of% KR∧type_of% A8∧type_of% KT∧type_of% Vh∧type_of% P7∧type_of% Hf∧type_of% o8∧type_of% lW∧type_of% Hg∧type_of% Vj∧type_of% P8∧type_of% Hl∧type_of% Ho∧type_of% qK∧type_of% nT∧type_of% Hq∧type_of% Hr∧type_of% Ht∧type_of% KU∧type_of% A_∧type_of% Hu∧type_of% ZL∧type_of% Hw∧type_of% Hy∧type_of% Hz∧type_of% KW∧type_of% Ba∧type_of% BL∧type_of% HY∧type_of% H6∧type_of% Vk∧type_of% P9∧type_of% wL∧type_of% wM∧type_of% KX∧type_of% Bc∧type_of% Vl∧type_of% KY∧type_of% Bd∧type_of% H7∧type_of% KZ∧type_of% Bf∧type_of% xZ∧type_of% K_∧type_of% Bg∧type_of% La∧type_of% tK∧type_of% tN∧type_of% H8∧type_of% H9∧type_of% H_∧type_of% Ia∧type_of% Ib∧type_of% Lc∧type_of% Ic∧type_of% x9∧type_of% C_∧type_of% Dc∧type_of% Df∧type_of% Dh∧type_of% Ie∧type_of% yc∧type_of% Di∧type_of% Dj∧type_of% Dk∧type_of% Dl∧type_of% Ig∧type_of% yg∧type_of% uT∧type_of% uU∧type_of% lq∧type_of% jX∧type_of% pV∧type_of% Dn∧type_of% P_∧type_of% Ld∧type_of% Ih∧type_of% yh∧type_of% Ii∧type_of% m_∧type_of% uV∧type_of% uX∧type_of% Ij∧type_of% Ik∧type_of% Lh∧type_of% Lj∧type_of% Bh∧type_of% ng∧type_of% Bj∧type_of% tV∧type_of% Il∧type_of% Qa∧type_of% Ll∧type_of% Ip∧type_of% Iq∧type_of% Qb∧type_of% Dp∧type_of% Ir∧type_of% yj∧type_of% Iu∧type_of% Dq∧type_of% Vm∧type_of% Qc∧type_of% wO∧type_of% Bl∧type_of% Iw∧type_of% Iy∧type_of% yu∧type_of% Dt∧type_of% uY∧type_of% Iz∧type_of% Qd∧type_of% Lm∧type_of% BM∧type_of% IB∧type_of% yw∧type_of% wP∧type_of% FD∧type_of% BN∧type_of% Lp∧type_of% IC∧type_of% yx∧type_of% IE∧type_of% pW∧type_of% Lr∧type_of% IG∧type_of% Qe∧type_of% II∧type_of% uZ∧type_of% Qg∧type_of% Qh∧type_of% Qi∧type_of% Vo∧type_of% Ls∧type_of% Lu∧type_of% Vp∧type_of% Bo∧type_of% IJ∧type_of% LC∧type_of% LD∧type_of% LG∧type_of% zT∧type_of% LH∧type_of% IK∧type_of% yA∧type_of% Du∧type_of% Dv∧type_of% IL∧type_of% yB∧type_of% Dw∧type_of% yC∧type_of% u_∧type_of% IQ∧type_of% yD∧type_of% Dx∧type_of% Dy∧type_of% Dz∧type_of% DC∧type_of% Qj∧type_of% LJ∧type_of% Qk∧type_of% LK∧type_of% FH∧type_of% IU∧type_of% IV∧type_of% Vq∧type_of% ZM∧type_of% Vr∧type_of% Ql∧type_of% LM∧type_of% Qm∧type_of% LP∧type_of% Qn∧type_of% FI∧type_of% DF∧type_of% Qo∧type_of% LQ∧type_of% DI∧type_of% zU∧type_of% yE∧type_of% Qp∧type_of% S9∧type_of% LU∧type_of% IW∧type_of% Qq∧type_of% DJ∧type_of% Qr∧type_of% LV∧type_of% IX∧type_of% DK∧type_of% IY∧type_of% yF∧type_of% IZ∧type_of% yG∧type_of% DL∧type_of% DN∧type_of% I4∧type_of% I5∧type_of% yH∧type_of% wQ∧type_of% I7∧type_of% I8∧type_of% I9∧type_of% Qs∧type_of% LW∧type_of% LX∧type_of% Qu∧type_of% FK∧type_of% I_∧type_of% yI∧type_of% Vs∧type_of% DR∧type_of% Qv∧type_of% LY∧type_of% Qw∧type_of% Ja∧type_of% Jb∧type_of% Jc∧type_of% Jd∧type_of% Qx∧type_of% LZ∧type_of% Je∧type_of% Jf∧type_of% Jg∧type_of% Qy∧type_of% Qz∧type_of% QA∧type_of% L9∧type_of% Jh∧type_of% yJ∧type_of% L_∧type_of% Mc:=⟨EV,FV,W,ak,Ve,P6,qW,C9,KQ,Vf,Vg,KR,A8,KT,Vh,P7,Hf,o8,lW,Hg,Vj,P8,Hl,Ho,qK,nT,Hq,Hr,Ht,KU,A_,Hu,ZL,Hw,Hy,Hz,KW,Ba,BL,HY,H6,Vk,P9,wL,wM,KX,Bc,Vl,KY,Bd,H7,KZ,Bf,xZ,K_,Bg,La,tK,tN,H8,H9,H_,Ia,Ib,Lc,Ic,x9,C_,Dc,Df,Dh,Ie,yc,Di,Dj,Dk,Dl,Ig,yg,uT,uU,lq,jX,pV,Dn,P_,Ld,Ih,yh,Ii,m_,uV,uX,Ij,Ik,Lh,Lj,Bh,ng,Bj,tV,Il,Qa,Ll,Ip,Iq,Qb,Dp,Ir,yj,Iu,Dq,Vm,Qc,wO,Bl,Iw,Iy,yu,Dt,uY,Iz,Qd,Lm,BM,IB,yw,wP,FD,BN,Lp,IC,yx,IE,pW,Lr,IG,Qe,II,uZ,Qg,Qh,Qi,Vo,Ls,Lu,Vp,Bo,IJ,LC,LD,LG,zT,LH,IK,yA,Du,Dv,IL,yB,Dw,yC,u_,IQ,yD,Dx,Dy,Dz,DC,Qj,LJ,Qk,LK,FH,IU,IV,Vq,ZM,Vr,Ql,LM,Qm,LP,Qn,FI,DF,Qo,LQ,DI,zU,yE,Qp,S9,LU,IW,Qq,DJ,Qr,LV,IX,DK,IY,yF,IZ,yG,DL,DN,I4,I5,yH,wQ,I7,I8,I9,Qs,LW,LX,Qu,FK,I_,yI,Vs,DR,Qv,LY,Qw,Ja,Jb,Jc,Jd,Qx,LZ,Je,Jf,Jg,Qy,Qz,QA,L9,Jh,yJ,L_,Mc⟩
end Go.Proofs
namespace Go.Id
open Go
def dO (n:Nat)(s:List Nat)(q p:Prop):Prop:=q→p
section
variable {P:dF} {ent:List Nat} {N:Nat} {Q:Exit→St→Prop} {st:St} {n:Nat} {s:List Nat} {q:Prop}
theorem dO.Z {p:Prop}:dO 0 s p p:=fun h=>h
theorem dO.S {id:Nat}{ops:Array Oper}{y:Code}(h:∀K:St→List bJ→Prop,(∀st' rs,dO n s q (WP P ent N y Q ⟨Go.Id.keep s st'.F,st'.σ⟩)→K st' rs)→ah P ops ops.toList st [] K)(hd:dD N ops=true):dO (n+1) s q (WP P ent N (.seq (.region id ops false) y) Q st):=
 fun k=>WP.sr s hd fun K z=>h K fun st' rs hh=>z st' rs (hh k)
theorem dO.R {id:Nat}{ops:Array Oper}(h:∀K:St→List bJ→Prop,(∀st' rs,dO n s q (Q .normal st')→K st' rs)→ah P ops ops.toList st [] K)(hd:dD N ops=true):dO (n+1) s q (WP P ent N (.region id ops false) Q st):=
 fun k=>WP.region hd fun K z=>h K fun st' rs hh=>z st' rs (hh k)
theorem dO.D {id:Nat}{ops:Array Oper}{y:Code}(h:∀K:St→List bJ→Prop,(∀st' rs,nR ops rs=true→dO n s q (WP P ent N y Q ⟨Go.Id.keep s st'.F,st'.σ⟩)→K st' rs)→ah P ops ops.toList st [] K)(hm:P.prog.follows .mixedOrders=true)(hd:dD N ops=true):dO (n+1) s q (WP P ent N (.seq (.region id ops true) y) Q st):=
 fun k=>WP.sd s hm hd fun K z=>h K fun st' rs hb hh=>z st' rs hb (hh k)
theorem dO.E {id:Nat}{ops:Array Oper}(h:∀K:St→List bJ→Prop,(∀st' rs,nR ops rs=true→dO n s q (Q .normal st')→K st' rs)→ah P ops ops.toList st [] K)(hm:P.prog.follows .mixedOrders=true)(hd:dD N ops=true):dO (n+1) s q (WP P ent N (.region id ops true) Q st):=
 fun k=>WP.drawn hm hd fun K z=>h K fun st' rs hb hh=>z st' rs hb (hh k)
theorem dO.sk (h:dO n s q (Q .normal st)):dO (n+1) s q (WP P ent N .skip Q st):=fun k=>WP.skip (h k)
theorem dO.ex {id:Nat}(h:dO n s q (Q (.exit id) st)):dO (n+1) s q (WP P ent N (.exit id) Q st):=fun k=>WP.exit (h k)
theorem dO.sq {x y:Code}(h:dO n s q (WP P ent N x (CX (fun st'=>WP P ent N y Q st') Q) st)):dO (n+1) s q (WP P ent N (.seq x y) Q st):=fun k=>WP.seq (h k)
theorem dO.bl {id:Nat}{c:Code}(h:dO n s q (WP P ent N c (X3 id Q) st)):dO (n+1) s q (WP P ent N (.block id c) Q st):=fun k=>WP.block (h k)
theorem dO.cT {c:Operand}{x y:Code}(hc:bT st.get c= .bool true)(h:dO n s q (WP P ent N x Q st)):dO (n+1) s q (WP P ent N (.cond c x y) Q st):=fun k=>WP.cond hc (fun _=>h k) nofun
theorem dO.cF {c:Operand}{x y:Code}(hc:bT st.get c= .bool false)(h:dO n s q (WP P ent N y Q st)):dO (n+1) s q (WP P ent N (.cond c x y) Q st):=fun k=>WP.cond hc nofun (fun _=>h k)
end
end Go.Id
namespace Go.Proofs
open Go Go.Id
theorem xK {p:Prop}(h:p:=by first|(simp[-List.map_take];done)|(simp[fV];done)|(simp[fH];done)|(simp[qL];done)|(simp[DT];done)|(simp[As.cs];done)|(simp[At.cs,Key.cs,ni,kX];done)):p:=h
theorem aG (n:Nat)(s:List Nat){q p:Prop}(k:q)(h:dO n s q p:=by (repeat (first|exact dO.Z|kernel_rfl|((try show dO _ _ _ (WP ..));first|((first|apply dO.S|apply dO.R|apply dO.D|apply dO.E);intro _ z;simp +decide only[TF,St.lay,dl,↓reduceIte];(first|apply z|refine z _ _ (by kernel_rfl) ?_);clear z)|apply dO.sk|apply dO.ex|apply dO.sq|apply dO.bl|(apply dO.cT;rfl)|(apply dO.cF;rfl))))):p:=h k
theorem aJ (n:Nat)(s:List Nat){E1:Prop}(mM:E1){q p:Prop}(k:q)(h:E1→dO n s q p:=by (intro e1;repeat (first|exact dO.Z|kernel_rfl|((try show dO _ _ _ (WP ..));first|((first|apply dO.S|apply dO.R|apply dO.D|apply dO.E);intro _ z;simp +decide only[TF,St.lay,dl,e1,↓reduceIte];(repeat ((first|refine aj.pure e1 rfl rfl xK ?_|refine aj.imp e1 rfl rfl (by simp[lk,aB,e1]) (by simp[lk]) (by simp[lk,fg,e1]) ?_);simp +decide only[TF,St.lay,dl,e1,↓reduceIte]));(first|apply z|refine z _ _ (by kernel_rfl) ?_);clear z)|apply dO.sk|apply dO.ex|apply dO.sq|apply dO.bl|(apply dO.cT;rfl)|(apply dO.cF;rfl))))):p:=h mM k
theorem jd (n:Nat)(s:List Nat){E1:Prop}(mM:E1){E2:Prop}(rU:E2){q p:Prop}(k:q)(h:E1→E2→dO n s q p:=by (intro e1 e2;repeat (first|exact dO.Z|kernel_rfl|((try show dO _ _ _ (WP ..));first|((first|apply dO.S|apply dO.R|apply dO.D|apply dO.E);intro _ z;simp +decide only[TF,St.lay,dl,e1,e2,↓reduceIte];(repeat ((first|refine aj.pure e1 rfl rfl xK ?_|refine aj.imp e1 rfl rfl (by simp[lk,aB,e1,e2]) (by simp[lk]) (by simp[lk,fg,e1,e2]) ?_|refine aj.pure e2 rfl rfl xK ?_|refine aj.imp e2 rfl rfl (by simp[lk,aB,e1,e2]) (by simp[lk]) (by simp[lk,fg,e1,e2]) ?_);simp +decide only[TF,St.lay,dl,e1,e2,↓reduceIte]));(first|apply z|refine z _ _ (by kernel_rfl) ?_);clear z)|apply dO.sk|apply dO.ex|apply dO.sq|apply dO.bl|(apply dO.cT;rfl)|(apply dO.cF;rfl))))):p:=h mM rU k
theorem oC (n:Nat)(s:List Nat){E1:Prop}(mM:E1){E2:Prop}(rU:E2){E3:Prop}(AL:E3){q p:Prop}(k:q)(h:E1→E2→E3→dO n s q p:=by (intro e1 e2 e3;repeat (first|exact dO.Z|kernel_rfl|((try show dO _ _ _ (WP ..));first|((first|apply dO.S|apply dO.R|apply dO.D|apply dO.E);intro _ z;simp +decide only[TF,St.lay,dl,e1,e2,e3,↓reduceIte];(repeat ((first|refine aj.pure e1 rfl rfl xK ?_|refine aj.imp e1 rfl rfl (by simp[lk,aB,e1,e2,e3]) (by simp[lk]) (by simp[lk,fg,e1,e2,e3]) ?_|refine aj.pure e2 rfl rfl xK ?_|refine aj.imp e2 rfl rfl (by simp[lk,aB,e1,e2,e3]) (by simp[lk]) (by simp[lk,fg,e1,e2,e3]) ?_|refine aj.pure e3 rfl rfl xK ?_|refine aj.imp e3 rfl rfl (by simp[lk,aB,e1,e2,e3]) (by simp[lk]) (by simp[lk,fg,e1,e2,e3]) ?_);simp +decide only[TF,St.lay,dl,e1,e2,e3,↓reduceIte]));(first|apply z|refine z _ _ (by kernel_rfl) ?_);clear z)|apply dO.sk|apply dO.ex|apply dO.sq|apply dO.bl|(apply dO.cT;rfl)|(apply dO.cF;rfl))))):p:=h mM rU AL k
theorem CO (n:Nat)(s:List Nat){E1:Prop}(mM:E1){E2:Prop}(rU:E2){E3:Prop}(AL:E3){E4:Prop}(OX:E4){q p:Prop}(k:q)(h:E1→E2→E3→E4→dO n s q p:=by (intro e1 e2 e3 e4;repeat (first|exact dO.Z|kernel_rfl|((try show dO _ _ _ (WP ..));first|((first|apply dO.S|apply dO.R|apply dO.D|apply dO.E);intro _ z;simp +decide only[TF,St.lay,dl,e1,e2,e3,e4,↓reduceIte];(repeat ((first|refine aj.pure e1 rfl rfl xK ?_|refine aj.imp e1 rfl rfl (by simp[lk,aB,e1,e2,e3,e4]) (by simp[lk]) (by simp[lk,fg,e1,e2,e3,e4]) ?_|refine aj.pure e2 rfl rfl xK ?_|refine aj.imp e2 rfl rfl (by simp[lk,aB,e1,e2,e3,e4]) (by simp[lk]) (by simp[lk,fg,e1,e2,e3,e4]) ?_|refine aj.pure e3 rfl rfl xK ?_|refine aj.imp e3 rfl rfl (by simp[lk,aB,e1,e2,e3,e4]) (by simp[lk]) (by simp[lk,fg,e1,e2,e3,e4]) ?_|refine aj.pure e4 rfl rfl xK ?_|refine aj.imp e4 rfl rfl (by simp[lk,aB,e1,e2,e3,e4]) (by simp[lk]) (by simp[lk,fg,e1,e2,e3,e4]) ?_);simp +decide only[TF,St.lay,dl,e1,e2,e3,e4,↓reduceIte]));(first|apply z|refine z _ _ (by kernel_rfl) ?_);clear z)|apply dO.sk|apply dO.ex|apply dO.sq|apply dO.bl|(apply dO.cT;rfl)|(apply dO.cF;rfl))))):p:=h mM rU AL OX k
theorem OY (n:Nat)(s:List Nat){E1:Prop}(mM:E1){E2:Prop}(rU:E2){E3:Prop}(AL:E3){E4:Prop}(OX:E4){E5:Prop}(fE5:E5){q p:Prop}(k:q)(h:E1→E2→E3→E4→E5→dO n s q p:=by (intro e1 e2 e3 e4 e5;repeat (first|exact dO.Z|kernel_rfl|((try show dO _ _ _ (WP ..));first|((first|apply dO.S|apply dO.R|apply dO.D|apply dO.E);intro _ z;simp +decide only[TF,St.lay,dl,e1,e2,e3,e4,e5,↓reduceIte];(repeat ((first|refine aj.pure e1 rfl rfl xK ?_|refine aj.imp e1 rfl rfl (by simp[lk,aB,e1,e2,e3,e4,e5]) (by simp[lk]) (by simp[lk,fg,e1,e2,e3,e4,e5]) ?_|refine aj.pure e2 rfl rfl xK ?_|refine aj.imp e2 rfl rfl (by simp[lk,aB,e1,e2,e3,e4,e5]) (by simp[lk]) (by simp[lk,fg,e1,e2,e3,e4,e5]) ?_|refine aj.pure e3 rfl rfl xK ?_|refine aj.imp e3 rfl rfl (by simp[lk,aB,e1,e2,e3,e4,e5]) (by simp[lk]) (by simp[lk,fg,e1,e2,e3,e4,e5]) ?_|refine aj.pure e4 rfl rfl xK ?_|refine aj.imp e4 rfl rfl (by simp[lk,aB,e1,e2,e3,e4,e5]) (by simp[lk]) (by simp[lk,fg,e1,e2,e3,e4,e5]) ?_|refine aj.pure e5 rfl rfl xK ?_|refine aj.imp e5 rfl rfl (by simp[lk,aB,e1,e2,e3,e4,e5]) (by simp[lk]) (by simp[lk,fg,e1,e2,e3,e4,e5]) ?_);simp +decide only[TF,St.lay,dl,e1,e2,e3,e4,e5,↓reduceIte]));(first|apply z|refine z _ _ (by kernel_rfl) ?_);clear z)|apply dO.sk|apply dO.ex|apply dO.sq|apply dO.bl|(apply dO.cT;rfl)|(apply dO.cF;rfl))))):p:=h mM rU AL OX fE5 k
theorem zG6 (n:Nat)(s:List Nat){E1:Prop}(mM:E1){E2:Prop}(rU:E2){E3:Prop}(AL:E3){E4:Prop}(OX:E4){E5:Prop}(fE5:E5){E6:Prop}(fE6:E6){q p:Prop}(k:q)(h:E1→E2→E3→E4→E5→E6→dO n s q p:=by (intro e1 e2 e3 e4 e5 e6;repeat (first|exact dO.Z|kernel_rfl|((try show dO _ _ _ (WP ..));first|((first|apply dO.S|apply dO.R|apply dO.D|apply dO.E);intro _ z;simp +decide only[TF,St.lay,dl,e1,e2,e3,e4,e5,e6,↓reduceIte];(repeat ((first|refine aj.pure e1 rfl rfl xK ?_|refine aj.imp e1 rfl rfl (by simp[lk,aB,e1,e2,e3,e4,e5,e6]) (by simp[lk]) (by simp[lk,fg,e1,e2,e3,e4,e5,e6]) ?_|refine aj.pure e2 rfl rfl xK ?_|refine aj.imp e2 rfl rfl (by simp[lk,aB,e1,e2,e3,e4,e5,e6]) (by simp[lk]) (by simp[lk,fg,e1,e2,e3,e4,e5,e6]) ?_|refine aj.pure e3 rfl rfl xK ?_|refine aj.imp e3 rfl rfl (by simp[lk,aB,e1,e2,e3,e4,e5,e6]) (by simp[lk]) (by simp[lk,fg,e1,e2,e3,e4,e5,e6]) ?_|refine aj.pure e4 rfl rfl xK ?_|refine aj.imp e4 rfl rfl (by simp[lk,aB,e1,e2,e3,e4,e5,e6]) (by simp[lk]) (by simp[lk,fg,e1,e2,e3,e4,e5,e6]) ?_|refine aj.pure e5 rfl rfl xK ?_|refine aj.imp e5 rfl rfl (by simp[lk,aB,e1,e2,e3,e4,e5,e6]) (by simp[lk]) (by simp[lk,fg,e1,e2,e3,e4,e5,e6]) ?_|refine aj.pure e6 rfl rfl xK ?_|refine aj.imp e6 rfl rfl (by simp[lk,aB,e1,e2,e3,e4,e5,e6]) (by simp[lk]) (by simp[lk,fg,e1,e2,e3,e4,e5,e6]) ?_);simp +decide only[TF,St.lay,dl,e1,e2,e3,e4,e5,e6,↓reduceIte]));(first|apply z|refine z _ _ (by kernel_rfl) ?_);clear z)|apply dO.sk|apply dO.ex|apply dO.sq|apply dO.bl|(apply dO.cT;rfl)|(apply dO.cF;rfl))))):p:=h mM rU AL OX fE5 fE6 k
theorem zG7 (n:Nat)(s:List Nat){E1:Prop}(mM:E1){E2:Prop}(rU:E2){E3:Prop}(AL:E3){E4:Prop}(OX:E4){E5:Prop}(fE5:E5){E6:Prop}(fE6:E6){E7:Prop}(fE7:E7){q p:Prop}(k:q)(h:E1→E2→E3→E4→E5→E6→E7→dO n s q p:=by (intro e1 e2 e3 e4 e5 e6 e7;repeat (first|exact dO.Z|kernel_rfl|((try show dO _ _ _ (WP ..));first|((first|apply dO.S|apply dO.R|apply dO.D|apply dO.E);intro _ z;simp +decide only[TF,St.lay,dl,e1,e2,e3,e4,e5,e6,e7,↓reduceIte];(repeat ((first|refine aj.pure e1 rfl rfl xK ?_|refine aj.imp e1 rfl rfl (by simp[lk,aB,e1,e2,e3,e4,e5,e6,e7]) (by simp[lk]) (by simp[lk,fg,e1,e2,e3,e4,e5,e6,e7]) ?_|refine aj.pure e2 rfl rfl xK ?_|refine aj.imp e2 rfl rfl (by simp[lk,aB,e1,e2,e3,e4,e5,e6,e7]) (by simp[lk]) (by simp[lk,fg,e1,e2,e3,e4,e5,e6,e7]) ?_|refine aj.pure e3 rfl rfl xK ?_|refine aj.imp e3 rfl rfl (by simp[lk,aB,e1,e2,e3,e4,e5,e6,e7]) (by simp[lk]) (by simp[lk,fg,e1,e2,e3,e4,e5,e6,e7]) ?_|refine aj.pure e4 rfl rfl xK ?_|refine aj.imp e4 rfl rfl (by simp[lk,aB,e1,e2,e3,e4,e5,e6,e7]) (by simp[lk]) (by simp[lk,fg,e1,e2,e3,e4,e5,e6,e7]) ?_|refine aj.pure e5 rfl rfl xK ?_|refine aj.imp e5 rfl rfl (by simp[lk,aB,e1,e2,e3,e4,e5,e6,e7]) (by simp[lk]) (by simp[lk,fg,e1,e2,e3,e4,e5,e6,e7]) ?_|refine aj.pure e6 rfl rfl xK ?_|refine aj.imp e6 rfl rfl (by simp[lk,aB,e1,e2,e3,e4,e5,e6,e7]) (by simp[lk]) (by simp[lk,fg,e1,e2,e3,e4,e5,e6,e7]) ?_|refine aj.pure e7 rfl rfl xK ?_|refine aj.imp e7 rfl rfl (by simp[lk,aB,e1,e2,e3,e4,e5,e6,e7]) (by simp[lk]) (by simp[lk,fg,e1,e2,e3,e4,e5,e6,e7]) ?_);simp +decide only[TF,St.lay,dl,e1,e2,e3,e4,e5,e6,e7,↓reduceIte]));(first|apply z|refine z _ _ (by kernel_rfl) ?_);clear z)|apply dO.sk|apply dO.ex|apply dO.sq|apply dO.bl|(apply dO.cT;rfl)|(apply dO.cF;rfl))))):p:=h mM rU AL OX fE5 fE6 fE7 k
theorem zG8 (n:Nat)(s:List Nat){E1:Prop}(mM:E1){E2:Prop}(rU:E2){E3:Prop}(AL:E3){E4:Prop}(OX:E4){E5:Prop}(fE5:E5){E6:Prop}(fE6:E6){E7:Prop}(fE7:E7){E8:Prop}(fE8:E8){q p:Prop}(k:q)(h:E1→E2→E3→E4→E5→E6→E7→E8→dO n s q p:=by (intro e1 e2 e3 e4 e5 e6 e7 e8;repeat (first|exact dO.Z|kernel_rfl|((try show dO _ _ _ (WP ..));first|((first|apply dO.S|apply dO.R|apply dO.D|apply dO.E);intro _ z;simp +decide only[TF,St.lay,dl,e1,e2,e3,e4,e5,e6,e7,e8,↓reduceIte];(repeat ((first|refine aj.pure e1 rfl rfl xK ?_|refine aj.imp e1 rfl rfl (by simp[lk,aB,e1,e2,e3,e4,e5,e6,e7,e8]) (by simp[lk]) (by simp[lk,fg,e1,e2,e3,e4,e5,e6,e7,e8]) ?_|refine aj.pure e2 rfl rfl xK ?_|refine aj.imp e2 rfl rfl (by simp[lk,aB,e1,e2,e3,e4,e5,e6,e7,e8]) (by simp[lk]) (by simp[lk,fg,e1,e2,e3,e4,e5,e6,e7,e8]) ?_|refine aj.pure e3 rfl rfl xK ?_|refine aj.imp e3 rfl rfl (by simp[lk,aB,e1,e2,e3,e4,e5,e6,e7,e8]) (by simp[lk]) (by simp[lk,fg,e1,e2,e3,e4,e5,e6,e7,e8]) ?_|refine aj.pure e4 rfl rfl xK ?_|refine aj.imp e4 rfl rfl (by simp[lk,aB,e1,e2,e3,e4,e5,e6,e7,e8]) (by simp[lk]) (by simp[lk,fg,e1,e2,e3,e4,e5,e6,e7,e8]) ?_|refine aj.pure e5 rfl rfl xK ?_|refine aj.imp e5 rfl rfl (by simp[lk,aB,e1,e2,e3,e4,e5,e6,e7,e8]) (by simp[lk]) (by simp[lk,fg,e1,e2,e3,e4,e5,e6,e7,e8]) ?_|refine aj.pure e6 rfl rfl xK ?_|refine aj.imp e6 rfl rfl (by simp[lk,aB,e1,e2,e3,e4,e5,e6,e7,e8]) (by simp[lk]) (by simp[lk,fg,e1,e2,e3,e4,e5,e6,e7,e8]) ?_|refine aj.pure e7 rfl rfl xK ?_|refine aj.imp e7 rfl rfl (by simp[lk,aB,e1,e2,e3,e4,e5,e6,e7,e8]) (by simp[lk]) (by simp[lk,fg,e1,e2,e3,e4,e5,e6,e7,e8]) ?_|refine aj.pure e8 rfl rfl xK ?_|refine aj.imp e8 rfl rfl (by simp[lk,aB,e1,e2,e3,e4,e5,e6,e7,e8]) (by simp[lk]) (by simp[lk,fg,e1,e2,e3,e4,e5,e6,e7,e8]) ?_);simp +decide only[TF,St.lay,dl,e1,e2,e3,e4,e5,e6,e7,e8,↓reduceIte]));(first|apply z|refine z _ _ (by kernel_rfl) ?_);clear z)|apply dO.sk|apply dO.ex|apply dO.sq|apply dO.bl|(apply dO.cT;rfl)|(apply dO.cF;rfl))))):p:=h mM rU AL OX fE5 fE6 fE7 fE8 k
theorem Ya {p:Prop}(h:p:=by (exact Ends.P rfl (Le.of_eq (by simp +decide only[St.get,W,↓reduceIte])))):p:=h
theorem Bq {p:Prop}{E1:Prop}(mM:E1)(h:E1→p:=by (intro e1;exact Ends.P rfl (Le.of_eq (by simp +decide only[St.get,W,e1,↓reduceIte])))):p:=h mM
theorem Bv {p:Prop}{E1:Prop}(mM:E1){E2:Prop}(rU:E2)(h:E1→E2→p:=by (intro e1 e2;exact Ends.P rfl (Le.of_eq (by simp +decide only[St.get,W,e1,e2,↓reduceIte])))):p:=h mM rU
theorem Md {p:Prop}{E1:Prop}(mM:E1){E2:Prop}(rU:E2){E3:Prop}(AL:E3)(h:E1→E2→E3→p:=by (intro e1 e2 e3;exact Ends.P rfl (Le.of_eq (by simp +decide only[St.get,W,e1,e2,e3,↓reduceIte])))):p:=h mM rU AL
theorem gK {P:dF}{k:FuncId}{fn:Func}{c:Code}{args:List D}{val:D}{N:Nat}(hf:P.prog.funcs[k]?=some fn)(hN:fn.ntmps=N){q:Prop}(z:q)(h:q→WP P [] N c (Go.Id.Ends P fn [] val []) ⟨aT 0 args,[]⟩:=by (intro z;simp only[aT,Nat.reduceAdd,ade];exact z))
  (hb:fn.body=some c:=by rfl) (hn:(fn.name == "runtime.NumGoroutine")=false:=by kernel_rfl) (hle:args.length≤N:=by simp):ay P k args val:=ay.of_wp hf hb hn hN hle (h z)
theorem qX {P:dF}{k:FuncId}{fn:Func}{c:Code}{args:List D}{val:D}{ins outs:List (Nat × bf)}{N:Nat}(hf:P.prog.funcs[k]?=some fn)(hN:fn.ntmps=N){q:Prop}(z:q)(h:q→WP P (ins.map (·.1)) N c (Go.Id.Ends P fn ins val outs) ⟨aT 0 args,ins⟩:=by (intro z;simp only[aT,Nat.reduceAdd,ade,ag1,aj9];exact z))
  (hb:fn.body=some c:=by rfl) (hn:(fn.name == "runtime.NumGoroutine")=false:=by kernel_rfl) (hle:args.length≤N:=by simp):aF P k args ins val outs:=aF.of_wp hf hb hn hN hle (h z)
theorem ZN {p:Prop}(h:p:=by (refine Ends.imp (.inr rfl) rfl (Le.of_eq (by simp +decide only[St.get,W,↓reduceIte])) (by simp[lk]) (by simp[St.get,lk,W,aB]) (by simp[lk]))):p:=h
theorem zT0 {p:Prop}(h:p:=by (refine Ends.imp (d:= .aQ [_,_]) (.inr rfl) rfl (Le.of_eq (by simp +decide only[St.get,W,↓reduceIte])) (by simp[lk]) (by simp[St.get,lk,W,aB]) (by simp[lk]))):p:=h
theorem Me {p:Prop}{E1:Prop}(mM:E1)(h:E1→p:=by (intro e1;refine Ends.imp (.inr rfl) rfl (Le.of_eq (by simp +decide only[St.get,W,e1,↓reduceIte])) (by simp[lk]) (by simp[St.get,lk,W,aB,e1]) (by simp[lk]))):p:=h mM
theorem zT1 {p:Prop}{E1:Prop}(mM:E1)(h:E1→p:=by (intro e1;refine Ends.imp (d:= .aQ [_,_]) (.inr rfl) rfl (Le.of_eq (by simp +decide only[St.get,W,e1,↓reduceIte])) (by simp[lk]) (by simp[St.get,lk,W,aB,e1]) (by simp[lk]))):p:=h mM
theorem zR2 {p:Prop}{E1:Prop}(mM:E1){E2:Prop}(rU:E2)(h:E1→E2→p:=by (intro e1 e2;refine Ends.imp (.inr rfl) rfl (Le.of_eq (by simp +decide only[St.get,W,e1,e2,↓reduceIte])) (by simp[lk]) (by simp[St.get,lk,W,aB,e1,e2]) (by simp[lk]))):p:=h mM rU
theorem zR3 {p:Prop}{E1:Prop}(mM:E1){E2:Prop}(rU:E2){E3:Prop}(AL:E3)(h:E1→E2→E3→p:=by (intro e1 e2 e3;refine Ends.imp (.inr rfl) rfl (Le.of_eq (by simp +decide only[St.get,W,e1,e2,e3,↓reduceIte])) (by simp[lk]) (by simp[St.get,lk,W,aB,e1,e2,e3]) (by simp[lk]))):p:=h mM rU AL
theorem QB {p:Prop}(h:p:=by (exact Weak.store (by simp[St.get,lk,W,Le.refl]) (by simp[lk]) (by simp[lk]) (by simp[aB,lk]) (by simp[lk]))):p:=h
theorem OC {p:Prop}(h:p:=by (exact Weak.nil (by simp[St.get,lk,W,Le.refl]) (by simp[W]))):p:=h
theorem zY1 {p:Prop}{E1:Prop}(mM:E1)(h:E1→p:=by (intro e1;exact Weak.store (by simp[St.get,lk,W,Le.refl,e1]) (by simp[lk,e1]) (by simp[lk]) (by simp[aB,lk]) (by simp[lk]))):p:=h mM
theorem zZ1 {p:Prop}{E1:Prop}(mM:E1)(h:E1→p:=by (intro e1;exact Weak.nil (by simp[St.get,lk,W,Le.refl,e1]) (by simp[W]))):p:=h mM
theorem CP {p:Prop}{E1:Prop}(mM:E1){E2:Prop}(rU:E2)(h:E1→E2→p:=by (intro e1 e2;exact Weak.store (by simp[St.get,lk,W,Le.refl,e1,e2]) (by simp[lk,e1,e2]) (by simp[lk]) (by simp[aB,lk]) (by simp[lk]))):p:=h mM rU
theorem zZ2 {p:Prop}{E1:Prop}(mM:E1){E2:Prop}(rU:E2)(h:E1→E2→p:=by (intro e1 e2;exact Weak.nil (by simp[St.get,lk,W,Le.refl,e1,e2]) (by simp[W]))):p:=h mM rU
theorem zY3 {p:Prop}{E1:Prop}(mM:E1){E2:Prop}(rU:E2){E3:Prop}(AL:E3)(h:E1→E2→E3→p:=by (intro e1 e2 e3;exact Weak.store (by simp[St.get,lk,W,Le.refl,e1,e2,e3]) (by simp[lk,e1,e2,e3]) (by simp[lk]) (by simp[aB,lk]) (by simp[lk]))):p:=h mM rU AL
theorem zZ3 {p:Prop}{E1:Prop}(mM:E1){E2:Prop}(rU:E2){E3:Prop}(AL:E3)(h:E1→E2→E3→p:=by (intro e1 e2 e3;exact Weak.nil (by simp[St.get,lk,W,Le.refl,e1,e2,e3]) (by simp[W]))):p:=h mM rU AL
theorem zY4 {p:Prop}{E1:Prop}(mM:E1){E2:Prop}(rU:E2){E3:Prop}(AL:E3){E4:Prop}(OX:E4)(h:E1→E2→E3→E4→p:=by (intro e1 e2 e3 e4;exact Weak.store (by simp[St.get,lk,W,Le.refl,e1,e2,e3,e4]) (by simp[lk,e1,e2,e3,e4]) (by simp[lk]) (by simp[aB,lk]) (by simp[lk]))):p:=h mM rU AL OX
theorem zV1 {p:Prop}{E1:Prop}(mM:E1)(h:E1→p:=by (intro e1;exact Ends.P rfl (Le.of_eq (by first|(simp +decide only[St.get,W,e1,↓reduceIte];done)|(simp[St.get,lk,W,bne,e1];done)|(simp_all[St.get,lk,W,LN,bne,e1];done)|(simp_all[St.get,lk,W,LN,bne,e1];intros;first|omega|(rw[agZ];simp;try omega)))))):p:=h mM
theorem zV2 {p:Prop}{E1:Prop}(mM:E1){E2:Prop}(rU:E2)(h:E1→E2→p:=by (intro e1 e2;exact Ends.P rfl (Le.of_eq (by first|(simp +decide only[St.get,W,e1,e2,↓reduceIte];done)|(simp[St.get,lk,W,bne,e1,e2];done)|(simp_all[St.get,lk,W,LN,bne,e1,e2];done)|(simp_all[St.get,lk,W,LN,bne,e1,e2];intros;first|omega|(rw[agZ];simp;try omega)))))):p:=h mM rU
theorem zX2 {p:Prop}{E1:Prop}(mM:E1){E2:Prop}(rU:E2)(h:E1→E2→p:=by (intro e1 e2;exact Ends.P (d:= .aQ [_,_]) rfl (Le.of_eq (by first|(simp +decide only[St.get,W,e1,e2,↓reduceIte];done)|(simp[St.get,lk,W,bne,e1,e2];done)|(simp_all[St.get,lk,W,LN,bne,e1,e2];done)|(simp_all[St.get,lk,W,LN,bne,e1,e2];intros;first|omega|(rw[agZ];simp;try omega)))))):p:=h mM rU
theorem zV3 {p:Prop}{E1:Prop}(mM:E1){E2:Prop}(rU:E2){E3:Prop}(AL:E3)(h:E1→E2→E3→p:=by (intro e1 e2 e3;exact Ends.P rfl (Le.of_eq (by first|(simp +decide only[St.get,W,e1,e2,e3,↓reduceIte];done)|(simp[St.get,lk,W,bne,e1,e2,e3];done)|(simp_all[St.get,lk,W,LN,bne,e1,e2,e3];done)|(simp_all[St.get,lk,W,LN,bne,e1,e2,e3];intros;first|omega|(rw[agZ];simp;try omega)))))):p:=h mM rU AL
theorem zV4 {p:Prop}{E1:Prop}(mM:E1){E2:Prop}(rU:E2){E3:Prop}(AL:E3){E4:Prop}(OX:E4)(h:E1→E2→E3→E4→p:=by (intro e1 e2 e3 e4;exact Ends.P rfl (Le.of_eq (by first|(simp +decide only[St.get,W,e1,e2,e3,e4,↓reduceIte];done)|(simp[St.get,lk,W,bne,e1,e2,e3,e4];done)|(simp_all[St.get,lk,W,LN,bne,e1,e2,e3,e4];done)|(simp_all[St.get,lk,W,LN,bne,e1,e2,e3,e4];intros;first|omega|(rw[agZ];simp;try omega)))))):p:=h mM rU AL OX
theorem zV5 {p:Prop}{E1:Prop}(mM:E1){E2:Prop}(rU:E2){E3:Prop}(AL:E3){E4:Prop}(OX:E4){E5:Prop}(fE5:E5)(h:E1→E2→E3→E4→E5→p:=by (intro e1 e2 e3 e4 e5;exact Ends.P rfl (Le.of_eq (by first|(simp +decide only[St.get,W,e1,e2,e3,e4,e5,↓reduceIte];done)|(simp[St.get,lk,W,bne,e1,e2,e3,e4,e5];done)|(simp_all[St.get,lk,W,LN,bne,e1,e2,e3,e4,e5];done)|(simp_all[St.get,lk,W,LN,bne,e1,e2,e3,e4,e5];intros;first|omega|(rw[agZ];simp;try omega)))))):p:=h mM rU AL OX fE5
theorem Yb {p:Prop}{E1:Prop}(mM:E1){E2:Prop}(rU:E2){E3:Prop}(AL:E3){E4:Prop}(OX:E4)(h:E1→E2→E3→E4→p:=by (intro e1 e2 e3 e4;exact Ends.P rfl (Le.of_eq (by simp +decide only[St.get,W,e1,e2,e3,e4,↓reduceIte])))):p:=h mM rU AL OX
theorem zP5 {p:Prop}{E1:Prop}(mM:E1){E2:Prop}(rU:E2){E3:Prop}(AL:E3){E4:Prop}(OX:E4){E5:Prop}(fE5:E5)(h:E1→E2→E3→E4→E5→p:=by (intro e1 e2 e3 e4 e5;exact Ends.P rfl (Le.of_eq (by simp +decide only[St.get,W,e1,e2,e3,e4,e5,↓reduceIte])))):p:=h mM rU AL OX fE5
theorem zP6 {p:Prop}{E1:Prop}(mM:E1){E2:Prop}(rU:E2){E3:Prop}(AL:E3){E4:Prop}(OX:E4){E5:Prop}(fE5:E5){E6:Prop}(fE6:E6)(h:E1→E2→E3→E4→E5→E6→p:=by (intro e1 e2 e3 e4 e5 e6;exact Ends.P rfl (Le.of_eq (by simp +decide only[St.get,W,e1,e2,e3,e4,e5,e6,↓reduceIte])))):p:=h mM rU AL OX fE5 fE6
theorem OD {p:Prop}{E1:Prop}(mM:E1)(h:E1→p:=by (intro e1;refine Ends.imp (d:= .aQ [_,_]) (.inr rfl) rfl (by rw[e1];exact Le.trans (Le.of_eq (by simp +decide only[St.get,W,ak,fA,↓reduceIte])) (JZ _)) (by simp[lk]) (by simp[St.get,lk,W,aB,e1]) (by simp[lk]))):p:=h mM
end Go.Proofs
