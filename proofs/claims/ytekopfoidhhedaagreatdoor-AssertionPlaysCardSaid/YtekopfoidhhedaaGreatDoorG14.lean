import Derived.Test.YtekopfoidhhedaaGreatDoorG08
import Derived.Lib.TrimByte
import Derived.Lib.IndexMore
import Derived.Lib.Bytealg
import Derived.Lib.DecodeN
set_option linter.unusedVariables false
set_option linter.unusedSimpArgs false
set_option linter.unnecessarySimpa false
namespace Go.Proofs
open Go Go.Id
theorem ad3 {n:Nat}(h:0<n)(hn:n≤140737488355328):IntKind.wrap .i64 ((n:Int) - 1)=((n - 1:Nat):Int):=by
 rw[wrap_i64 (by omega) (by omega)];omega
def upperB (n:Int):Bool:=decide (n≥65) && decide (n≤90)
def dB (n:Int):Bool:=upperB n || (decide (n≥97) && decide (n≤122))
def je (n:Int):Bool:=decide (n≥48) && decide (n≤57)
def dW (n:Int):Bool:=dB n || je n || n == 45 || n == 95 || n == 46 || n == 58
def bg (s:List UInt8):Bool:=s.all (fun c=>dW c.toNat) && !(s == []) && decide ((s.length:Int)≤64)
def tX (n:Int):Bool:=decide (32≤n) && decide (n≤126)
def FM (s:List UInt8)(i:Nat):Int:=
 match s[i]? with
 |some c=>c.toNat
 |none=>-1
theorem zV {s:List UInt8}{i:Nat}(h:i<s.length):FM s i=s[i].toNat:=by simp[FM,h]
theorem ZO (s:List UInt8)(i:Nat)(c:UInt8):(FM s i == (c.toNat:Int))=(s[i]? == some c):=by
 unfold FM
 cases h:s[i]? with
 |none=>rw[agZ];simp
 |some d=>
  rw[agZ]
  simp only[beq_iff_eq,abr]
  exact⟨fun e=>aoA.1 (by omega),fun e=>by rw[e]⟩
def endsB (s:List UInt8):Bool:=!(FM s 0 == 32) && !(FM s (s.length - 1) == 32)
theorem ad4 (s:List UInt8):endsB s=(!(s[0]? == some 32) && !(s[s.length - 1]? == some 32)):=by
 unfold endsB
 have h1:=ZO s 0 32
 have h2:=ZO s (s.length - 1) 32
 simp only[show ((32:UInt8).toNat:Int)=32 from rfl] at h1 h2
 rw[h1,h2]
def b_ (s:List UInt8):Bool:=s.all (fun c=>tX c.toNat) && !(s == []) && decide ((s.length:Int)≤256) && endsB s
theorem Yc (s:List UInt8)(h:s≠[]):(Lib.trimB s 32 == s)=endsB s:=by
 have hp:0<s.length:=akT.2 h
 rw[agZ]
 simp only[beq_iff_eq,ad4,ait,adh,beq_eq_false_iff_ne]
 constructor
 ·intro e
  have hl1:(Lib.trimRightB s 32).length≤s.length:=by
   unfold Lib.trimRightB
   simpa using (aph (· == (32:UInt8)) (l:=s.reverse)).length_le
  have hl2:(Lib.trimB s 32).length≤(Lib.trimRightB s 32).length:=(aph _).length_le
  rw[e] at hl2
  have hr:s.reverse.dropWhile (· == 32)=s.reverse:=(aph _).eq_of_length (by
   have:(Lib.trimRightB s 32).length=(s.reverse.dropWhile (· == 32)).length:=by simp[Lib.trimRightB]
   simp only[List.length_reverse];omega)
  have hr':Lib.trimRightB s 32=s:=by rw[Lib.trimRightB,hr,List.reverse_reverse]
  have hd:s.dropWhile (· == 32)=s:=by have:=e;rw[Lib.trimB,hr',Lib.trimLeftB] at this;exact this
  constructor
  ·intro h0
   cases s with
   |nil=>cases h0
   |cons a t=>
    simp only[alB,abr] at h0
    subst h0
    simp only[List.dropWhile_cons,beq_self_eq_true,if_true] at hd
    have:=(aph (· == (32:UInt8)) (l:=t)).length_le
    rw[hd] at this
    simp at this
    omega
  ·intro h0
   have h1:s.reverse[0]?=some 32:=by rw[List.getElem?_reverse hp];simpa using h0
   generalize s.reverse=r at *
   cases r with
   |nil=>cases h1
   |cons a t=>
    simp only[alB,abr] at h1
    subst h1
    simp only[List.dropWhile_cons,beq_self_eq_true,if_true] at hr
    have:=(aph (· == (32:UInt8)) (l:=t)).length_le
    rw[hr] at this
    simp at this
    omega
 ·rintro ⟨h0,h1⟩
  have hr:Lib.trimRightB s 32=s.take s.length:=Lib.trimRightB_take s 32 s.length (ag4 _) (fun j b hj hb=>by
   have:=(acR.1 hb).1;omega) (fun b _ hb e=>h1 (by rw[hb,e]))
  rw[ajy] at hr
  rw[Lib.trimB,hr,Lib.trimLeftB_drop s 32 0 (ada _) (fun j b hj=>by omega) (fun b hb e=>h0 (by rw[hb,e]))]
  rfl
theorem amY (s:ByteArray){k:Nat}(h:k<s.size):s.get! k=s.data.toList[k]'h:=by
 show s.data[k]! = _
 rw[getElem!_pos s.data k h]
 rfl
theorem abu (s:List UInt8)(k:Nat)(hk:k≤s.length):s.length≤k∨(k<s.length∧126<(jw s k).1∧(s.drop k).all (fun c=>tX c.toNat)=false)∨
  (∃h:k<s.length,(jw s k).1=s[k].toNat∧(jw s k).2=1∧(s.drop k).all (fun c=>tX c.toNat)=(tX s[k].toNat && (s.drop (k+1)).all (fun c=>tX c.toNat))):=by
 by_cases h:k<s.length
 ·right
  have e:jw s k=Lib.decodeN ((⟨s.toArray⟩:ByteArray).size - k) ((⟨s.toArray⟩:ByteArray).get! k).toNat ((⟨s.toArray⟩:ByteArray).get! (k+1)).toNat ((⟨s.toArray⟩:ByteArray).get! (k+2)).toNat ((⟨s.toArray⟩:ByteArray).get! (k+3)).toNat:=Lib.decode_at _ _
  have hb:(⟨s.toArray⟩:ByteArray).get! k=s[k]:=amY ⟨s.toArray⟩ h
  rw[hb] at e
  have hd:(s.drop k).all (fun c=>tX c.toNat)=(tX s[k].toNat && (s.drop (k+1)).all (fun c=>tX c.toNat)):=by rw[bZ h,alf]
  by_cases h8:s[k].toNat<128
  ·right
   refine⟨h,?_,?_,hd⟩ <;> (rw[e];unfold Lib.decodeN;rw[if_pos h8])
  ·left
   refine⟨h,?_,?_⟩
   ·rw[e];unfold Lib.decodeN;rw[if_neg h8]
    repeat' split
    all_goals (first|omega|(simp only[];omega))
   ·rw[hd]
    have:tX s[k].toNat=false:=by simp[tX];omega
    rw[this];rfl
 ·left;omega
def fJ (n:Int):Bool:=decide (n≥33) && decide (n≤126) && !(n == 37) && !(n == 124) && !(n == 44) && !(n == 61) && !(n == 59) && !(n == 34)
theorem ad5 (n:Int)(h0:33≤n)(h1:n≤126):decide (Lib.indexByte [37,124,44,61,59,34] n.toNat.toUInt8<0)=(!(n == 37) && !(n == 124) && !(n == 44) && !(n == 61) && !(n == 59) && !(n == 34)):=by
 obtain⟨m,rfl⟩:∃m:Nat,n=m:=⟨n.toNat,by omega⟩
 have hm:m<127:=by omega
 clear h0 h1
 revert m
 decide +kernel
end Go.Proofs
