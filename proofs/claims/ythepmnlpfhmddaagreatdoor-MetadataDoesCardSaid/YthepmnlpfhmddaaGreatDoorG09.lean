import Derived.Test.YthepmnlpfhmddaaGreatDoorG03
import Derived.Test.YthepmnlpfhmddaaGreatDoorG08
import Derived.Test.YthepmnlpfhmddaaGreatDoorG02
import Derived.Test.YthepmnlpfhmddaaGreatDoorG04
import Derived.Shelf.Sort.Plain
set_option linter.unusedVariables false
set_option linter.unusedSimpArgs false
set_option linter.unnecessarySimpa false
set_option maxRecDepth 10000
namespace Go.Proofs
open Go Go.Id
set_option maxHeartbeats 4000000
abbrev s_r_parse43 : List Nat := [0, 2, 3, 4, 5, 6, 7, 8, 9, 10, 13, 18, 22, 35, 47, 51]
theorem c_r_parse43 (s : List UInt8) (hs40 : s.length ≤ 1099511627776) : CallP Pr 19 [.str s] (pPD (pP s)) := by
 refine CallP.W Tryz.func19 Tryz.ntmps19 ?_
 simp only [frameOf]
 iterate 3 first | (refine WP.S s_r_parse43 fun _ z => ?_; simp +decide only [TF, ↓reduceIte]; apply z; clear z) | apply WP.seq
 refine WP.cond rfl (fun q1 => ?_) (fun q1 => ?_)
 ·have hR := pP_long (s := s) (by have := of_decide_eq_true q1; omega)
  refine WP.S s_r_parse43 fun _ z => ?_; simp +decide only [TF, q1, ↓reduceIte]; apply z; clear z
  apply WP.ret
  exact Ends.pure (d := .tup [_, _, _]) (.inr rfl) rfl ((by rw [hR]; simp +decide only [pPD, St.get, lk, W, Pr_prog, sz26, ↓reduceIte]; first | exact Le.refl _ | exact le_zeroP _ _)) (by simp [pPD, Par.cs])
 have hs : s.length ≤ 4096 := by have := of_decide_eq_false q1; omega
 have hP := pP_short hs
 iterate 3 first | (refine WP.S s_r_parse43 fun _ z => ?_; simp +decide only [TF, q1, ↓reduceIte]; apply z; clear z) | (apply WP.skip; show WP ..)
 refine WP.S [2, 5, 6, 7] fun _ z => ?_; simp +decide only [TF, ↓reduceIte]; apply z; clear z
 iterate 2 first | apply WP.block | apply WP.seq
 refine WP.lp [2, 5] (X := {x : (Nat) × (Par) × (List UInt8) // match x with | (n, p, r) => 1 ≤ n ∧ n + r.length ≤ s.length + 1 ∧ p.ok ∧ p.keys.length ≤ n ∧ pP s = loopP n p (cutA 10 [] r)}) (fun x => match x with | ⟨(n, p, r), _⟩ => [(6, .str r), (7, .int .i64 n)]) (fun x => match x with | ⟨(n, p, r), _⟩ => [(0, .box 26 [.str [], .str [], .slice 0 true [] none, .int .i64 0, .int .i64 0]), (1, .box 26 [.str p.id, .str p.addr, .slice 6 p.nk (p.keys.map Key.cs) none, .int .i64 p.f, .int .i64 p.u])]) (fun x => match x with | ⟨(n, p, r), _⟩ => r.length) (by simp +decide only [W, ↓reduceIte]; rfl) ?_ ⟨(1, zeroP, s), ⟨by omega, by omega, zeroP_ok, by simp [zeroP], hP⟩⟩ ?_
 rotate_left
 ·exact Weak.trans (Weak.boxN 1 26 _ zeroP.cs rfl ⟨Le.refl _, Le.refl _, Le.nil _ _ _, Le.refl _, Le.refl _, trivial⟩) (Weak.store (by simp [St.get, lk, W, Le.refl]) (by simp [lk, W, zeroP, Par.cs]) (by simp [lk]) (by simp [BClo, lk]) (by simp [lk]))
 rintro ⟨⟨n, p, r⟩, hI⟩
 dsimp only
 simp only [List.cons_append, List.nil_append]
 dsimp only at hI
 clear hP
 obtain ⟨h1, hn, hok, hkn, hP⟩ := hI
 have hw1 : IntKind.wrap .i64 ((n : Int) + 1) = ((n + 1 : Nat) : Int) := by rw [wrap_i64 (by omega) (by omega)]; rfl
 iterate 2 first | (refine WP.S s_r_parse43 fun _ z => ?_; simp +decide only [TF, ↓reduceIte]; apply z; clear z) | apply WP.seq
 refine WP.cond rfl (fun q2 => ?_) (fun q2 => ?_)
 ·have hr0 : r ≠ [] := by simpa using q2
  iterate 2 first | (apply WP.skip; show WP ..) | apply WP.block
  rcases fx_cases r with ⟨j, hc, hj, hcb⟩ | ⟨hc, hcb⟩
  ·have hj0 : decide ((j : Int) < 0) = false := decide_eq_false (by omega)
   have hjl : j ≤ r.length := by omega
   have hj1 : j + 1 ≤ r.length := hj
   have hwj : IntKind.wrap .i64 ((j : Int) + 1) = ((j + 1 : Nat) : Int) := by rw [wrap_i64 (by omega) (by omega)]; rfl
   refine WP.S s_r_parse43 fun _ z => ?_
   simp +decide only [TF, q2, ↓reduceIte]
   refine CallK.P (c_r_first r 10 (by omega)) rfl rfl ?_
   simp +decide only [TF, hc, ↓reduceIte]
   apply z; clear z
   iterate 4 first | (refine WP.S s_r_parse43 fun _ z => ?_; simp +decide only [TF, hj0, ↓reduceIte]; apply z; clear z) | (apply WP.skip; show WP ..) | refine WP.cF ?_ | apply WP.seq
   rcases lineD_two n p (r.take j) with ⟨he, hk⟩ | ⟨he, hk⟩
   ·have hR := hP.trans (lp_err hcb he)
    have hke : (stE n p (r.take j) != 0) = true := by simpa using he
    refine WP.D s_r_parse43 fun _ z => ?_
    simp +decide only [TF, hjl, ↓reduceIte]
    refine CallK.P (c_r_line43 n h1 p hok (by omega) (r.take j) (by simp only [List.length_take]; omega)) rfl rfl ?_
    simp +decide only [TF, hk, zpD, ↓reduceIte]
    refine z _ _ (by kernel_rfl) ?_; clear z
    iterate 4 first | (refine WP.S s_r_parse43 fun _ z => ?_; simp +decide only [TF, hke, ↓reduceIte]; apply z; clear z) | refine WP.cT ?_ | apply WP.seq
    apply WP.ret
    exact Ends.pure (d := .tup [_, _, _]) (.inr rfl) rfl ((by rw [hR]; simp +decide only [pPD, St.get, lk, W, Pr_prog, sz26, ↓reduceIte]; first | exact Le.refl _ | exact le_zeroP _ _)) (by simp [pPD, Par.cs])
   have hN := hP.trans (lp_next hcb he)
   obtain ⟨ok2, kl2⟩ := stP_ok (n := n) (l := r.take j) hok (by omega) (by simp only [List.length_take]; omega)
   refine WP.D s_r_parse43 fun _ z => ?_
   simp +decide only [TF, hjl, ↓reduceIte]
   refine CallK.P (c_r_line43 n h1 p hok (by omega) (r.take j) (by simp only [List.length_take]; omega)) rfl rfl ?_
   simp +decide only [TF, hk, Par.cs, ↓reduceIte]
   refine z _ _ (by kernel_rfl) ?_; clear z
   iterate 7 first | (refine WP.S s_r_parse43 fun _ z => ?_; simp +decide only [TF, hj1, hwj, List.take_length, ↓reduceIte]; apply z; clear z) | (refine WP.R fun _ z => ?_; simp +decide only [TF, hw1, ↓reduceIte]; apply z; clear z) | (apply WP.skip; show WP ..) | refine WP.cF ?_ | apply WP.seq
   show ∃ y, _ ∧ Weak _ _ _
   refine ⟨⟨(n + 1, stP n p (r.take j), r.drop (j + 1)), ?_⟩, ?_, ?_⟩
   ·exact ⟨by omega, by simp; omega, ok2, by show (stP n p (r.take j)).keys.length ≤ n + 1; omega, hN⟩
   ·dsimp only; simp; omega
   exact Weak.store (by simp [St.get, lk, Le.refl]) (by simp [lk]) (by simp [lk]) (by simp [BClo, lk]) (by simp [lk])
  have hR : pP s = (zeroP, (n : Int), 4) := by rw [hP, lp_one hcb hr0]
  refine WP.S s_r_parse43 fun _ z => ?_
  simp +decide only [TF, q2, ↓reduceIte]
  refine CallK.P (c_r_first r 10 (by omega)) rfl rfl ?_
  simp +decide only [TF, hc, ↓reduceIte]
  apply z; clear z
  iterate 4 first | (refine WP.S s_r_parse43 fun _ z => ?_; simp +decide only [TF, ↓reduceIte]; apply z; clear z) | refine WP.cT ?_ | apply WP.seq
  apply WP.ret
  exact Ends.pure (d := .tup [_, _, _]) (.inr rfl) rfl ((by rw [hR]; simp +decide only [pPD, St.get, lk, W, Pr_prog, sz26, ↓reduceIte]; first | exact Le.refl _ | exact le_zeroP _ _)) (by simp [pPD, Par.cs])
 have hr0 : r = [] := by simpa using q2
 have hF : pP s = finP n p := by rw [hP, hr0]; exact loopP_nil
 iterate 3 first | (refine WP.S s_r_parse43 fun _ z => ?_; simp +decide only [TF, q2, ↓reduceIte]; apply z; clear z) | (apply WP.exit; show WP ..) | apply WP.seq
 refine WP.cond rfl (fun q3 => ?_) (fun q3 => ?_)
 ·have hR : pP s = (zeroP, (n : Int), 4) := by rw [hF, finP, if_pos (by have := of_decide_eq_true q3; omega)]
  refine WP.S s_r_parse43 fun _ z => ?_; simp +decide only [TF, q3, ↓reduceIte]; apply z; clear z
  apply WP.ret
  exact Ends.pure (d := .tup [_, _, _]) (.inr rfl) rfl ((by rw [hR]; simp +decide only [pPD, St.get, lk, W, Pr_prog, sz26, ↓reduceIte]; first | exact Le.refl _ | exact le_zeroP _ _)) (by simp [pPD, Par.cs])
 have hn4 : 4 ≤ n := by have := of_decide_eq_false q3; omega
 iterate 3 first | (refine WP.S s_r_parse43 fun _ z => ?_; simp +decide only [TF, q3, ↓reduceIte]; apply z; clear z) | (apply WP.skip; show WP ..) | apply WP.seq
 refine WP.cond rfl (fun q4 => ?_) (fun q4 => ?_)
 ·have hn5 : n = 4 := by have := (beq_iff_eq.1 q4 : (n : Int) = 4); omega
  have hR : pP s = (zeroP, 4, 6) := by rw [hF, finP, if_neg (by omega), if_pos hn5]
  refine WP.S s_r_parse43 fun _ z => ?_; simp +decide only [TF, q4, ↓reduceIte]; apply z; clear z
  apply WP.ret
  exact Ends.pure (d := .tup [_, _, _]) (.inr rfl) rfl ((by rw [hR]; simp +decide only [pPD, St.get, lk, W, Pr_prog, sz26, ↓reduceIte]; first | exact Le.refl _ | exact le_zeroP _ _)) (by simp [pPD, Par.cs])
 have hn5 : ¬ n = 4 := by rintro rfl; simp at q4
 have hR : pP s = (p, 0, 0) := by rw [hF, finP, if_neg (by omega), if_neg hn5]
 iterate 2 first | (refine WP.S s_r_parse43 fun _ z => ?_; simp +decide only [TF, q4, ↓reduceIte]; apply z; clear z) | (apply WP.skip; show WP ..)
 apply WP.ret
 exact Ends.pure (d := .tup [_, _, _]) (.inr rfl) rfl ((by rw [hR]; simp +decide only [pPD, St.get, lk, W, Pr_prog, sz26, ↓reduceIte]; first | exact Le.refl _ | exact le_zeroP _ _)) (by simp [pPD, Par.cs])
def lastC (s : List UInt8) : Int := Lib.lastIndexByte ⟨s.toArray⟩ 58
theorem last_cases (s : List UInt8) : (lastC s = -1 ∧ (58 : UInt8) ∉ s) ∨ ∃ i : Nat, i < s.length ∧ lastC s = i ∧ s = s.take i ++ 58 :: s.drop (i + 1) ∧ (58 : UInt8) ∉ s.drop (i + 1) := by
 have hat : ∀ j, j < s.length → ((⟨s.toArray⟩ : ByteArray).data[j]!) = (s[j]?).getD default := by
  intro j hj
  simp [hj]
 have hsz : (⟨s.toArray⟩ : ByteArray).size = s.length := by simp [ByteArray.size]
 rcases Lib.lastIndexByte_spec ⟨s.toArray⟩ 58 with ⟨h1, h2⟩ | ⟨i, hi, h1, h2, h3⟩
 ·refine .inl ⟨h1, fun hm => ?_⟩
  obtain ⟨j, hj, he⟩ := List.mem_iff_getElem.1 hm
  refine h2 j (by rw [hsz]; exact hj) ?_
  rw [hat j hj, List.getElem?_eq_getElem hj, Option.getD_some, he]
  rfl
 ·rw [hsz] at hi
  refine .inr ⟨i, hi, h1, ?_, fun hm => ?_⟩
  ·have hc : s[i] = 58 := by
    rw [hat i hi, List.getElem?_eq_getElem hi, Option.getD_some] at h2
    refine UInt8.toNat_inj.1 ?_
    have e58 : UInt8.toNat 58 = 58 := rfl
    omega
   have := List.take_append_drop i s
   rw [List.drop_eq_getElem_cons hi, hc] at this
   exact this.symm
  ·obtain ⟨j, hj, he⟩ := List.mem_iff_getElem.1 hm
   rw [List.length_drop] at hj
   refine h3 (i + 1 + j) (by omega) (by rw [hsz]; omega) ?_
   rw [hat _ (by omega), List.getElem?_eq_getElem (by omega), Option.getD_some]
   rw [List.getElem_drop] at he
   rw [he]
   rfl
def sgnR (s : List UInt8) : List UInt8 × Bool := if lastC s < 0 then ([], false) else if wordB (s.take (lastC s).toNat) = true then (s.take (lastC s).toNat, (rdH (s.drop ((lastC s).toNat + 1))).2 == 0) else ([], false)
theorem sgn_no {s : List UInt8} (h : lastC s = -1) : sgnR s = ([], false) := by unfold sgnR; rw [if_pos (by omega)]
theorem sgn_w {s : List UInt8} {i : Nat} (h : lastC s = i) (hw : wordB (s.take i) = false) : sgnR s = ([], false) := by
 unfold sgnR; rw [h, if_neg (by omega), Int.toNat_natCast, if_neg (by rw [hw]; simp)]
theorem sgn_y {s : List UInt8} {i : Nat} (h : lastC s = i) (hw : wordB (s.take i) = true) : sgnR s = (s.take i, (rdH (s.drop (i + 1))).2 == 0) := by
 unfold sgnR; rw [h, if_neg (by omega), Int.toNat_natCast, if_pos hw]
theorem sgn_of {l r : List UInt8} (hr : (58 : UInt8) ∉ r) : sgnR (l ++ 58 :: r) = if wordB l = true then (l, (rdH r).2 == 0) else ([], false) := by
 rcases last_cases (l ++ 58 :: r) with ⟨_, h⟩ | ⟨i, hi, h1, h2, h3⟩
 ·exact absurd (by simp) h
 ·have hil : i = l.length := by
   rcases Nat.lt_trichotomy i l.length with h | h | h
   ·refine absurd ?_ h3
    rw [List.drop_append_of_le_length (by omega)]
    simp
   ·exact h
   ·exfalso
    have hlen : (l ++ 58 :: r).length = l.length + 1 + r.length := by simp; omega
    have hg : (l ++ 58 :: r)[i]? = some 58 := by
     have hm : (List.take i (l ++ 58 :: r)).length = i := by rw [List.length_take]; omega
     rw [h2, List.getElem?_append_right (by rw [hm]; exact Nat.le_refl i), hm, Nat.sub_self]
     rfl
    rw [List.getElem?_append_right (by omega)] at hg
    have : i - l.length = (i - l.length - 1) + 1 := by omega
    rw [this, List.getElem?_cons_succ] at hg
    exact hr (List.mem_of_getElem? hg)
  subst hil
  have e1 : (l ++ 58 :: r).take l.length = l := by simp
  have e2 : (l ++ 58 :: r).drop (l.length + 1) = r := by simp
  cases hw : wordB l with
  | true => rw [sgn_y h1 (by rw [e1]; exact hw), e1, e2]; rfl
  | false => rw [sgn_w h1 (by rw [e1]; exact hw)]; rfl
abbrev TS := List (List UInt8 × Par × Nat)
def tsE (ms : TS) : List (List UInt8 × D × Nat) := ms.map fun e => (e.1, .agg e.2.1.cs, e.2.2)
def findT : TS → List UInt8 → Option Par
 | [], _ => none
 | (k, p, _) :: ms, s => if s = k then some p else findT ms s
def setT : TS → List UInt8 → Par → TS
 | [], _, _ => []
 | (k, p, n) :: ms, s, x => if s = k then (k, x, n) :: ms else (k, p, n) :: setT ms s x
def putT (ms : TS) (c : Nat) (s : List UInt8) (x : Par) : TS := match findT ms s with | some _ => setT ms s x | none => ms ++ [(s, x, c)]
def putTC (ms : TS) (c : Nat) (s : List UInt8) : Nat := match findT ms s with | some _ => c | none => c + 1
def delT : TS → List UInt8 → TS
 | [], _ => []
 | (k, p, n) :: ms, s => if s = k then ms else (k, p, n) :: delT ms s
theorem find_ts : ∀ (ms : TS) (s : List UInt8), findM (tsE ms) s = (findT ms s).map fun p => .agg p.cs
 | [], _ => rfl
 | (k, p, n) :: ms, s => by
  show (if s = k then some (D.agg p.cs) else findM (tsE ms) s) = _
  unfold findT
  rw [find_ts ms s]
  split <;> rfl
theorem set_ts : ∀ (ms : TS) (s : List UInt8) (x : Par), setM (tsE ms) s (.agg x.cs) = tsE (setT ms s x)
 | [], _, _ => rfl
 | (k, p, n) :: ms, s, x => by
  show (if s = k then _ else _) = _
  unfold setT
  rw [← tsE, set_ts ms s x]
  split <;> rfl
theorem put_ts (ms : TS) (c : Nat) (s : List UInt8) (x : Par) : putE (tsE ms) c s (.agg x.cs) = tsE (putT ms c s x) := by
 unfold putE putT
 rw [find_ts]
 cases findT ms s with
 | none => simp [tsE]
 | some q => exact set_ts ms s x
theorem putc_ts (ms : TS) (c : Nat) (s : List UInt8) : putC (tsE ms) c s = putTC ms c s := by
 unfold putC putTC
 rw [find_ts]
 cases findT ms s <;> rfl
theorem del_ts : ∀ (ms : TS) (s : List UInt8), delM (tsE ms) s = tsE (delT ms s)
 | [], _ => rfl
 | (k, p, n) :: ms, s => by
  show (if s = k then _ else _) = _
  unfold delT
  rw [← tsE, del_ts ms s]
  split <;> rfl
theorem tsE_len (ms : TS) : (tsE ms).length = ms.length := by simp [tsE]
theorem tsE_clo {S : Nat → Prop} (ms : TS) : ∀ e ∈ tsE ms, Clo S e.2.1 := by
 intro e he
 obtain ⟨x, _, rfl⟩ := List.mem_map.1 he
 simp [Par.cs]
theorem mapneq (b : Nat) : binD Tryz.prog .neq 89 true (.map b) .nilmap = some (pureE (.bool true)) := by
 simp [binD, isEq, eqNil, t_tkD_89]
@[simp] theorem tsE_clo3 {S : Nat → Prop} (ms : TS) : (∀ (a : List UInt8) (d : D) (n : Nat), (a, d, n) ∈ tsE ms → Clo S d) ↔ True := by
 simp only [iff_true]
 exact fun a d n h => tsE_clo ms _ h
set_option maxRecDepth 10000
abbrev s_signer : List Nat := [0, 2, 3, 4, 6, 17]
theorem c_signer (s : List UInt8) (hs : s.length ≤ 1099511627776) : CallP Pr 73 [.str s] (.tup [.str (sgnR s).1, .bool (sgnR s).2]) := by
 refine CallP.W Tryz.func73 Tryz.ntmps73 ?_
 simp only [frameOf]
 refine WP.S s_signer fun _ z => ?_; simp +decide only [TF, ↓reduceIte]; apply z; clear z
 rcases last_cases s with ⟨h, _⟩ | ⟨i, hi, h, hcut, hno⟩
 ·have hl : Lib.lastIndexByte ⟨s.toArray⟩ 58 = -1 := h
  have hR := sgn_no h
  refine WP.S s_signer fun _ z => ?_
  simp +decide only [TF, ↓reduceIte]
  refine CallK.P (lib_lastIndexByte s 58 (by omega)) rfl rfl ?_
  simp +decide only [TF, hl, ↓reduceIte]
  apply z; clear z
  iterate 4 first | (refine WP.S s_signer fun _ z => ?_; simp +decide only [TF, ↓reduceIte]; apply z; clear z) | refine WP.cT ?_ | apply WP.seq
  apply WP.ret
  exact Ends.P (d := .tup [_, _]) rfl (Le.of_eq (by simp +decide only [St.get, lk, W, hR, ↓reduceIte]))
 have hl : Lib.lastIndexByte ⟨s.toArray⟩ 58 = i := h
 have hi0 : decide ((i : Int) < 0) = false := decide_eq_false (by omega)
 have hil : i ≤ s.length := by omega
 have hi1 : i + 1 ≤ s.length := hi
 have hwi : IntKind.wrap .i64 ((i : Int) + 1) = ((i + 1 : Nat) : Int) := by rw [wrap_i64 (by omega) (by omega)]; rfl
 refine WP.S s_signer fun _ z => ?_
 simp +decide only [TF, ↓reduceIte]
 refine CallK.P (lib_lastIndexByte s 58 (by omega)) rfl rfl ?_
 simp +decide only [TF, hl, ↓reduceIte]
 apply z; clear z
 apply WP.seq
 refine WP.S s_signer fun _ z => ?_
 simp +decide only [TF, hi0, hil, ↓reduceIte]
 refine CallK.P (c_word (s.take i) (by simp only [List.length_take]; omega)) rfl rfl ?_
 simp +decide only [TF, ↓reduceIte]
 apply z; clear z
 refine WP.cond rfl (fun q1 => ?_) (fun q1 => ?_)
 ·have hR := sgn_w h (by simpa using q1)
  refine WP.S s_signer fun _ z => ?_; simp +decide only [TF, q1, ↓reduceIte]; apply z; clear z
  apply WP.ret
  exact Ends.P (d := .tup [_, _]) rfl (Le.of_eq (by simp +decide only [St.get, lk, W, hR, ↓reduceIte]))
 have hR := sgn_y h (by simpa using q1)
 apply WP.skip; show WP ..
 refine WP.S s_signer fun _ z => ?_
 simp +decide only [TF, hi1, hwi, q1, ↓reduceIte]
 refine CallK.pure (c_readhex (s.drop (i + 1)) (by simp only [List.length_drop]; omega)) rfl (by simp [fg]) (by simp) ?_
 simp +decide only [TF, rdHD, ↓reduceIte]
 apply z; clear z
 refine WP.S s_signer fun _ z => ?_; simp +decide only [TF, hil, ↓reduceIte]; apply z; clear z
 apply WP.ret
 exact Ends.P (d := .tup [_, _]) rfl (Le.of_eq (by simp +decide only [St.get, lk, W, hR, ↓reduceIte]))
def ZB26 : Blk := .box 26 [.str [], .str [], .slice 0 true [] none, .int .i64 0, .int .i64 0]
theorem copied_freeze (p : Par) (hnk : p.nk = false) (st : St) (h1 : st.get 1 = .ref 0 0) (h2 : st.get 2 = .ref 1 0)
  (hb0 : lk st.σ 0 = some (.box 26 [.str p.id, .str p.addr, .arr 2 6 p.keys.length, .int .i64 p.f, .int .i64 p.u])) (hb1 : lk st.σ 1 = some ZB26) (hb2 : lk st.σ 2 = some (.arr 39 (flatK p.keys))) (hn : ∀ i, 2 < i → lk st.σ i = none) :
  Weak [] st ⟨[(1, .ref 0 0), (2, .ref 1 0)], [(0, .box 26 [.str p.id, .str p.addr, .slice 6 false (p.keys.map Key.cs) none, .int .i64 p.f, .int .i64 p.u]), (1, ZB26)]⟩ := by
 refine Weak.freeze 2 39 6 (p.keys.map Key.cs) hb2 ?_ (by decide) (by simp [lk]) ?_ ?_ ?_
 ·intro x hx
  obtain ⟨k, _, rfl⟩ := List.mem_map.1 hx
  rfl
 ·intro x hx d hd
  obtain ⟨k, hk, rfl⟩ := List.mem_map.1 hx
  exact (clo_keys p.keys).2 trivial k hk d hd
 ·intro q hq
  simp at hq
  rcases hq with rfl | rfl
  ·exact .inl ⟨h1.symm, by rw [h1]; simp⟩
  ·exact .inl ⟨h2.symm, by rw [h2]; simp⟩
 ·intro i hi
  rcases (by omega : i = 0 ∨ i = 1 ∨ 2 < i) with rfl | rfl | h
  ·refine .inr ⟨_, _, hb0, rfl, rfl, ?_⟩
   exact ⟨.inl ⟨rfl, by simp⟩, .inl ⟨rfl, by simp⟩, .inr ⟨by rw [List.length_map], rfl⟩, .inl ⟨rfl, by simp⟩, .inl ⟨rfl, by simp⟩, trivial⟩
  ·refine .inr ⟨_, _, hb1, rfl, rfl, ?_⟩
   exact ⟨.inl ⟨rfl, by simp⟩, .inl ⟨rfl, by simp⟩, .inl ⟨rfl, by simp⟩, .inl ⟨rfl, by simp⟩, .inl ⟨rfl, by simp⟩, trivial⟩
  ·refine .inl ⟨hn i h, ?_⟩
   have e0 : i ≠ 0 := by omega
   have e1 : i ≠ 1 := by omega
   simp [lk, e0, e1]
theorem cells_map (b : Nat) : cells? (.map b) = some [.map b] := rfl
theorem lk_012 {σ : List (Nat × Blk)} {i : Nat} (h : 2 < i) (hσ : (σ.all fun q => decide (q.1 ≤ 2)) = true) : lk σ i = none := by
 induction σ with
 | nil => rfl
 | cons q t ih =>
  obtain ⟨j, x⟩ := q
  simp only [List.all_cons, Bool.and_eq_true, decide_eq_true_eq] at hσ
  rw [lk, if_neg (by omega)]
  exact ih hσ.2
theorem c_copied (p : Par) (hp : p.ok) (hne : p.keys ≠ []) : CallP Pr 72 [.agg [.str p.id, .str p.addr, .slice 6 p.nk (p.keys.map Key.cs) none, .int .i64 p.f, .int .i64 p.u]] (.agg p.cs) := by
 have hnk : p.nk = false := by cases h : p.nk with | false => rfl | true => exact absurd (hp.2.2.2.1 h) hne
 refine CallP.W Tryz.func72 Tryz.ntmps72 ?_
 simp only [frameOf]
 refine WP.S [1, 2] fun _ z => ?_; simp +decide only [TF, hnk, ↓reduceIte]; apply z; clear z
 refine WP.S [1, 2] fun _ z => ?_
 simp +decide only [TF, ↓reduceIte]
 refine CallK.imp (c_clone_at 2 p.keys hne hp.2.2.1) rfl (by simp [fg]) (by simp) (by simp [lk]) (clo_kl _ _) ?_
 simp +decide only [TF, ↓reduceIte]
 apply z; clear z
 refine WP.weak (copied_freeze p hnk _ (by simp [St.get, lk, W]) (by simp [St.get, W]) (by simp [lk]) (by simp [lk, ZB26]) (by simp [lk]) (fun i hi => lk_012 hi rfl)) ?_
 refine WP.S [1, 2] fun _ z => ?_; simp +decide only [TF, ZB26, ↓reduceIte]; apply z; clear z
 apply WP.ret
 exact Ends.pure (.inr rfl) rfl (Le.of_eq (by simp +decide only [W, Pr_prog, sz26, Par.cs, hnk])) (by simp [Par.cs])
theorem c_new : CallE Pr 24 [] [] (.ref 1 0) [(0, .map (tsE []) (0)), (1, .box 91 [.map 0])] := by
 refine CallE.of_wp Tryz.func24 rfl (by kernel_rfl) Tryz.ntmps24 (by simp) ?_
 simp only [frameOf, List.map_nil]
 iterate 2 (refine WP.S [0] fun _ z => ?_; simp +decide only [TF, cells_map, ↓reduceIte]; apply z; clear z)
 apply WP.ret
 refine Ends.imp (.inr rfl) rfl (Le.of_eq (by simp +decide only [St.get, W, ↓reduceIte])) ?_ ?_ ?_
 ·simp [lk]
 ·simp [lk, BClo, tsE]
 simp [lk]
def TS.ok (ms : TS) : Prop := ∀ e ∈ ms, e.2.1.ok ∧ e.2.1.keys ≠ []
theorem findT_mem : ∀ {ms : TS} {s : List UInt8} {a : Par}, findT ms s = some a → ∃ n, (s, a, n) ∈ ms
 | (k, p, n) :: ms, s, a, h => by
  unfold findT at h
  split at h
  ·rename_i e; cases h; subst e; exact ⟨n, by simp⟩
  ·obtain ⟨m, hm⟩ := findT_mem h; exact ⟨m, by simp [hm]⟩
theorem findT_ok {ms : TS} (h : TS.ok ms) {s : List UInt8} {a : Par} (hf : findT ms s = some a) : a.ok ∧ a.keys ≠ [] := by
 obtain ⟨n, hn⟩ := findT_mem hf
 exact h _ hn
theorem put_tsx (ms : TS) (c : Nat) (s : List UInt8) (x : Par) : putE (tsE ms) c s (.agg [.str x.id, .str x.addr, .slice 6 x.nk (x.keys.map Key.cs) none, .int .i64 x.f, .int .i64 x.u]) = tsE (putT ms c s x) := put_ts ms c s x
def anchE (ms : TS) (p : Par) (t : Int) : Int := if (checkP p != 0) = true then checkP p else if decide (p.u ≤ limB t) = true then 13 else if (findT ms p.id).isSome = true then 7 else if decide ((ms.length : Int) ≥ 256) = true then 3 else 0
def anch (ms : TS) (c : Nat) (p : Par) (t : Int) : Int × TS × Nat := if anchE ms p t = 0 then (0, putT ms c p.id p, putTC ms c p.id) else (anchE ms p t, ms, c)
theorem anch_e {ms : TS} {c : Nat} {p : Par} {t e : Int} (h : anchE ms p t = e) (he : e ≠ 0) : anch ms c p t = (e, ms, c) := by unfold anch; rw [if_neg (by rw [h]; exact he), h]
theorem anch_0 {ms : TS} {c : Nat} {p : Par} {t : Int} (h : anchE ms p t = 0) : anch ms c p t = (0, putT ms c p.id p, putTC ms c p.id) := by unfold anch; rw [if_pos h]
theorem check_keys {p : Par} (h : (checkP p != 0) = false) : p.keys ≠ [] := by
 intro hk
 unfold checkP at h
 rw [hk] at h
 repeat' split at h
 all_goals simp_all
def updE (ms : TS) (text sig : List UInt8) (t : Int) : Int :=
 if ((pP text).2.2 != 0) = true then 4 else if (!(sgnR sig).2) = true then 4 else
 match findT ms (pP text).1.id with
 | none => 6
 | some a => if ((accD a.keys (sgnR sig).1 t 0).2 != 0) = true then (accD a.keys (sgnR sig).1 t 0).2 else if (!(sig == sigB (accD a.keys (sgnR sig).1 t 0).1 text)) = true then 17 else if decide ((pP text).1.f ≤ a.f) = true then 12 else 0
def upd (ms : TS) (c : Nat) (text sig : List UInt8) (t : Int) : Int × TS × Nat := if updE ms text sig t = 0 then (0, putT ms c (pP text).1.id (pP text).1, putTC ms c (pP text).1.id) else (updE ms text sig t, ms, c)
theorem upd_e {ms : TS} {c : Nat} {text sig : List UInt8} {t e : Int} (h : updE ms text sig t = e) (he : e ≠ 0) : upd ms c text sig t = (e, ms, c) := by unfold upd; rw [if_neg (by rw [h]; exact he), h]
theorem upd_0 {ms : TS} {c : Nat} {text sig : List UInt8} {t : Int} (h : updE ms text sig t = 0) : upd ms c text sig t = (0, putT ms c (pP text).1.id (pP text).1, putTC ms c (pP text).1.id) := by unfold upd; rw [if_pos h]
def partD (ms : TS) (id : List UInt8) (t : Int) : D := match findT ms id with | none => .tup [zpD, .int .i64 6] | some a => if (chkW a.f a.u t 0 != 0) = true then .tup [zpD, .int .i64 (chkW a.f a.u t 0)] else .tup [.agg a.cs, .int .i64 0]
theorem part_n {ms : TS} {id : List UInt8} {t : Int} (h : findT ms id = none) : partD ms id t = .tup [zpD, .int .i64 6] := by unfold partD; rw [h]
theorem part_e {ms : TS} {id : List UInt8} {t : Int} {a : Par} (h : findT ms id = some a) (he : (chkW a.f a.u t 0 != 0) = true) : partD ms id t = .tup [zpD, .int .i64 (chkW a.f a.u t 0)] := by unfold partD; rw [h]; exact if_pos he
theorem part_0 {ms : TS} {id : List UInt8} {t : Int} {a : Par} (h : findT ms id = some a) (he : (chkW a.f a.u t 0 != 0) = false) : partD ms id t = .tup [.agg a.cs, .int .i64 0] := by unfold partD; rw [h]; exact if_neg (by rw [he]; simp)
@[simp] theorem clo_partD {S : Nat → Prop} (ms : TS) (id : List UInt8) (t : Int) : Clo S (partD ms id t) ↔ True := by
 unfold partD zpD
 split
 ·simp
 ·split <;> simp [Par.cs]
theorem anch_c {ms : TS} {c : Nat} {p : Par} {t : Int} (h : (checkP p != 0) = true) : anch ms c p t = (checkP p, ms, c) := anch_e (by unfold anchE; rw [if_pos h]) (by simpa using h)
theorem anch_13 {ms : TS} {c : Nat} {p : Par} {t : Int} (h : (checkP p != 0) = false) (h2 : decide (p.u ≤ limB t) = true) : anch ms c p t = (13, ms, c) := anch_e (by unfold anchE; rw [if_neg (by rw [h]; simp), if_pos h2]) (by decide)
theorem anch_7 {ms : TS} {c : Nat} {p a : Par} {t : Int} (h : (checkP p != 0) = false) (h2 : decide (p.u ≤ limB t) = false) (h3 : findT ms p.id = some a) : anch ms c p t = (7, ms, c) := anch_e (by unfold anchE; rw [if_neg (by rw [h]; simp), if_neg (by rw [h2]; simp), if_pos (by rw [h3]; rfl)]) (by decide)
theorem anch_3 {ms : TS} {c : Nat} {p : Par} {t : Int} (h : (checkP p != 0) = false) (h2 : decide (p.u ≤ limB t) = false) (h3 : findT ms p.id = none) (h4 : decide ((ms.length : Int) ≥ 256) = true) : anch ms c p t = (3, ms, c) := anch_e (by unfold anchE; rw [if_neg (by rw [h]; simp), if_neg (by rw [h2]; simp), if_neg (by rw [h3]; simp), if_pos h4]) (by decide)
theorem anch_y {ms : TS} {c : Nat} {p : Par} {t : Int} (h : (checkP p != 0) = false) (h2 : decide (p.u ≤ limB t) = false) (h3 : findT ms p.id = none) (h4 : decide ((ms.length : Int) ≥ 256) = false) : anch ms c p t = (0, putT ms c p.id p, putTC ms c p.id) := anch_0 (by unfold anchE; rw [if_neg (by rw [h]; simp), if_neg (by rw [h2]; simp), if_neg (by rw [h3]; simp), if_neg (by rw [h4]; simp)])
theorem upd_4a {ms : TS} {c : Nat} {text sig : List UInt8} {t : Int} (h : ((pP text).2.2 != 0) = true) : upd ms c text sig t = (4, ms, c) := upd_e (by unfold updE; rw [if_pos h]) (by decide)
theorem upd_4b {ms : TS} {c : Nat} {text sig : List UInt8} {t : Int} (h : ((pP text).2.2 != 0) = false) (h2 : (!(sgnR sig).2) = true) : upd ms c text sig t = (4, ms, c) := upd_e (by unfold updE; rw [if_neg (by rw [h]; simp), if_pos h2]) (by decide)
theorem upd_6 {ms : TS} {c : Nat} {text sig : List UInt8} {t : Int} (h : ((pP text).2.2 != 0) = false) (h2 : (!(sgnR sig).2) = false) (h3 : findT ms (pP text).1.id = none) : upd ms c text sig t = (6, ms, c) := upd_e (by unfold updE; rw [if_neg (by rw [h]; simp), if_neg (by rw [h2]; simp), h3]) (by decide)
theorem upd_k {ms : TS} {c : Nat} {text sig : List UInt8} {t : Int} {a : Par} (h : ((pP text).2.2 != 0) = false) (h2 : (!(sgnR sig).2) = false) (h3 : findT ms (pP text).1.id = some a) (h4 : ((accD a.keys (sgnR sig).1 t 0).2 != 0) = true) : upd ms c text sig t = ((accD a.keys (sgnR sig).1 t 0).2, ms, c) :=
 upd_e (by unfold updE; rw [if_neg (by rw [h]; simp), if_neg (by rw [h2]; simp), h3]; exact if_pos h4) (by simpa using h4)
theorem upd_17 {ms : TS} {c : Nat} {text sig : List UInt8} {t : Int} {a : Par} (h : ((pP text).2.2 != 0) = false) (h2 : (!(sgnR sig).2) = false) (h3 : findT ms (pP text).1.id = some a) (h4 : ((accD a.keys (sgnR sig).1 t 0).2 != 0) = false) (h5 : (!(sig == sigB (accD a.keys (sgnR sig).1 t 0).1 text)) = true) : upd ms c text sig t = (17, ms, c) :=
 upd_e (by unfold updE; rw [if_neg (by rw [h]; simp), if_neg (by rw [h2]; simp), h3]; simp only; rw [if_neg (by rw [h4]; simp), if_pos h5]) (by decide)
theorem upd_12 {ms : TS} {c : Nat} {text sig : List UInt8} {t : Int} {a : Par} (h : ((pP text).2.2 != 0) = false) (h2 : (!(sgnR sig).2) = false) (h3 : findT ms (pP text).1.id = some a) (h4 : ((accD a.keys (sgnR sig).1 t 0).2 != 0) = false) (h5 : (!(sig == sigB (accD a.keys (sgnR sig).1 t 0).1 text)) = false) (h6 : decide ((pP text).1.f ≤ a.f) = true) : upd ms c text sig t = (12, ms, c) :=
 upd_e (by unfold updE; rw [if_neg (by rw [h]; simp), if_neg (by rw [h2]; simp), h3]; simp only; rw [if_neg (by rw [h4]; simp), if_neg (by rw [h5]; simp), if_pos h6]) (by decide)
theorem upd_y {ms : TS} {c : Nat} {text sig : List UInt8} {t : Int} {a : Par} (h : ((pP text).2.2 != 0) = false) (h2 : (!(sgnR sig).2) = false) (h3 : findT ms (pP text).1.id = some a) (h4 : ((accD a.keys (sgnR sig).1 t 0).2 != 0) = false) (h5 : (!(sig == sigB (accD a.keys (sgnR sig).1 t 0).1 text)) = false) (h6 : decide ((pP text).1.f ≤ a.f) = false) : upd ms c text sig t = (0, putT ms c (pP text).1.id (pP text).1, putTC ms c (pP text).1.id) :=
 upd_0 (by unfold updE; rw [if_neg (by rw [h]; simp), if_neg (by rw [h2]; simp), h3]; simp only; rw [if_neg (by rw [h4]; simp), if_neg (by rw [h5]; simp), if_neg (by rw [h6]; simp)])
theorem accD_ok : ∀ {l : List Key} {id : List UInt8} {now skew : Int}, (∀ k ∈ l, k.ok) → (accD l id now skew).1.ok
 | [], _, _, _, _ => zeroK_ok
 | k :: t, id, now, skew, h => by
  rw [accD_cons]
  split
  ·split
   ·exact zeroK_ok
   ·exact h k (by simp)
  ·exact accD_ok fun k hk => h k (by simp [hk])
theorem c_made1 (ms : TS) (c : Nat) : CallE Pr 68 [.ref 1 0] [(0, .map (tsE ms) (c)), (1, .box 91 [.map 0])] (.bool true) [(0, .map (tsE ms) (c)), (1, .box 91 [.map 0])] := by
 refine CallE.of_wp Tryz.func68 rfl (by kernel_rfl) Tryz.ntmps68 (by simp) ?_
 simp only [frameOf, List.map_cons, List.map_nil]
 iterate 2 (refine WP.S [0, 2] fun _ z => ?_; simp +decide only [TF, mapneq, ↓reduceIte]; apply z; clear z)
 apply WP.ret
 refine Ends.imp (.inr rfl) rfl (Le.of_eq (by simp +decide only [St.get, W, ↓reduceIte])) ?_ ?_ ?_
 ·simp
 ·simp [lk, BClo]
 simp [lk]
abbrev s_anchor : List Nat := [0, 2, 4, 6, 7, 9, 12, 25, 29, 36, 38]
theorem c_anchor (ms : TS) (c : Nat) (hms : TS.ok ms) (p : Par) (hp : p.ok) (t : Int) : CallE Pr 33 [.ref 1 0, .agg [.str p.id, .str p.addr, .slice 6 p.nk (p.keys.map Key.cs) none, .int .i64 p.f, .int .i64 p.u], .int .i64 t] [(0, .map (tsE ms) (c)), (1, .box 91 [.map 0])] (.int .i64 (anch ms c p t).1) [(0, .map (tsE (anch ms c p t).2.1) ((anch ms c p t).2.2)), (1, .box 91 [.map 0])] := by
 refine CallE.of_wp Tryz.func33 rfl (by kernel_rfl) Tryz.ntmps33 (by simp) ?_
 simp only [frameOf, Nat.reduceAdd, Nat.zero_add, List.map_cons, List.map_nil]
 iterate 2 first | (refine WP.S s_anchor fun _ z => ?_; simp +decide only [TF, ↓reduceIte]; apply z; clear z) | apply WP.seq
 refine WP.S s_anchor fun _ z => ?_
 simp +decide only [TF, ↓reduceIte]
 refine CallK.I (c_made1 ms c) rfl rfl ?_
 simp +decide only [TF, ↓reduceIte]
 apply z; clear z
 iterate 2 first | (apply WP.skip; show WP ..) | refine WP.cF ?_
 refine WP.S s_anchor fun _ z => ?_
 simp +decide only [TF, ↓reduceIte]
 refine CallK.P (c_m_check p hp) rfl rfl ?_
 simp +decide only [TF, ↓reduceIte]
 apply z; clear z
 rcases hF : findT ms p.id with _ | a
 ·iterate 4 first | (refine WP.D s_anchor fun _ z => ?_; simp +decide only [TF, hF, Par.cs, find_ts, ↓reduceIte]; refine z _ _ (by kernel_rfl) ?_; clear z) | (refine WP.S s_anchor fun _ z => ?_; simp +decide only [TF, ↓reduceIte]; apply z; clear z) | apply WP.block | apply WP.seq
  refine WP.cond rfl (fun q1 => ?_) (fun q1 => ?_)
  ·have hR := anch_c (ms := ms) (c := c) (t := t) (by assumption)
   refine WP.S s_anchor fun _ z => ?_; simp +decide only [TF, q1, ↓reduceIte]; apply z; clear z
   apply WP.ret
   refine Ends.imp (.inr rfl) rfl (Le.of_eq (by simp +decide only [St.get, W, hR, ↓reduceIte])) ?_ ?_ ?_
   ·simp
   ·simp [lk, BClo, hR]
   simp [lk]
  refine WP.D s_anchor fun _ z => ?_
  simp +decide only [TF, q1, ↓reduceIte]
  refine CallK.P (c_m_limited t) rfl rfl ?_
  simp +decide only [TF, ↓reduceIte]
  refine z _ _ (by kernel_rfl) ?_; clear z
  refine WP.cond rfl (fun q2 => ?_) (fun q2 => ?_)
  ·have hR := anch_13 (ms := ms) (c := c) (t := t) (by assumption) (by assumption)
   refine WP.S s_anchor fun _ z => ?_; simp +decide only [TF, q2, ↓reduceIte]; apply z; clear z
   apply WP.ret
   refine Ends.imp (.inr rfl) rfl (Le.of_eq (by simp +decide only [St.get, W, hR, ↓reduceIte])) ?_ ?_ ?_
   ·simp
   ·simp [lk, BClo, hR]
   simp [lk]
  iterate 3 first | (refine WP.S s_anchor fun _ z => ?_; simp +decide only [TF, q2, tsE_len, ↓reduceIte]; apply z; clear z) | refine WP.cF ?_
  refine WP.cond rfl (fun q3 => ?_) (fun q3 => ?_)
  ·have hR := anch_3 (ms := ms) (c := c) (t := t) (by assumption) (by assumption) hF (by assumption)
   refine WP.S s_anchor fun _ z => ?_; simp +decide only [TF, q3, ↓reduceIte]; apply z; clear z
   apply WP.ret
   refine Ends.imp (.inr rfl) rfl (Le.of_eq (by simp +decide only [St.get, W, hR, ↓reduceIte])) ?_ ?_ ?_
   ·simp
   ·simp [lk, BClo, hR]
   simp [lk]
  have hR := anch_y (ms := ms) (c := c) (t := t) (by assumption) (by assumption) hF (by assumption)
  apply WP.skip; show WP ..
  refine WP.D s_anchor fun _ z => ?_
  simp +decide only [TF, q3, ↓reduceIte]
  refine CallK.P (c_copied p hp (check_keys (by assumption))) rfl rfl ?_
  simp +decide only [TF, Par.cs, put_tsx, putc_ts, ↓reduceIte]
  refine z _ _ (by kernel_rfl) ?_; clear z
  refine WP.S s_anchor fun _ z => ?_; simp +decide only [TF, ↓reduceIte]; apply z; clear z
  apply WP.ret
  refine Ends.imp (.inr rfl) rfl (Le.of_eq (by simp +decide only [St.get, W, hR, ↓reduceIte])) ?_ ?_ ?_
  ·simp
  ·simp [lk, BClo, hR]
  simp [lk]
 iterate 4 first | (refine WP.D s_anchor fun _ z => ?_; simp +decide only [TF, hF, Par.cs, find_ts, ↓reduceIte]; refine z _ _ (by kernel_rfl) ?_; clear z) | (refine WP.S s_anchor fun _ z => ?_; simp +decide only [TF, ↓reduceIte]; apply z; clear z) | apply WP.block | apply WP.seq
 refine WP.cond rfl (fun q4 => ?_) (fun q4 => ?_)
 ·have hR := anch_c (ms := ms) (c := c) (t := t) (by assumption)
  refine WP.S s_anchor fun _ z => ?_; simp +decide only [TF, q4, ↓reduceIte]; apply z; clear z
  apply WP.ret
  refine Ends.imp (.inr rfl) rfl (Le.of_eq (by simp +decide only [St.get, W, hR, ↓reduceIte])) ?_ ?_ ?_
  ·simp
  ·simp [lk, BClo, hR]
  simp [lk]
 refine WP.D s_anchor fun _ z => ?_
 simp +decide only [TF, q4, ↓reduceIte]
 refine CallK.P (c_m_limited t) rfl rfl ?_
 simp +decide only [TF, ↓reduceIte]
 refine z _ _ (by kernel_rfl) ?_; clear z
 refine WP.cond rfl (fun q5 => ?_) (fun q5 => ?_)
 ·have hR := anch_13 (ms := ms) (c := c) (t := t) (by assumption) (by assumption)
  refine WP.S s_anchor fun _ z => ?_; simp +decide only [TF, q5, ↓reduceIte]; apply z; clear z
  apply WP.ret
  refine Ends.imp (.inr rfl) rfl (Le.of_eq (by simp +decide only [St.get, W, hR, ↓reduceIte])) ?_ ?_ ?_
  ·simp
  ·simp [lk, BClo, hR]
  simp [lk]
 have hR := anch_7 (ms := ms) (c := c) (t := t) (by assumption) (by assumption) hF
 iterate 3 first | (refine WP.S s_anchor fun _ z => ?_; simp +decide only [TF, q5, ↓reduceIte]; apply z; clear z) | refine WP.cT ?_
 apply WP.ret
 refine Ends.imp (.inr rfl) rfl (Le.of_eq (by simp +decide only [St.get, W, hR, ↓reduceIte])) ?_ ?_ ?_
 ·simp
 ·simp [lk, BClo, hR]
 simp [lk]
abbrev s_update : List Nat := [0, 1, 2, 3, 8, 9, 11, 12, 13, 14, 15, 16, 19, 36, 48, 57, 61, 67]
theorem c_update (ms : TS) (c : Nat) (hms : TS.ok ms) (text sig : List UInt8) (ht : text.length ≤ 1099511627776) (hs : sig.length ≤ 1099511627776) (t : Int) : CallE Pr 34 [.ref 1 0, .str text, .str sig, .int .i64 t] [(0, .map (tsE ms) (c)), (1, .box 91 [.map 0])] (.int .i64 (upd ms c text sig t).1) [(0, .map (tsE (upd ms c text sig t).2.1) ((upd ms c text sig t).2.2)), (1, .box 91 [.map 0])] := by
 refine CallE.of_wp Tryz.func34 rfl (by kernel_rfl) Tryz.ntmps34 (by simp) ?_
 simp only [frameOf, Nat.reduceAdd, Nat.zero_add, List.map_cons, List.map_nil]
 iterate 2 first | (refine WP.S s_update fun _ z => ?_; simp +decide only [TF, ↓reduceIte]; apply z; clear z) | apply WP.seq
 refine WP.S s_update fun _ z => ?_
 simp +decide only [TF, ↓reduceIte]
 refine CallK.I (c_made1 ms c) rfl rfl ?_
 simp +decide only [TF, ↓reduceIte]
 apply z; clear z
 iterate 2 first | (apply WP.skip; show WP ..) | refine WP.cF ?_
 refine WP.S s_update fun _ z => ?_
 simp +decide only [TF, ↓reduceIte]
 refine CallK.P (c_m_parse text ht) rfl rfl ?_
 simp +decide only [TF, Par.cs, pPD, ↓reduceIte]
 apply z; clear z
 refine WP.S s_update fun _ z => ?_
 simp +decide only [TF, ↓reduceIte]
 refine CallK.P (c_signer sig hs) rfl rfl ?_
 simp +decide only [TF, ↓reduceIte]
 apply z; clear z
 apply WP.seq
 refine WP.S s_update fun _ z => ?_
 refine runOps.take 3 fun J hJ => ?_
 simp +decide only [TF, ↓reduceIte]
 refine hJ _ _ ?_; clear hJ J
 refine runOps.part 33 rfl (fun q1 => ?_) (fun q1 => ?_)
 ·have hR := upd_4a (ms := ms) (c := c) (text := text) (sig := sig) (t := t) (by assumption)
  simp +decide only [TF, q1, ↓reduceIte]
  apply z; clear z
  iterate 2 first | (refine WP.S s_update fun _ z => ?_; simp +decide only [TF, ↓reduceIte]; apply z; clear z) | refine WP.cT ?_
  apply WP.ret
  refine Ends.imp (.inr rfl) rfl (Le.of_eq (by simp +decide only [St.get, W, hR, ↓reduceIte])) ?_ ?_ ?_
  ·simp
  ·simp [lk, BClo, hR]
  simp [lk]
 have h1 : ((pP text).2.2 != 0) = false := by assumption
 simp +decide only [TF, q1, ↓reduceIte]
 apply z; clear z
 refine WP.cond rfl (fun q2 => ?_) (fun q2 => ?_)
 ·have hR := upd_4b (ms := ms) (c := c) (text := text) (sig := sig) (t := t) h1 (by simp_all)
  refine WP.S s_update fun _ z => ?_; simp +decide only [TF, q2, ↓reduceIte]; apply z; clear z
  apply WP.ret
  refine Ends.imp (.inr rfl) rfl (Le.of_eq (by simp +decide only [St.get, W, hR, ↓reduceIte])) ?_ ?_ ?_
  ·simp
  ·simp [lk, BClo, hR]
  simp [lk]
 have h2 : (!(sgnR sig).2) = false := by simp_all
 apply WP.skip; show WP ..
 rcases hF : findT ms (pP text).1.id with _ | a
 ·have hR := upd_6 (ms := ms) (c := c) (text := text) (sig := sig) (t := t) h1 h2 hF
  iterate 5 first | (refine WP.D s_update fun _ z => ?_; simp +decide only [TF, q2, hF, Par.cs, find_ts, ↓reduceIte]; refine z _ _ (by kernel_rfl) ?_; clear z) | (refine WP.S s_update fun _ z => ?_; simp +decide only [TF, ↓reduceIte]; apply z; clear z) | refine WP.cT ?_ | apply WP.seq
  apply WP.ret
  refine Ends.imp (.inr rfl) rfl (Le.of_eq (by simp +decide only [St.get, W, hR, ↓reduceIte])) ?_ ?_ ?_
  ·simp
  ·simp [lk, BClo, hR]
  simp [lk]
 have ha := findT_ok hms hF
 iterate 5 first | (refine WP.D s_update fun _ z => ?_; simp +decide only [TF, q2, hF, Par.cs, find_ts, ↓reduceIte]; refine z _ _ (by kernel_rfl) ?_; clear z) | (refine WP.S s_update fun _ z => ?_; simp +decide only [TF, ↓reduceIte]; apply z; clear z) | (apply WP.skip; show WP ..) | refine WP.cF ?_ | apply WP.seq
 refine WP.S s_update fun _ z => ?_
 simp +decide only [TF, ↓reduceIte]
 refine CallK.P (c_accepting a.keys a.nk (sgnR sig).1 t 0 ha.1.2.2.1 ha.1.2.2.2.1) rfl rfl ?_
 simp +decide only [TF, ↓reduceIte]
 apply z; clear z
 iterate 3 first | (refine WP.S s_update fun _ z => ?_; simp +decide only [TF, ↓reduceIte]; apply z; clear z) | apply WP.block | apply WP.seq
 refine WP.cond rfl (fun q3 => ?_) (fun q3 => ?_)
 ·have hR := upd_k (ms := ms) (c := c) (text := text) (sig := sig) (t := t) h1 h2 hF (by assumption)
  refine WP.S s_update fun _ z => ?_; simp +decide only [TF, q3, ↓reduceIte]; apply z; clear z
  apply WP.ret
  refine Ends.imp (.inr rfl) rfl (Le.of_eq (by simp +decide only [St.get, W, hR, ↓reduceIte])) ?_ ?_ ?_
  ·simp
  ·simp [lk, BClo, hR]
  simp [lk]
 have h4 : ((accD a.keys (sgnR sig).1 t 0).2 != 0) = false := by assumption
 refine WP.S s_update fun _ z => ?_
 simp +decide only [TF, q3, ↓reduceIte]
 refine CallK.P (c_m_signature (accD a.keys (sgnR sig).1 t 0).1 text (accD_ok ha.1.2.2.2.2) ht) rfl rfl ?_
 simp +decide only [TF, ↓reduceIte]
 apply z; clear z
 refine WP.cond rfl (fun q4 => ?_) (fun q4 => ?_)
 ·have hR := upd_17 (ms := ms) (c := c) (text := text) (sig := sig) (t := t) h1 h2 hF h4 (by assumption)
  refine WP.S s_update fun _ z => ?_; simp +decide only [TF, q4, ↓reduceIte]; apply z; clear z
  apply WP.ret
  refine Ends.imp (.inr rfl) rfl (Le.of_eq (by simp +decide only [St.get, W, hR, ↓reduceIte])) ?_ ?_ ?_
  ·simp
  ·simp [lk, BClo, hR]
  simp [lk]
 have h5 : (!(sig == sigB (accD a.keys (sgnR sig).1 t 0).1 text)) = false := by assumption
 refine WP.S s_update fun _ z => ?_; simp +decide only [TF, q4, ↓reduceIte]; apply z; clear z
 refine WP.cond rfl (fun q5 => ?_) (fun q5 => ?_)
 ·have hR := upd_12 (ms := ms) (c := c) (text := text) (sig := sig) (t := t) h1 h2 hF h4 h5 (by assumption)
  refine WP.S s_update fun _ z => ?_; simp +decide only [TF, q5, ↓reduceIte]; apply z; clear z
  apply WP.ret
  refine Ends.imp (.inr rfl) rfl (Le.of_eq (by simp +decide only [St.get, W, hR, ↓reduceIte])) ?_ ?_ ?_
  ·simp
  ·simp [lk, BClo, hR]
  simp [lk]
 have hR := upd_y (ms := ms) (c := c) (text := text) (sig := sig) (t := t) h1 h2 hF h4 h5 (by assumption)
 iterate 3 first | (refine WP.D s_update fun _ z => ?_; simp +decide only [TF, q5, put_tsx, putc_ts, ↓reduceIte]; refine z _ _ (by kernel_rfl) ?_; clear z) | (refine WP.S s_update fun _ z => ?_; simp +decide only [TF, ↓reduceIte]; apply z; clear z) | (apply WP.skip; show WP ..)
 apply WP.ret
 refine Ends.imp (.inr rfl) rfl (Le.of_eq (by simp +decide only [St.get, W, hR, ↓reduceIte])) ?_ ?_ ?_
 ·simp
 ·simp [lk, BClo, hR]
 simp [lk]
abbrev s_partner1 : List Nat := [0, 1, 2, 6, 7, 8, 9, 10, 13, 25, 32]
theorem c_partner1 (ms : TS) (c : Nat) (hms : TS.ok ms) (s : List UInt8) (t : Int) : CallE Pr 35 [.ref 1 0, .str s, .int .i64 t] [(0, .map (tsE ms) (c)), (1, .box 91 [.map 0])] (partD ms s t) [(0, .map (tsE ms) (c)), (1, .box 91 [.map 0])] := by
 refine CallE.of_wp Tryz.func35 rfl (by kernel_rfl) Tryz.ntmps35 (by simp) ?_
 simp only [frameOf, Nat.reduceAdd, Nat.zero_add, List.map_cons, List.map_nil]
 iterate 2 first | (refine WP.S s_partner1 fun _ z => ?_; simp +decide only [TF, ↓reduceIte]; apply z; clear z) | apply WP.seq
 refine WP.S s_partner1 fun _ z => ?_
 simp +decide only [TF, ↓reduceIte]
 refine CallK.I (c_made1 ms c) rfl rfl ?_
 simp +decide only [TF, ↓reduceIte]
 apply z; clear z
 iterate 2 first | (apply WP.skip; show WP ..) | refine WP.cF ?_
 rcases hF : findT ms s with _ | a
 ·have hR := part_n (t := t) hF
  iterate 5 first | (refine WP.S s_partner1 fun _ z => ?_; simp +decide only [TF, hF, Par.cs, find_ts, ↓reduceIte]; apply z; clear z) | refine WP.cT ?_ | apply WP.seq
  apply WP.ret
  refine Ends.imp (d := .tup [_, _]) (.inr rfl) rfl (Le.of_eq (by rw [hR]; simp +decide only [St.get, W, Pr_prog, sz26, zpD, ↓reduceIte])) ?_ ?_ ?_
  ·simp
  ·simp [lk, BClo]
  simp [lk]
 have ha := findT_ok hms hF
 iterate 6 first | (refine WP.S s_partner1 fun _ z => ?_; simp +decide only [TF, hF, Par.cs, find_ts, ↓reduceIte]; apply z; clear z) | (apply WP.skip; show WP ..) | refine WP.cF ?_ | apply WP.seq
 refine WP.S s_partner1 fun _ z => ?_
 simp +decide only [TF, ↓reduceIte]
 refine CallK.P (c_ck_check a.f a.u t 0) rfl rfl ?_
 simp +decide only [TF, ↓reduceIte]
 apply z; clear z
 refine WP.S s_partner1 fun _ z => ?_; simp +decide only [TF, ↓reduceIte]; apply z; clear z
 refine WP.cond rfl (fun q1 => ?_) (fun q1 => ?_)
 ·have hR := part_e hF q1
  refine WP.S s_partner1 fun _ z => ?_; simp +decide only [TF, q1, ↓reduceIte]; apply z; clear z
  apply WP.ret
  refine Ends.imp (d := .tup [_, _]) (.inr rfl) rfl (Le.of_eq (by rw [hR]; simp +decide only [St.get, W, Pr_prog, sz26, zpD, ↓reduceIte])) ?_ ?_ ?_
  ·simp
  ·simp [lk, BClo]
  simp [lk]
 have hR := part_0 hF q1
 apply WP.skip; show WP ..
 refine WP.S s_partner1 fun _ z => ?_
 simp +decide only [TF, q1, ↓reduceIte]
 refine CallK.P (c_copied a ha.1 ha.2) rfl rfl ?_
 simp +decide only [TF, Par.cs, ↓reduceIte]
 apply z; clear z
 apply WP.ret
 refine Ends.imp (d := .tup [_, _]) (.inr rfl) rfl (Le.of_eq (by rw [hR]; simp +decide only [St.get, W, Pr_prog, sz26, Par.cs, ↓reduceIte])) ?_ ?_ ?_
 ·simp
 ·simp [lk, BClo]
 simp [lk]
theorem c_remove (ms : TS) (c : Nat) (s : List UInt8) : CallE Pr 39 [.ref 1 0, .str s] [(0, .map (tsE ms) (c)), (1, .box 91 [.map 0])] (.bool (findT ms s).isSome) [(0, .map (tsE (delT ms s)) (c)), (1, .box 91 [.map 0])] := by
 refine CallE.of_wp Tryz.func39 rfl (by kernel_rfl) Tryz.ntmps39 (by simp) ?_
 simp only [frameOf, Nat.zero_add, List.map_cons, List.map_nil]
 iterate 2 first | (refine WP.S [0, 1, 4, 6, 9] fun _ z => ?_; simp +decide only [TF, ↓reduceIte]; apply z; clear z) | apply WP.seq
 refine WP.S [0, 1, 4, 6, 9] fun _ z => ?_
 simp +decide only [TF, ↓reduceIte]
 refine CallK.I (c_made1 ms c) rfl rfl ?_
 simp +decide only [TF, ↓reduceIte]
 apply z; clear z
 iterate 2 first | (apply WP.skip; show WP ..) | refine WP.cF ?_
 rcases hF : findT ms s with _ | a
 ·iterate 3 (refine WP.S [0, 1, 4, 6, 9] fun _ z => ?_; simp +decide only [TF, hF, Par.cs, find_ts, del_ts, ↓reduceIte]; apply z; clear z)
  apply WP.ret
  refine Ends.imp (.inr rfl) rfl (Le.of_eq (by simp [St.get, W])) ?_ ?_ ?_
  ·simp
  ·simp [lk, BClo]
  simp [lk]
 iterate 3 (refine WP.S [0, 1, 4, 6, 9] fun _ z => ?_; simp +decide only [TF, hF, Par.cs, find_ts, del_ts, ↓reduceIte]; apply z; clear z)
 apply WP.ret
 refine Ends.imp (.inr rfl) rfl (Le.of_eq (by simp +decide only [St.get, W, ↓reduceIte])) ?_ ?_ ?_
 ·simp
 ·simp [lk, BClo]
 simp [lk]
theorem bl_irrefl : ∀ a : List UInt8, Op.bytesLess a a = false
 | [] => rfl
 | c :: a => by simp [Op.bytesLess, bl_irrefl a]
theorem bl_trans : ∀ a b c : List UInt8, Op.bytesLess a b = true → Op.bytesLess b c = true → Op.bytesLess a c = true
 | _, [], _, h, _ => by simp [Op.bytesLess] at h
 | _, _ :: _, [], _, h => by simp [Op.bytesLess] at h
 | [], _ :: _, _ :: _, _, _ => rfl
 | x :: a, y :: b, z :: c, h, k => by
  simp only [Op.bytesLess, Bool.or_eq_true, decide_eq_true_eq, Bool.and_eq_true, beq_iff_eq] at h k ⊢
  rcases h with h | ⟨rfl, h⟩
  ·rcases k with k | ⟨rfl, k⟩
   ·exact .inl (UInt8.lt_trans h k)
   ·exact .inl h
  ·rcases k with k | ⟨rfl, k⟩
   ·exact .inl k
   ·exact .inr ⟨rfl, bl_trans a b c h k⟩
theorem bl_tri : ∀ a b : List UInt8, Op.bytesLess a b = true ∨ a = b ∨ Op.bytesLess b a = true
 | [], [] => .inr (.inl rfl)
 | [], _ :: _ => .inl rfl
 | _ :: _, [] => .inr (.inr rfl)
 | x :: a, y :: b => by
  simp only [Op.bytesLess, Bool.or_eq_true, decide_eq_true_eq, Bool.and_eq_true, beq_iff_eq, List.cons.injEq]
  rcases Nat.lt_trichotomy x.toNat y.toNat with h | h | h
  ·exact .inl (.inl (UInt8.lt_iff_toNat_lt.2 h))
  ·obtain rfl : x = y := UInt8.toNat_inj.1 h
   rcases bl_tri a b with h | rfl | h
   ·exact .inl (.inr ⟨rfl, h⟩)
   ·exact .inr (.inl ⟨rfl, rfl⟩)
   ·exact .inr (.inr (.inr ⟨rfl, h⟩))
  ·exact .inr (.inr (.inl (UInt8.lt_iff_toNat_lt.2 h)))
theorem bl_asymm (a b : List UInt8) (h : Op.bytesLess a b = true) : Op.bytesLess b a = false := by
 cases hb : Op.bytesLess b a
 ·rfl
 ·have := bl_trans a b a h hb
  rw [bl_irrefl] at this; cases this
theorem bl_ne {a b : List UInt8} (h : Op.bytesLess a b = true) : a ≠ b := by
 rintro rfl; rw [bl_irrefl] at h; cases h
theorem bl_le (a b : List UInt8) : decide (a ≤ b) = !(Op.bytesLess b a) := by
 rw [bytesLess_eq, Bool.eq_iff_iff]
 simp [List.le]
def Asc (l : List (List UInt8)) : Prop := l.Pairwise fun a b => Op.bytesLess a b = true
theorem Asc.nodup {l : List (List UInt8)} (h : Asc l) : l.Nodup := List.Pairwise.imp (fun h => bl_ne h) h
theorem Asc.head {a : List UInt8} {l : List (List UInt8)} (h : Asc (a :: l)) : ∀ x ∈ l, Op.bytesLess a x = true := (List.pairwise_cons.1 h).1
theorem Asc.tail {a : List UInt8} {l : List (List UInt8)} (h : Asc (a :: l)) : Asc l := (List.pairwise_cons.1 h).2
theorem asc_ext : ∀ {l k : List (List UInt8)}, Asc l → Asc k → (∀ x, x ∈ l ↔ x ∈ k) → l = k
 | [], [], _, _, _ => rfl
 | [], b :: k, _, _, h => by have := (h b).2 (by simp); simp at this
 | a :: l, [], _, _, h => by have := (h a).1 (by simp); simp at this
 | a :: l, b :: k, h1, h2, h => by
  have hab : a = b := by
   rcases List.mem_cons.1 ((h a).1 (by simp)) with e | e
   ·exact e
   ·rcases List.mem_cons.1 ((h b).2 (by simp)) with e' | e'
    ·exact e'.symm
    ·have q1 := h2.head a e
     have q2 := h1.head b e'
     rw [bl_asymm _ _ q1] at q2; cases q2
  subst hab
  rw [asc_ext h1.tail h2.tail fun x => ?_]
  constructor
  ·intro hx
   rcases List.mem_cons.1 ((h x).1 (by simp [hx])) with e | e
   ·subst e; have := h1.head x hx; rw [bl_irrefl] at this; cases this
   ·exact e
  ·intro hx
   rcases List.mem_cons.1 ((h x).2 (by simp [hx])) with e | e
   ·subst e; have := h2.head x hx; rw [bl_irrefl] at this; cases this
   ·exact e
def sortS (l : List (List UInt8)) : List (List UInt8) := l.mergeSort fun x y => decide (x ≤ y)
theorem sortS_len (l : List (List UInt8)) : (sortS l).length = l.length := List.length_mergeSort l
theorem sortS_mem (l : List (List UInt8)) (x : List UInt8) : x ∈ sortS l ↔ x ∈ l := List.mem_mergeSort
theorem sortS_perm (l : List (List UInt8)) : (sortS l).Perm l := List.mergeSort_perm l _
theorem sortS_asc {l : List (List UInt8)} (h : l.Nodup) : Asc (sortS l) := by
 have hs : (sortS l).Pairwise fun x y => decide (x ≤ y) = true := by
  refine List.pairwise_mergeSort (fun a b c h k => ?_) (fun a b => ?_) l
  ·rw [bl_le, Bool.not_eq_true'] at h k ⊢
   cases hca : Op.bytesLess c a
   ·rfl
   ·rcases bl_tri b c with q | rfl | q
    ·have := bl_trans b c a q hca; rw [h] at this; cases this
    ·rw [h] at hca; cases hca
    ·rw [k] at q; cases q
  ·rw [bl_le, bl_le]
   cases hba : Op.bytesLess b a
   ·rfl
   ·rw [bl_asymm _ _ hba]; rfl
 have hn : (sortS l).Nodup := (sortS_perm l).nodup_iff.2 h
 refine List.Pairwise.imp₂ (fun a b h1 h2 => ?_) hs hn
 rw [bl_le, Bool.not_eq_true'] at h1
 rcases bl_tri a b with q | q | q
 ·exact q
 ·exact absurd q h2
 ·rw [h1] at q; cases q
theorem sortS_ext {l k : List (List UInt8)} (hl : l.Nodup) (hk : Asc k) (h : ∀ x, x ∈ l ↔ x ∈ k) : sortS l = k := asc_ext (sortS_asc hl) hk fun x => by rw [sortS_mem, h]
abbrev MapE := List (List UInt8 × D × Nat)
structure EsOk (q : MapE × Nat) : Prop where
 keys : (q.1.map (·.1)).Nodup
 born : (q.1.map (·.2.2)).Nodup
 lt : ∀ e ∈ q.1, e.2.2 < q.2
theorem flatS (l : List (List UInt8)) : (l.map fun x => [D.str x]).flatten = l.map .str := by
 induction l with
 | nil => rfl
 | cons a l ih => simp [ih]
theorem fr_sl (t : Nat) (l : List (List UInt8)) : ∀ e ∈ (l.map fun x => [D.str x]), ∀ d ∈ e, Fr t d := by
 simp only [List.mem_map]
 rintro e ⟨x, _, rfl⟩ d hd
 simp only [List.mem_singleton] at hd; subst hd; exact .str _
theorem sl_len (l : List (List UInt8)) : ∀ e ∈ (l.map fun x => [D.str x]), e.length = 1 := by
 simp only [List.mem_map]
 rintro e ⟨x, _, rfl⟩; rfl
theorem sortS_nil : sortS [] = [] := by simp [sortS]
structure MI (es : MapE) (seen : List Nat) (ks : List (List UInt8)) : Prop where
 nodup : ks.Nodup
 old : ∀ k ∈ ks, ∃ d n, (k, d, n) ∈ es ∧ n ∈ seen
 all : ∀ e ∈ es, e.2.2 ∈ seen → e.1 ∈ ks
theorem MI.nil (es : MapE) : MI es [] [] := ⟨by simp, by simp, by simp⟩
theorem nodup_key {es : MapE} (h : (es.map (·.1)).Nodup) {e f : List UInt8 × D × Nat} (he : e ∈ es) (hf : f ∈ es) (hk : e.1 = f.1) : e = f := by
 obtain ⟨i, hi, rfl⟩ := List.mem_iff_getElem.1 he
 obtain ⟨j, hj, rfl⟩ := List.mem_iff_getElem.1 hf
 have := (List.getElem_inj (i := i) (j := j) (h₀ := by simpa using hi) (h₁ := by simpa using hj) h).1 (by simpa using hk)
 subst this; rfl
theorem nodup_born {es : MapE} (h : (es.map (·.2.2)).Nodup) {e f : List UInt8 × D × Nat} (he : e ∈ es) (hf : f ∈ es) (hk : e.2.2 = f.2.2) : e = f := by
 obtain ⟨i, hi, rfl⟩ := List.mem_iff_getElem.1 he
 obtain ⟨j, hj, rfl⟩ := List.mem_iff_getElem.1 hf
 have := (List.getElem_inj (i := i) (j := j) (h₀ := by simpa using hi) (h₁ := by simpa using hj) h).1 (by simpa using hk)
 subst this; rfl
theorem left_mem {es : MapE} {seen : List Nat} {e : List UInt8 × D × Nat} (h : e ∈ leftM es seen) : e ∈ es ∧ e.2.2 ∉ seen := by
 unfold leftM at h
 rw [List.mem_filter] at h
 exact ⟨h.1, by simpa using h.2⟩
theorem MI.next {q : MapE × Nat} (hq : EsOk q) {seen : List Nat} {ks : List (List UInt8)} (h : MI q.1 seen ks) {e : List UInt8 × D × Nat} (he : e ∈ leftM q.1 seen) : MI q.1 (seen ++ [e.2.2]) (ks ++ [e.1]) := by
 obtain ⟨h1, h2⟩ := left_mem he
 refine ⟨?_, fun k hk => ?_, fun f hf hfs => ?_⟩
 ·rw [List.nodup_append]
  refine ⟨h.nodup, by simp, fun a ha b hb => ?_⟩
  simp at hb; subst hb
  rintro rfl
  obtain ⟨d, n, h3, h4⟩ := h.old _ ha
  have := nodup_key hq.keys h1 h3 rfl
  exact h2 (by rw [this]; exact h4)
 ·rcases List.mem_append.1 hk with hk | hk
  ·obtain ⟨d, n, h3, h4⟩ := h.old k hk; exact ⟨d, n, h3, by simp [h4]⟩
  ·simp at hk; subst hk; exact ⟨e.2.1, e.2.2, h1, by simp⟩
 ·rcases List.mem_append.1 hfs with hfs | hfs
  ·exact List.mem_append_left _ (h.all f hf hfs)
  ·simp at hfs
   have := nodup_born hq.born hf h1 hfs
   subst this; simp
theorem left_lt {es : MapE} {seen : List Nat} {e : List UInt8 × D × Nat} (h : e ∈ leftM es seen) : (leftM es (seen ++ [e.2.2])).length < (leftM es seen).length := by
 have e1 : leftM es (seen ++ [e.2.2]) = (leftM es seen).filter fun x => !(x.2.2 == e.2.2) := by
  unfold leftM
  rw [List.filter_filter]
  congr 1; funext x
  simp only [List.contains_eq_mem, List.mem_append, List.mem_singleton]
  by_cases a : x.2.2 ∈ seen <;> by_cases b : x.2.2 = e.2.2 <;> simp [a, b]
 rw [e1, List.length_filter_lt_length_iff_exists]
 exact ⟨e, h, by simp⟩
theorem nodup_len {α : Type} [BEq α] [LawfulBEq α] : ∀ {a b : List α}, a.Nodup → (∀ x ∈ a, x ∈ b) → a.length ≤ b.length
 | [], b, _, _ => by simp
 | x :: a, b, hn, h => by
  rw [List.nodup_cons] at hn
  have h1 := nodup_len (a := a) (b := b.erase x) hn.2 fun y hy => by
   have hxy : y ≠ x := fun e => hn.1 (e ▸ hy)
   exact (List.mem_erase_of_ne hxy).2 (h y (by simp [hy]))
  have h2 := List.length_erase_of_mem (h x (by simp))
  have h3 : 0 < b.length := List.length_pos_of_mem (h x (by simp))
  simp; omega
theorem MI.len {q : MapE × Nat} (hq : EsOk q) {seen : List Nat} {ks : List (List UInt8)} (h : MI q.1 seen ks) : ks.length ≤ q.1.length :=
 by
 rw [← List.length_map (f := fun e : List UInt8 × D × Nat => e.1)]
 exact nodup_len h.nodup fun x hx => by
  obtain ⟨d, n, h1, _⟩ := h.old x hx
  exact List.mem_map.2 ⟨_, h1, rfl⟩
theorem MI.done {q : MapE × Nat} (hq : EsOk q) {seen : List Nat} {ks : List (List UInt8)} (h : MI q.1 seen ks) (hl : leftM q.1 seen = []) : sortS ks = sortS (q.1.map (·.1)) := by
 refine sortS_ext h.nodup (sortS_asc hq.keys) fun x => ?_
 rw [sortS_mem]
 constructor
 ·intro hx
  obtain ⟨d, n, h1, _⟩ := h.old x hx
  exact List.mem_map.2 ⟨_, h1, rfl⟩
 ·intro hx
  obtain ⟨e, he, rfl⟩ := List.mem_map.1 hx
  refine h.all e he ?_
  by_cases hs : e.2.2 ∈ seen
  ·exact hs
  ·exfalso
   have : e ∈ leftM q.1 seen := by unfold leftM; rw [List.mem_filter]; exact ⟨he, by simpa using hs⟩
   rw [hl] at this; simp at this
end Go.Proofs
namespace Go.Proofs
open Go Go.Id Go.Shelf Go.Sort
theorem c_ssort (l : List (List UInt8)) (hn : l.length ≤ 1099511627776) : CallE Pr 69 [.arr 0 1 l.length] [(0, .arr 9 (l.map .str))] (.tup []) [(0, .arr 9 ((sortS l).map .str))] := by
 refine CallE.rows (by simp [sortS_len]) (bodied_of Tryz.func69 (by kernel_rfl) (by kernel_rfl)) fun M γ w vs B cap z us hst hl hr hγ hB hsz hle h1 hrr => ?_
 match vs, hl with
 | [v0], _ =>
  have q0 := hr 0 _ _ rfl rfl
  generalize hv0 : v0 = v0' at q0
  cases q0 with
  | @arr _ B' _ n cap' hγ' hn' =>
   rw [hγ] at hγ'
   cases hγ'
   subst hv0
   rw [List.length_map] at hle h1
   have hget : ∀ (L : List (List UInt8)) (t : Nat) (ht : t < L.length), L.toArray[t]! = L[t] := fun L t ht => by
    rw [getElem!_pos L.toArray t (by simpa using ht)]; simp
   have hH : Holds encStr w B 0 l.toArray := by
    intro t ht
    have ht' : t < l.length := by simpa using ht
    have hlt : t < us.size := by omega
    have hu := Array.getElem?_eq_getElem hlt
    have h3 := hrr t (.str l[t]) _ (by simp [ht']) hu
    have h4 : us[t] = encStr l[t] := by
     generalize us[t] = u at h3
     obtain ⟨s, hs, e⟩ := str_inj h3
     rw [hs, encStr, ← e]
    refine ⟨?_, ?_⟩
    ·rw [cell_of_row w B (0 + t) us 9 _ hB, Nat.zero_add, hu, h4, hget l t ht']
    ·rw [Nat.zero_add]; exact (h1 t _ ht' hu).2
   have hblk : B < w.heap.size := (Array.getElem?_eq_some_iff.1 hB).1
   have hcon := Tryz.slices_Sort_string B 0 cap l w hH hblk (by omega)
   refine hcon.mono ?_
   rintro e w' ⟨rfl, m, os, rfl⟩
   show ∃ v us', _
   have hsA : (sortS l).toArray.size = l.length := by simp [sortS_len]
   change ∃ v us', _ = _ ∧ _ ∧ (grow (putRow encStr (Sort.ahead w m) B 0 (sortS l).toArray) os).heap[B]? = _ ∧ (∀ k, _ → _ → (grow (putRow encStr (Sort.ahead w m) B 0 (sortS l).toArray) os).heap[k]? = _) ∧ _
   have hwB : (grow (putRow encStr (Sort.ahead w m) B 0 (sortS l).toArray) os).heap[B]? = some (.cells (putCells encStr 0 (sortS l).toArray us) 9 (0, 0)) := by
    rw [heap_grow_old _ _ (by rw [size_putRow]; exact hblk)]
    simp only [putRow, mapBlock, Sort.ahead, Array.getElem?_modify, if_true, hB, Option.map_some, onCells]
   have hat : ∀ t (ht : t < l.length), (putCells encStr 0 (sortS l).toArray us)[t]? = some (encStr ((sortS l)[t]'(by rw [sortS_len]; exact ht))) := by
    intro t ht
    have hlt : t < us.size := by omega
    simp only [putCells, Array.getElem?_mapIdx, Array.getElem?_eq_getElem hlt, Option.map_some, Nat.zero_add, Nat.zero_le, true_and, Nat.sub_zero]
    rw [if_pos (by rw [hsA]; exact ht), hget (sortS l) t (by rw [sortS_len]; exact ht)]
   refine ⟨_, putCells encStr 0 (sortS l).toArray us, rfl, by simp [putCells], hwB, fun k hk hkB => ?_, ?_, ⟨rfl, rfl, rfl⟩, fun i v hi hv => ?_, fun i d v hd hv => ?_, .tup rfl (by simp)⟩
   ·rw [heap_grow_old _ _ (by rw [size_putRow]; exact hk)]
    simp only [putRow, mapBlock, Sort.ahead, Array.getElem?_modify, if_neg (Ne.symm hkB)]
   ·have : (putRow encStr (Sort.ahead w m) B 0 (sortS l).toArray).heap.size = w.heap.size := by rw [size_putRow]; rfl
    rw [← this]; simp [grow]
   ·rw [List.length_map] at hi
    rw [hat i hi] at hv
    cases hv
    rfl
   ·have hi : i < l.length := by
     have := (List.getElem?_eq_some_iff.1 hd).1
     rw [List.length_map, sortS_len] at this; exact this
    rw [hat i hi] at hv
    cases hv
    have hi2 : i < (sortS l).length := by rw [sortS_len]; exact hi
    rw [List.getElem?_map, List.getElem?_eq_getElem hi2] at hd
    simp only [Option.map_some, Option.some.injEq] at hd
    subst hd
    have := Rep.str (M := Mall (Pr.base M) γ) (γ := γ) (w := w) ⟨((sortS l)[i]).toArray⟩
    simpa [encStr] using this
theorem c_ssort0 : CallP Pr 69 [.slice 1 true [] none] (.tup []) := CallE.same (bodied_of Tryz.func69 (by kernel_rfl) (by kernel_rfl)) fun M γ w vs hst hl hr => by
 match vs, hl with
 | [v0], _ =>
  have q0 := hr 0 _ _ rfl rfl
  cases q0
  refine (Tryz.slices_Sort_string_none none 0 w).mono ?_
  rintro e w' ⟨rfl, rfl⟩
  exact ⟨_, rfl, rfl, .tup rfl (by simp)⟩
end Go.Proofs
namespace Go.Proofs
open Go Go.Id
theorem ren_str (f : Nat → Nat) (l : List (List UInt8)) : renL f (l.map D.str) = l.map D.str := by
 rw [renL_map]; simp [renD]
theorem c_ssort_at (a : Nat) (l : List (List UInt8)) (hn : l.length ≤ 1099511627776) : CallE Pr 69 [.arr a 1 l.length] [(a, .arr 9 (l.map .str))] (.tup []) [(a, .arr 9 ((sortS l).map .str))] := by
 obtain ⟨f, g, h1, h2⟩ := ren_ex [a] (by simp)
 have := CallE.rename h1 (c_ssort l hn)
 have f0 : f 0 = a := h2 0 a rfl
 simpa [renS, renB, renD, renL, ren_str, f0] using this
def listT (ms : TS) : List (List UInt8) := sortS (ms.map (·.1))
def listD (ms : TS) : D := .slice 1 ms.isEmpty ((listT ms).map fun x => [D.str x]) none
def listE (es : MapE) : D := .slice 1 es.isEmpty ((sortS (es.map (·.1))).map fun x => [D.str x]) none
@[simp] theorem clo_listE {S : Nat → Prop} (es : MapE) : Clo S (listE es) ↔ True := by simp [listE]
@[simp] theorem clo_listD {S : Nat → Prop} (ms : TS) : Clo S (listD ms) ↔ True := by simp [listD]
theorem listE_ts (ms : TS) : listE (tsE ms) = listD ms := by
 have e : (tsE ms).map (·.1) = ms.map (·.1) := by simp [tsE]
 have e2 : (tsE ms).isEmpty = ms.isEmpty := by cases ms <;> rfl
 rw [listE, listD, listT, e, e2]
theorem withV_keys {es : MapE} {vs : List Value} (h : vs.length = es.length) : (withV es vs).map (·.1) = es.map (·.1) := by
 unfold withV
 rw [List.map_map]
 have : ((fun x : List UInt8 × D × Nat => x.1) ∘ fun p : (List UInt8 × D × Nat) × Value => (p.1.1, D.val p.2, p.1.2.2)) = (fun e : List UInt8 × D × Nat => e.1) ∘ Prod.fst := rfl
 rw [this, ← List.map_map, List.map_fst_zip (by omega)]
theorem withV_born {es : MapE} {vs : List Value} (h : vs.length = es.length) : (withV es vs).map (·.2.2) = es.map (·.2.2) := by
 unfold withV
 rw [List.map_map]
 have : ((fun x : List UInt8 × D × Nat => x.2.2) ∘ fun p : (List UInt8 × D × Nat) × Value => (p.1.1, D.val p.2, p.1.2.2)) = (fun e : List UInt8 × D × Nat => e.2.2) ∘ Prod.fst := rfl
 rw [this, ← List.map_map, List.map_fst_zip (by omega)]
theorem EsOk.withV {es : MapE} {c : Nat} (h : EsOk (es, c)) {vs : List Value} (hl : vs.length = es.length) : EsOk (withV es vs, c) := by
 refine ⟨by show ((Go.Id.withV es vs).map _).Nodup; rw [withV_keys hl]; exact h.keys, by show ((Go.Id.withV es vs).map _).Nodup; rw [withV_born hl]; exact h.born, fun e he => ?_⟩
 have : e.2.2 ∈ (Go.Id.withV es vs).map (·.2.2) := List.mem_map_of_mem he
 rw [withV_born hl, List.mem_map] at this
 obtain ⟨f, hf, e2⟩ := this
 have := h.lt f hf
 show e.2.2 < c
 rw [← e2]; exact this
theorem withV_val {es : MapE} {vs : List Value} {a : List UInt8} {d : D} {n : Nat} (h : (a, d, n) ∈ withV es vs) : ∃ v, d = .val v := by
 obtain ⟨p, _, e⟩ := List.mem_map.1 h
 exact ⟨p.2, by cases e; rfl⟩
@[simp] theorem withV_clo3 {S : Nat → Prop} (es : MapE) (vs : List Value) : (∀ (a : List UInt8) (d : D) (n : Nat), (a, d, n) ∈ withV es vs → Clo S d) ↔ True := by
 simp only [iff_true]
 intro a d n h
 obtain ⟨v, rfl⟩ := withV_val h
 simp
@[simp] theorem withV_fr3 (t : Nat) (es : MapE) (vs : List Value) : (∀ (a : List UInt8) (d : D) (n : Nat), (a, d, n) ∈ withV es vs → Fr t d) ↔ True := by
 simp only [iff_true]
 intro a d n h
 obtain ⟨v, rfl⟩ := withV_val h
 exact .val v
theorem fr_map {t b : Nat} (h : b ≠ t) : Fr t (.map b) := .map h
theorem list_done {es : MapE} {ks : List (List UInt8)} (h : sortS ks = sortS (es.map (·.1))) : Le (.slice 1 ks.isEmpty ((sortS ks).map fun x => [D.str x]) none) (listE es) := by
 have e2 : ks.isEmpty = es.isEmpty := by
  have := congrArg List.length h
  rw [sortS_len, sortS_len, List.length_map] at this
  rw [Bool.eq_iff_iff, List.isEmpty_iff_length_eq_zero, List.isEmpty_iff_length_eq_zero, this]
 rw [listE, h, e2]
 exact Le.refl _
set_option maxRecDepth 10000
set_option maxHeartbeats 4000000
theorem c_madeV (es : MapE) (vs : List Value) (c : Nat) : CallE Pr 68 [.ref 1 0] [(0, .map (withV es vs) (c)), (1, .box 91 [.map 0])] (.bool true) [(0, .map (withV es vs) (c)), (1, .box 91 [.map 0])] := by
 refine CallE.of_wp Tryz.func68 rfl (by kernel_rfl) Tryz.ntmps68 (by simp) ?_
 simp only [frameOf, List.map_cons, List.map_nil]
 iterate 2 (refine WP.S [0, 2] fun _ z => ?_; simp +decide only [TF, mapneq, ↓reduceIte]; apply z; clear z)
 apply WP.ret
 refine Ends.imp (.inr rfl) rfl (Le.of_eq (by simp +decide only [St.get, W, ↓reduceIte])) ?_ ?_ ?_
 ·simp
 ·simp [lk, BClo]
 simp [lk]
theorem c_listV (es : MapE) (vs : List Value) (c : Nat) (he : EsOk (withV es vs, c)) (hn : (withV es vs).length ≤ 1099511627776) : CallE Pr 30 [.ref 1 0] [(0, .map (withV es vs) (c)), (1, .box 91 [.map 0])] (listE (withV es vs)) [(0, .map (withV es vs) (c)), (1, .box 91 [.map 0])] := by
 refine CallE.of_wp Tryz.func30 rfl (by kernel_rfl) Tryz.ntmps30 (by simp) ?_
 simp only [frameOf, List.map_cons, List.map_nil]
 refine WP.sr [0] (by kernel_rfl) fun K hK => ?_
 simp (decide := true) only [TF, ↓reduceIte]
 refine hK _ _ ?_; clear hK K
 refine WP.seq ?_
 refine WP.sr [0, 7] (by kernel_rfl) fun K hK => ?_
 simp (decide := true) only [TF, ↓reduceIte]
 refine CallK.imp (c_madeV es vs c) rfl rfl (by simp [lk, BClo]) (by simp [lk]) (by simp [lk]) ?_
 simp (decide := true) only [TF, ↓reduceIte]
 refine hK _ _ ?_; clear hK K
 refine WP.cond (b := false) (by rfl) nofun (fun _ => ?_)
 refine WP.skip ?_
 show WP _ _ _ _ _ _
 refine WP.sr [0, 3] (by kernel_rfl) fun K hK => ?_
 simp (decide := true) only [TF, ↓reduceIte]
 refine hK _ _ ?_; clear hK K
 refine WP.seq ?_
 refine WP.sr [3, 12] (by kernel_rfl) fun K hK => ?_
 simp (decide := true) only [TF, ↓reduceIte]
 refine hK _ _ ?_; clear hK K
 refine WP.block ?_
 refine WP.lp [12] (X := {x : (List Nat) × (List (List UInt8)) // match x with | (seen, ks) => MI (withV es vs) seen ks}) (fun x => match x with | ⟨(seen, ks), _⟩ => [(3, .slice 1 (ks).isEmpty ((ks).map (fun x => [D.str x])) (some 7))]) (fun x => match x with | ⟨(seen, ks), _⟩ => [(7, .tip 9 1 ks.length), (2, .miter 0 c seen c), (0, .map (withV es vs) (c)), (1, .box 91 [.map 0])]) (fun x => match x with | ⟨(seen, ks), _⟩ => (leftM (withV es vs) seen).length) (by simp (decide := true) only [W, ↓reduceIte]; rfl) ?_ ⟨([], []), MI.nil _⟩ ?_
 rotate_left
 · refine Weak.trans (Weak.store (st' := ⟨[(12, .ref 2 0), (3, .slice 0 true [] none)], [(2, .miter 0 c [] c), (0, .map (withV es vs) (c)), (1, .box 91 [.map 0])]⟩) (by simp [St.get, lk, W, Le.refl]) (by simp [lk]) (by simp [lk]) (by simp [BClo, lk]) (by simp [lk])) ?_; refine Weak.trans (Weak.ghost 7 9 1 (F' := [(12, .ref 2 0), (3, .slice 1 true [] (some 7))]) (σ' := [(2, .miter 0 c [] c), (0, .map (withV es vs) (c)), (1, .box 91 [.map 0])]) (by simp [lk]) (by simp [UpF, UpD]) (by simp [UpS, UpB, UpL, UpD])) ?_; exact Weak.store (by simp [St.get, lk, Le.refl]) (by simp [lk]) (by simp [lk]) (by simp [BClo, lk]) (by simp [lk])
 rintro ⟨⟨seen, ks⟩, hM⟩
 dsimp only
 simp only [List.cons_append, List.nil_append]
 dsimp only at hM
 have hks := hM.len he
 change ks.length ≤ (withV es vs).length at hks
 refine WP.seq ?_
 refine WP.regionNext (by kernel_rfl) rfl rfl rfl rfl rfl rfl (fun e h => he.lt e h) (Nat.le_refl _) ?_ ?_
 ·
  intro hl0 K hK
  simp (decide := true) only [TF, ↓reduceIte]
  refine hK _ _ ?_; clear hK K
  show WP _ _ _ _ _ _
  refine WP.seq ?_
  refine WP.cond (b := false) (by rfl) nofun (fun _ => ?_)
  refine WP.exit ?_
  show WP _ _ _ _ _ _
  rcases ks with _ | ⟨a0, k0⟩
  ·
   have hS := hM.done he hl0
   have hL := list_done hS
   rw [sortS_nil] at hL
   refine WP.sr [3] (by kernel_rfl) fun K hK => ?_
   simp (decide := true) only [TF, ↓reduceIte]
   refine CallK.pure (c_ssort0) rfl rfl (by simp [-List.map_take]) ?_
   simp (decide := true) only [TF, ↓reduceIte]
   refine hK _ _ ?_; clear hK K
   refine WP.sr [2] (by kernel_rfl) fun K hK => ?_
   simp (decide := true) only [TF, ↓reduceIte]
   refine hK _ _ ?_; clear hK K
   refine WP.ret ?_
   refine Ends.imp (.inr rfl) rfl ((Le.trans (Le.fg _) hL)) ?_ ?_ ?_
   · simp
   · simp [lk, BClo]
   · simp [lk]
  ·
   have hS := hM.done he hl0
   have hL := list_done hS
   refine WP.weak (st' := ⟨[(3, .slice 1 false ((a0 :: k0).map fun x => [D.str x]) (some 7))], [(7, .tip 9 1 (a0 :: k0).length), (0, .map (withV es vs) (c)), (1, .box 91 [.map 0])]⟩) (Weak.store (by simp [St.get, lk, Le.refl]) (by simp [lk]) (by simp [lk]) (by simp [BClo, lk]) (by simp [lk])) ?_
   refine WP.weak (st' := ⟨[(3, .arr 7 1 (a0 :: k0).length)], [(7, .arr 9 ((a0 :: k0).map .str)), (0, .map (withV es vs) (c)), (1, .box 91 [.map 0])]⟩) ?_ ?_
   ·
    rw [← flatS (a0 :: k0)]
    exact Weak.tipArrE 7 9 1 ((a0 :: k0).map fun x => [D.str x]) 3 (by simp [St.get, lk]) (by simp [lk]) (fr_sl 7 _) (by simp [lk]) (by intro b hb; simp [lk, hb]) (by simp [BFr, fr_map]) (by simp) (by simp [lk, Fixd])
   refine WP.sr [3] (by kernel_rfl) fun K hK => ?_
   simp (decide := true) only [TF, ↓reduceIte]
   refine CallK.imp (c_ssort_at 7 (a0 :: k0) (by omega)) rfl rfl (by simp [lk, BClo]) (by simp [lk]) (by simp [lk]) ?_
   simp (decide := true) only [TF, ↓reduceIte]
   refine hK _ _ ?_; clear hK K
   refine WP.sr [2] (by kernel_rfl) fun K hK => ?_
   simp (decide := true) only [TF, ↓reduceIte]
   refine hK _ _ ?_; clear hK K
   refine WP.weak (st' := ⟨[(2, .slice 1 false ((sortS (a0 :: k0)).map fun x => [D.str x]) (some 7))], [(7, .tip 9 1 (sortS (a0 :: k0)).length), (0, .map (withV es vs) (c)), (1, .box 91 [.map 0])]⟩) ?_ ?_
   ·
    refine Weak.trans (Weak.keep [2]) ?_
    simp only [keep, ins, W, ↓reduceIte, Nat.reduceEqDiff]
    exact Weak.arrTip 7 9 1 ((sortS (a0 :: k0)).map fun x => [D.str x]) 2 (by simp [St.get, lk, sortS_len]) (by simp [lk, flatS]) (sl_len _) (by simp) (by simp (decide := true) [ArF, ArD, sortS_len]) (by simp) (by intro i hi; simp_all [lk]) (by simp [lk]) (by simp [BClo])
   refine WP.ret ?_
   refine Ends.imp (.inr rfl) rfl ((Le.trans (Le.fg _) hL)) ?_ ?_ ?_
   · simp
   · simp [lk, BClo]
   · simp [lk]
 ·
  intro e hel K hK
  simp (decide := true) only [TF, ↓reduceIte]
  refine hK _ _ ?_; clear hK K
  show WP _ _ _ _ _ _
  refine WP.seq ?_
  refine WP.cond (b := true) (by rfl) (fun _ => ?_) nofun
  refine WP.skip ?_
  show WP _ _ _ _ _ _
  refine WP.block ?_
  refine WP.seq ?_
  refine WP.regionEntry (by kernel_rfl) rfl rfl rfl rfl rfl rfl (left_mem hel).1 he.born ?_
  ·
   intro K hK
   simp (decide := true) only [TF, ↓reduceIte]
   refine hK _ _ ?_; clear hK K
   show WP _ _ _ _ _ _
   refine WP.region (by kernel_rfl) fun K hK => ?_
   simp (decide := true) only [TF, ↓reduceIte]
   repeat (refine ⟨⟨by (try simp only [List.length_append, List.length_map, List.length_cons, List.length_nil]); omega, by (try simp only [List.length_append, List.length_map, List.length_cons, List.length_nil]); omega⟩, ?_⟩)
   refine hK _ _ ?_; clear hK K
   show ∃ y, _ ∧ Weak _ _ _
   refine ⟨⟨(seen ++ [e.2.2], ks ++ [e.1]), hM.next he hel⟩, left_lt hel, ?_⟩
   exact Weak.store (by simp [St.get, lk, Le.refl, isE2, -List.append_assoc]) (by simp [lk, -List.append_assoc]) (by simp [lk, -List.map_append, -List.mem_append, -List.append_assoc]) (by simp [BClo, lk]) (by simp [lk])
theorem c_list (ms : TS) (c : Nat) (he : EsOk (tsE ms, c)) (hn : ms.length ≤ 1099511627776) : CallE Pr 30 [.ref 1 0] [(0, .map (tsE ms) (c)), (1, .box 91 [.map 0])] (listD ms) [(0, .map (tsE ms) (c)), (1, .box 91 [.map 0])] := by
 rw [← listE_ts]
 refine CallE.mapVals fun vs hl => ?_
 have := c_listV (tsE ms) vs c (he.withV hl) (by rw [withV_len hl, tsE_len]; exact hn)
 have e : listE (withV (tsE ms) vs) = listE (tsE ms) := by
  have e2 : (withV (tsE ms) vs).isEmpty = (tsE ms).isEmpty := by rw [Bool.eq_iff_iff, List.isEmpty_iff_length_eq_zero, List.isEmpty_iff_length_eq_zero, withV_len hl]
  rw [listE, listE, withV_keys hl, e2]
 rw [e] at this
 exact this
def shG (ls : List (List UInt8)) (n m : Int) : Bool := decide ((ls.length : Int) > n) || ls.any (fun x => decide ((x.length : Int) > m))
theorem eqL {α : Type} [BEq α] [LawfulBEq α] {a b : List α} {k : Nat} (ha : k < a.length) (hb : k < b.length) : (a.drop k == b.drop k) = (a[k] == b[k] && (a.drop (k + 1) == b.drop (k + 1))) := by
 rw [dropE ha, dropE hb]; rfl
theorem eqN {α : Type} [BEq α] [LawfulBEq α] {a b : List α} {k : Nat} (ha : a.length ≤ k) (hb : b.length ≤ k) : (a.drop k == b.drop k) = true := by
 rw [dropN ha, dropN hb]; simp
theorem eqLen {α : Type} [BEq α] [LawfulBEq α] {a b : List α} (h : a.length ≠ b.length) : (a == b) = false := by
 rw [Bool.eq_false_iff]; intro e; rw [beq_iff_eq] at e; exact h (by rw [e])
abbrev s_r2great : List Nat := [0, 1, 2, 6, 7, 11, 15, 24]
theorem c_r2great (ls : List (List UInt8)) (nl : Bool) (n m : Int) (hn : ls.length ≤ 9223372036854775807) (hnl : nl = true → ls = []) : CallP Pr 63 [.slice 1 nl (ls.map fun x => [.str x]) none, .int .i64 n, .int .i64 m] (.bool (shG ls n m)) := by
 refine CallP.W Tryz.func63 Tryz.ntmps63 ?_
 simp only [frameOf, Nat.reduceAdd, Nat.zero_add]
 iterate 3 first | (refine WP.S s_r2great fun _ z => ?_; simp +decide only [TF, ↓reduceIte]; apply z; clear z) | apply WP.seq
 refine WP.cond rfl (fun q1 => ?_) (fun q1 => ?_)
 ·refine WP.S s_r2great fun _ z => ?_; simp +decide only [TF, q1, ↓reduceIte]; apply z; clear z
  apply WP.ret
  exact Ends.P rfl (Le.of_eq (by simp +decide only [St.get, W, shG, q1, ↓reduceIte]))
 iterate 2 first | (apply WP.skip; show WP ..) | apply WP.seq
 refine WP.S [0, 2, 7] fun _ z => ?_; simp +decide only [TF, q1, ↓reduceIte]; apply z; clear z
 apply WP.block
 refine WP.lp [0, 2] (X := {k : Nat // k ≤ ls.length ∧ ls.any (fun x => decide ((x.length : Int) > m)) = (ls.drop k).any (fun x => decide ((x.length : Int) > m))}) (fun x => match x with | ⟨(k), _⟩ => [(7, .int .i64 k)]) (fun x => match x with | ⟨(k), _⟩ => []) (fun x => match x with | ⟨(k), _⟩ => ls.length - k) (by simp +decide only [W, ↓reduceIte]; rfl) ?_ ⟨(0), ⟨Nat.zero_le _, by simp⟩⟩ ?_
 rotate_left
 ·exact Weak.store (by simp [St.get, lk, W, Le.refl]) (by simp [lk]) (by simp [lk]) (by simp [BClo, lk]) (by simp [lk])
 rintro ⟨k, hk, hI⟩
 dsimp only
 simp only [List.cons_append, List.nil_append]
 iterate 2 first | (refine WP.S s_r2great fun _ z => ?_; simp +decide only [TF, ↓reduceIte]; apply z; clear z) | apply WP.seq
 refine WP.cond rfl (fun q2 => ?_) (fun q2 => ?_)
 ·have hlt := lt_of_q q2
  have hg : (ls.map (fun x => [D.str x]))[k]? = some [.str ls[k]] := getM hlt
  have hnf := nl_false hnl hlt
  rw [dropE hlt] at hI
  simp only [List.any_cons] at hI
  iterate 4 first | (refine WP.S s_r2great fun _ z => ?_; simp +decide only [TF, q2, hg, hnf, ↓reduceIte]; apply z; clear z) | (apply WP.skip; show WP ..) | apply WP.block | apply WP.seq
  refine WP.cond rfl (fun q3 => ?_) (fun q3 => ?_)
  ·refine WP.S s_r2great fun _ z => ?_; simp +decide only [TF, q3, ↓reduceIte]; apply z; clear z
   apply WP.ret
   exact Ends.P rfl (Le.of_eq (by simp +decide only [St.get, W, shG, q1, q3, hI, ↓reduceIte]))
  iterate 2 first | (refine WP.R fun _ z => ?_; simp +decide only [TF, q3, ↓reduceIte]; apply z; clear z) | (apply WP.skip; show WP ..)
  show ∃ y, _ ∧ Weak _ _ _
  refine ⟨⟨k + 1, ?_⟩, ?_, ?_⟩
  ·exact ⟨by omega, by first | (simpa [q1, hk, q2, hg, hnf, q3] using hI) | (simp_all; done)⟩
  ·dsimp only; omega
  exact Weak.store (by simp [St.get, lk, Le.refl, hnf, wrapBig hlt (show ls.length ≤ 9223372036854775807 by omega)]) (by simp [lk]) (by simp [lk]) (by simp [BClo, lk]) (by simp [lk])
 have hge := ge_of_q q2
 rw [dropN hge] at hI
 simp only [List.any_nil] at hI
 iterate 2 first | (refine WP.S s_r2great fun _ z => ?_; simp +decide only [TF, q2, ↓reduceIte]; apply z; clear z) | (apply WP.exit; show WP ..)
 apply WP.ret
 exact Ends.P rfl (Le.of_eq (by simp +decide only [St.get, W, shG, q1, hI, ↓reduceIte]))
abbrev s_same2 : List Nat := [0, 1, 4, 5, 10, 14, 25]
theorem c_same2 (a b : List (List UInt8)) (na nb : Bool) (hn : a.length ≤ 1099511627776) (hna : na = true → a = []) (hnb : nb = true → b = []) : CallP Pr 29 [.slice 1 na (a.map fun x => [.str x]) none, .slice 1 nb (b.map fun x => [.str x]) none] (.bool (a == b)) := by
 refine CallP.W Tryz.func29 Tryz.ntmps29 ?_
 simp only [frameOf, Nat.zero_add]
 iterate 3 first | (refine WP.S s_same2 fun _ z => ?_; simp +decide only [TF, ↓reduceIte]; apply z; clear z) | apply WP.seq
 refine WP.cond rfl (fun q1 => ?_) (fun q1 => ?_)
 ·have hX : (a == b) = false := eqLen (fun e => by rw [e] at q1; simp at q1)
  refine WP.S s_same2 fun _ z => ?_; simp +decide only [TF, q1, ↓reduceIte]; apply z; clear z
  apply WP.ret
  exact Ends.P rfl (Le.of_eq (by simp +decide only [St.get, W, hX, ↓reduceIte]))
 have hE : a.length = b.length := by have hq := q1; simp at hq; omega
 iterate 2 first | (apply WP.skip; show WP ..) | apply WP.seq
 refine WP.S [0, 1, 5] fun _ z => ?_; simp +decide only [TF, q1, ↓reduceIte]; apply z; clear z
 apply WP.block
 refine WP.lp [0, 1] (X := {k : Nat // k ≤ a.length ∧ (a == b) = (a.drop k == b.drop k)}) (fun x => match x with | ⟨(k), _⟩ => [(5, .int .i64 k)]) (fun x => match x with | ⟨(k), _⟩ => []) (fun x => match x with | ⟨(k), _⟩ => a.length - k) (by simp +decide only [W, ↓reduceIte]; rfl) ?_ ⟨(0), ⟨Nat.zero_le _, by simp⟩⟩ ?_
 rotate_left
 ·exact Weak.store (by simp [St.get, lk, W, Le.refl]) (by simp [lk]) (by simp [lk]) (by simp [BClo, lk]) (by simp [lk])
 rintro ⟨k, hk, hI⟩
 dsimp only
 simp only [List.cons_append, List.nil_append]
 iterate 2 first | (refine WP.S s_same2 fun _ z => ?_; simp +decide only [TF, ↓reduceIte]; apply z; clear z) | apply WP.seq
 refine WP.cond rfl (fun q2 => ?_) (fun q2 => ?_)
 ·have hlt := lt_of_q q2
  have hlb : k < b.length := by omega
  have hg : (a.map fun x => [D.str x])[k]? = some [.str a[k]] := getM hlt
  have hgb : (b.map fun x => [D.str x])[k]? = some [.str b[k]] := getM hlb
  have hnf := nl_false hna hlt
  have hnfb := nl_false hnb hlb
  rw [eqL hlt hlb] at hI
  iterate 4 first | (refine WP.D s_same2 fun _ z => ?_; simp +decide only [TF, q2, hg, hgb, hnf, hnfb, ↓reduceIte]; refine z _ _ (by kernel_rfl) ?_; clear z) | (apply WP.skip; show WP ..) | apply WP.block | apply WP.seq
  refine WP.cond rfl (fun q3 => ?_) (fun q3 => ?_)
  ·refine WP.S s_same2 fun _ z => ?_; simp +decide only [TF, q3, ↓reduceIte]; apply z; clear z
   apply WP.ret
   exact Ends.P rfl (Le.of_eq (by simp_all [St.get, W, bne]))
  iterate 2 first | (refine WP.R fun _ z => ?_; simp +decide only [TF, q3, ↓reduceIte]; apply z; clear z) | (apply WP.skip; show WP ..)
  show ∃ y, _ ∧ Weak _ _ _
  refine ⟨⟨k + 1, ?_⟩, ?_, ?_⟩
  ·exact ⟨by omega, by first | (simpa [q1, hk, q2, hg, hgb, hnf, hnfb, q3] using hI) | (simp_all; done)⟩
  ·dsimp only; omega
  exact Weak.store (by simp [St.get, lk, Le.refl, hnf, hnfb, wrapS hlt (show a.length ≤ 140737488355328 by omega)]) (by simp [lk]) (by simp [lk]) (by simp [BClo, lk]) (by simp [lk])
 have hge := ge_of_q q2
 rw [eqN hge (by omega)] at hI
 iterate 2 first | (refine WP.S s_same2 fun _ z => ?_; simp +decide only [TF, q2, ↓reduceIte]; apply z; clear z) | (apply WP.exit; show WP ..)
 apply WP.ret
 exact Ends.P rfl (Le.of_eq (by simp +decide only [St.get, W, hI, ↓reduceIte]))
set_option maxRecDepth 20000
def kI : Key := ⟨[107, 49], [115], 0, 50, 0, 80⟩
def idW3 : List UInt8 := [105, 100, 112]
def adI : List UInt8 := [104, 116, 116, 112, 115, 58, 47, 47, 105, 100, 112]
def idP (n : Int) : Par := ⟨idW3, adI, [kI], false, n, 100⟩
def T0 : List UInt8 := [105, 100, 32, 105, 100, 112, 10, 97, 100, 100, 114, 101, 115, 115, 32, 104, 116, 116, 112, 115, 58, 47, 47, 105, 100, 112, 10, 118, 97, 108, 105, 100, 32, 48, 32, 49, 48, 48, 10, 107, 101, 121, 32, 107, 49, 32, 115, 32, 48, 32, 53, 48, 32, 48, 32, 56, 48, 10]
def T1 : List UInt8 := [105, 100, 32, 105, 100, 112, 10, 97, 100, 100, 114, 101, 115, 115, 32, 104, 116, 116, 112, 115, 58, 47, 47, 105, 100, 112, 10, 118, 97, 108, 105, 100, 32, 49, 32, 49, 48, 48, 10, 107, 101, 121, 32, 107, 49, 32, 115, 32, 48, 32, 53, 48, 32, 48, 32, 56, 48, 10]
theorem idP_ok (n : Int) : (idP n).ok := ⟨by simp [idP, idW3], by simp [idP, adI], by simp [idP], nofun, by simp [idP, kI, Key.ok]⟩
theorem itoa_lit : Lib.itoa 0 = [48] ∧ Lib.itoa 1 = [49] ∧ Lib.itoa 50 = [53, 48] ∧ Lib.itoa 80 = [56, 48] ∧ Lib.itoa 100 = [49, 48, 48] := by
 refine ⟨?_, ?_, ?_, ?_, ?_⟩ <;> simp [Lib.itoa, Lib.decDigits]
theorem check_id (n : Int) (h : n = 0 ∨ n = 1) : checkP (idP n) = 0 := by
 rcases h with rfl | rfl <;> decide
theorem lines_id0 : linesP (idP 0) = T0 := by
 obtain ⟨h0, h1, h50, h80, h100⟩ := itoa_lit
 simp only [linesP, headP, idP, List.flatMap_cons, List.flatMap_nil, keyL, lineB, lineW, kI, h0, h50, h80, h100]
 rfl
theorem lines_id1 : linesP (idP 1) = T1 := by
 obtain ⟨h0, h1, h50, h80, h100⟩ := itoa_lit
 simp only [linesP, headP, idP, List.flatMap_cons, List.flatMap_nil, keyL, lineB, lineW, kI, h0, h1, h50, h80, h100]
 rfl
theorem text_id0 : textP (idP 0) = (T0, 0) := by
 unfold textP
 rw [check_id 0 (.inl rfl), lines_id0]
 rfl
theorem text_id1 : textP (idP 1) = (T1, 0) := by
 unfold textP
 rw [check_id 1 (.inr rfl), lines_id1]
 rfl
theorem parse_id0 : pP T0 = (idP 0, 0, 0) := by
 have := pP_lines (p := idP 0) (check_id 0 (.inl rfl)) (by rw [lines_id0]; decide)
 rw [lines_id0] at this
 exact this
theorem parse_id1 : pP T1 = (idP 1, 0, 0) := by
 have := pP_lines (p := idP 1) (check_id 1 (.inr rfl)) (by rw [lines_id1]; decide)
 rw [lines_id1] at this
 exact this
theorem parse_nil : pP [] = (zeroP, 1, 4) := rfl
def M1 : TS := [(idW3, idP 0, 0)]
def M2 : TS := [(idW3, idP 1, 0)]
theorem nil_ok : TS.ok [] := by simp [TS.ok]
theorem M1_ok : TS.ok M1 := by
 intro e he
 rw [List.mem_singleton.1 he]
 exact ⟨idP_ok 0, by simp [idP]⟩
theorem M2_ok : TS.ok M2 := by
 intro e he
 rw [List.mem_singleton.1 he]
 exact ⟨idP_ok 1, by simp [idP]⟩
theorem live_anch : anch [] 0 (idP 0) 5 = (0, M1, 1) := anch_y (by rw [check_id 0 (.inl rfl)]; rfl) (by decide) rfl rfl
theorem sg_live : sgK [kI] 10 = kI := by kernel_rfl
theorem eq_live : eqK (sgK [kI] 10) zeroK = false := by kernel_rfl
def sigI : List UInt8 := sigB kI T1
theorem sign_live : signP [kI] T1 10 = (sigI, 0) := by
 unfold signP
 rw [eq_live, sg_live, if_neg (by simp)]
 rfl
theorem hex_no (n : Int) : ∀ k : Nat, (58 : UInt8) ∉ hexR n k
 | 0 => by simp [hexR]
 | k + 1 => by
  have key : ∀ d : Fin 16, digB d.val ≠ 58 := by decide
  have h1 := key ⟨hdN n k, hdN_lt n k⟩
  simp only [hexR, List.mem_cons, not_or]
  exact ⟨fun e => h1 e.symm, hex_no n k⟩
theorem sgn_live : sgnR sigI = ([107, 49], true) := by
 have e : sigI = [107, 49] ++ 58 :: macB [115] T1 := by simp [sigI, sigB, kI]
 rw [e, sgn_of (by unfold macB txtB; exact hex_no _ _)]
 have hw : wordB [107, 49] = true := by decide
 rw [if_pos hw]
 have hr : rdH (macB [115] T1) = (sumU (preM [115] ++ txtB (preM [115] ++ T1)), 0) := rdH_hex (sumU_rng _).1 (sumU_rng _).2
 rw [hr]
 rfl
theorem sgn_x : sgnR [120] = ([], false) := by kernel_rfl
theorem acc_live : accD [kI] [107, 49] 10 0 = (kI, 0) := by kernel_rfl
theorem upd_live1 : upd M1 1 T1 sigI 10 = (0, M2, 1) := by
 have h := upd_y (ms := M1) (c := 1) (text := T1) (sig := sigI) (t := 10) (a := idP 0) (by rw [parse_id1]; rfl) (by rw [sgn_live]; rfl) (by rw [parse_id1]; rfl)
  (by rw [sgn_live]; show ((accD [kI] [107, 49] 10 0).2 != 0) = false; rw [acc_live]; rfl)
  (by rw [sgn_live]; show (!(sigI == sigB (accD [kI] [107, 49] 10 0).1 T1)) = false; rw [acc_live]; simp [sigI]) (by rw [parse_id1]; rfl)
 rw [h, parse_id1]
 rfl
theorem upd_live2 : upd M2 1 T1 sigI 10 = (12, M2, 1) :=
 upd_12 (a := idP 1) (by rw [parse_id1]; rfl) (by rw [sgn_live]; rfl) (by rw [parse_id1]; rfl)
  (by rw [sgn_live]; show ((accD [kI] [107, 49] 10 0).2 != 0) = false; rw [acc_live]; rfl)
  (by rw [sgn_live]; show (!(sigI == sigB (accD [kI] [107, 49] 10 0).1 T1)) = false; rw [acc_live]; simp [sigI]) (by rw [parse_id1]; rfl)
theorem upd_live3 : upd M2 1 T1 [120] 10 = (4, M2, 1) := upd_4b (by rw [parse_id1]; rfl) (by rw [sgn_x]; rfl)
theorem part_live1 : partD M2 idW3 99 = .tup [.agg (idP 1).cs, .int .i64 0] := part_0 (a := idP 1) rfl (by decide)
theorem part_live2 : partD M2 idW3 100 = .tup [zpD, .int .i64 13] := part_e (a := idP 1) rfl (by decide)
theorem sameK_refl : ∀ l : List Key, sameK l l = true
 | [] => rfl
 | k :: l => by
  show (eqK k k && sameK l l) = true
  rw [sameK_refl l, (eqK_iff k k).2 rfl]; rfl
theorem sameP_refl (p : Par) : sameP p p = true := by simp [sameP, sameK_refl]
theorem list_live : listD M2 = .slice 1 false ([idW3].map fun x => [D.str x]) none := by
 have : listT M2 = [idW3] := by simp [listT, M2, sortS]
 rw [listD, this]
 rfl
theorem es_live : EsOk (tsE M2, 1) := ⟨by simp [tsE, M2], by simp [tsE, M2], by simp [tsE, M2]⟩
theorem live_eq0 : (T0 == [105, 100, 32, 105, 100, 112, 10, 97, 100, 100, 114, 101, 115, 115, 32, 104, 116, 116, 112, 115, 58, 47, 47, 105, 100, 112, 10, 118, 97, 108, 105, 100, 32, 48, 32, 49, 48, 48, 10, 107, 101, 121, 32, 107, 49, 32, 115, 32, 48, 32, 53, 48, 32, 48, 32, 56, 48, 10]) = true := by rfl
theorem live_sg : (sigI == 107 :: 49 :: 58 :: macB [115] T1) = true := by simp [sigI, sigB, kI]
theorem M2_find : (findT M2 idW3).isSome = true := rfl
theorem M2_del : delT M2 idW3 = [] := rfl
theorem nil_find : (findT [] idW3).isSome = false := rfl
set_option maxRecDepth 10000
theorem c_idp (n : Int) : CallP Pr 38 [.int .i64 n] (.agg (idP n).cs) := by
 refine CallP.W Tryz.func38 Tryz.ntmps38 ?_
 simp only [frameOf]
 iterate 3 (refine WP.S [0, 2, 3] fun _ z => ?_; simp +decide only [TF, ↓reduceIte]; apply z; clear z)
 apply WP.ret
 exact Ends.pure (.inr rfl) rfl (Le.trans (Le.fg _) (Le.of_eq (by simp +decide only [W, Pr_prog, sz26, fg, fg0, Par.cs, idP, idW3, adI, kI, Key.cs]))) (by simp [idP, Par.cs, Key.cs, kI])
set_option maxHeartbeats 16000000
set_option maxRecDepth 200000
abbrev s_live : List Nat := [0, 1, 2, 3, 4, 5, 6, 8, 9, 10, 11, 12, 13, 14, 15, 16, 17, 18, 19, 21, 24]
theorem c_live : CallP Pr 12 [] (.bool true) := by
 refine CallP.W Tryz.func12 Tryz.ntmps12 ?_
 simp only [frameOf]
 refine WP.S s_live fun _ z => ?_; simp +decide only [TF, ↓reduceIte]; apply z; clear z
 refine WP.S s_live fun _ z => ?_
 simp +decide only [TF, ↓reduceIte]
 refine CallK.I (c_new) rfl rfl ?_
 simp +decide only [TF, ↓reduceIte]
 apply z; clear z
 iterate 4 first | (refine WP.S s_live fun _ z => ?_; simp +decide only [TF, ↓reduceIte]; apply z; clear z) | (apply WP.skip; show WP ..) | refine WP.cF ?_ | apply WP.seq
 refine WP.S s_live fun _ z => ?_
 simp +decide only [TF, ↓reduceIte]
 refine CallK.pure (c_idp 0) rfl rfl (by simp [idP]) ?_
 simp +decide only [TF, Par.cs, ↓reduceIte]
 refine CallK.pure (c_m_text (idP 0) (idP_ok 0)) rfl rfl (by simp [idP, Key.cs, kI]) ?_
 simp +decide only [TF, text_id0, ↓reduceIte]
 apply z; clear z
 refine WP.S s_live fun _ z => ?_
 simp +decide only [TF, ↓reduceIte]
 refine CallK.pure (c_m_parse T0 (by decide)) rfl rfl (by simp [idP]) ?_
 simp +decide only [TF, parse_id0, pPD, Par.cs, ↓reduceIte]
 apply z; clear z
 refine WP.S s_live fun _ z => ?_
 simp +decide only [TF, ↓reduceIte]
 refine CallK.pure (c_m_parse [] (by decide)) rfl rfl (by simp [idP]) ?_
 simp +decide only [TF, parse_nil, pPD, Par.cs, ↓reduceIte]
 apply z; clear z
 refine WP.S s_live fun _ z => ?_
 simp +decide only [TF, ↓reduceIte]
 refine CallK.pure (c_idp 0) rfl rfl (by simp [idP]) ?_
 simp +decide only [TF, Par.cs, ↓reduceIte]
 refine CallK.I (c_anchor [] 0 nil_ok (idP 0) (idP_ok 0) 5) rfl rfl ?_
 simp +decide only [TF, live_anch, ↓reduceIte]
 apply z; clear z
 refine WP.S s_live fun _ z => ?_
 simp +decide only [TF, ↓reduceIte]
 refine CallK.pure (c_idp 1) rfl rfl (by simp [idP]) ?_
 simp +decide only [TF, Par.cs, ↓reduceIte]
 refine CallK.pure (c_m_text (idP 1) (idP_ok 1)) rfl rfl (by simp [idP, Key.cs, kI]) ?_
 simp +decide only [TF, text_id1, ↓reduceIte]
 apply z; clear z
 refine WP.S s_live fun _ z => ?_
 simp +decide only [TF, ↓reduceIte]
 refine CallK.pure (c_idp 0) rfl rfl (by simp [idP]) ?_
 simp +decide only [TF, Tryz.underlying26, Par.cs, ↓reduceIte]
 refine CallK.pure (c_m_sign [kI] false (by decide) nofun (by simp [kI, Key.ok]) T1 (by decide) 10) rfl rfl (by simp [Key.cs, kI]) ?_
 simp +decide only [TF, sign_live, ↓reduceIte]
 apply z; clear z
 refine WP.S s_live fun _ z => ?_
 simp +decide only [TF, ↓reduceIte]
 refine CallK.I (c_update M1 1 M1_ok T1 sigI (by decide) (by decide) 10) rfl rfl ?_
 simp +decide only [TF, upd_live1, ↓reduceIte]
 apply z; clear z
 refine WP.S s_live fun _ z => ?_
 simp +decide only [TF, ↓reduceIte]
 refine CallK.I (c_update M2 1 M2_ok T1 sigI (by decide) (by decide) 10) rfl rfl ?_
 simp +decide only [TF, upd_live2, ↓reduceIte]
 apply z; clear z
 refine WP.S s_live fun _ z => ?_
 simp +decide only [TF, ↓reduceIte]
 refine CallK.I (c_update M2 1 M2_ok T1 [120] (by decide) (by decide) 10) rfl rfl ?_
 simp +decide only [TF, upd_live3, ↓reduceIte]
 apply z; clear z
 refine WP.S s_live fun _ z => ?_
 simp +decide only [TF, ↓reduceIte]
 refine CallK.I (c_partner1 M2 1 M2_ok idW3 99) rfl rfl ?_
 simp +decide only [TF, part_live1, Par.cs, ↓reduceIte]
 apply z; clear z
 refine WP.S s_live fun _ z => ?_
 simp +decide only [TF, ↓reduceIte]
 refine CallK.I (c_partner1 M2 1 M2_ok idW3 100) rfl rfl ?_
 simp +decide only [TF, part_live2, zpD, ↓reduceIte]
 apply z; clear z
 refine WP.D s_live fun _ z => ?_
 simp +decide only [TF, live_eq0, ↓reduceIte]
 refine CallK.pure (c_idp 0) rfl rfl (by simp [idP]) ?_
 simp +decide only [TF, Par.cs, ↓reduceIte]
 refine CallK.pure (c_r_same43 (idP 0) (idP 0) (idP_ok 0) (idP_ok 0)) rfl rfl (by simp [idP, Key.cs, kI]) ?_
 simp +decide only [TF, sameP_refl, ↓reduceIte]
 refine CallK.pure (c_mac [115] T1 (by decide) (by decide)) rfl rfl (by simp [idP]) ?_
 simp +decide only [TF, live_sg, ↓reduceIte]
 refine CallK.pure (c_idp 1) rfl rfl (by simp [idP]) ?_
 simp +decide only [TF, Par.cs, ↓reduceIte]
 refine CallK.pure (c_r_same43 (idP 1) (idP 1) (idP_ok 1) (idP_ok 1)) rfl rfl (by simp [idP, Key.cs, kI]) ?_
 simp +decide only [TF, sameP_refl, ↓reduceIte]
 refine CallK.I (c_list M2 1 es_live (by decide)) rfl rfl ?_
 simp +decide only [TF, list_live, ↓reduceIte]
 refine CallK.pure (c_same2 [idW3] [idW3] false false (by decide) nofun nofun) rfl rfl (by simp [idP]) ?_
 simp +decide only [TF, ↓reduceIte]
 refine CallK.I (c_remove M2 1 idW3) rfl rfl ?_
 simp +decide only [TF, M2_find, M2_del, ↓reduceIte]
 refine CallK.I (c_remove [] 1 idW3) rfl rfl ?_
 simp +decide only [TF, nil_find, ↓reduceIte]
 refine z _ _ (by kernel_rfl) ?_; clear z
 apply WP.ret
 exact Ends.P rfl (Le.of_eq (by simp +decide only [St.get, W, ↓reduceIte]))
theorem greatB_no {l : List Key} {n : Nat} (h : greatB l (n : Int) = false) : l.length ≤ n ∧ ∀ k ∈ l, k.ok := by
 simp only [greatB, Bool.or_eq_false_iff, decide_eq_false_iff_not, List.any_eq_false] at h
 refine ⟨by omega, fun k hk => ?_⟩
 have := h.2 k hk
 simp only [Bool.or_eq_true, decide_eq_true_eq, not_or] at this
 unfold Key.ok; omega
theorem great_p {p : Par} (hnl : p.nk = true → p.keys = []) (h : greatP p = false) : p.ok ∧ p.id.length ≤ 300 ∧ p.addr.length ≤ 300 ∧ p.keys.length ≤ 20 := by
 unfold greatP at h
 simp only [Bool.or_eq_false_iff, decide_eq_false_iff_not] at h
 obtain ⟨h1, h2⟩ := greatB_no (n := 20) h.2
 exact ⟨⟨by omega, by omega, by omega, hnl, h2⟩, by omega, by omega, h1⟩
theorem text_len (p : Par) : (textP p).1.length ≤ 4096 := by
 unfold textP
 split
 ·simp
 ·split
  ·simp
  ·rename_i h; simp at h; simp only; omega
theorem loopP_ok : ∀ (ls : Wds) (n : Nat) (p : Par), p.ok → p.keys.length + ls.length ≤ 4097 → (∀ l ∈ ls, l.length ≤ 4096) → (loopP n p ls).1.ok := by
 have fin : ∀ (n : Nat) (p : Par), p.ok → (finP n p).1.ok := by
  intro n p hp
  unfold finP
  split
  ·exact zeroP_ok
  ·split
   ·exact zeroP_ok
   ·exact hp
 intro ls
 induction ls with
 | nil => intro n p hp _ _; rw [loopP]; exact fin n p hp
 | cons l t ih =>
  intro n p hp hk hl
  cases t with
  | nil =>
   rw [loopP]
   split
   ·exact fin n p hp
   ·exact zeroP_ok
  | cons m t =>
   rw [loopP]
   simp only [List.length_cons] at hk
   split
   ·obtain ⟨a1, a2⟩ := stP_ok (n := n) (l := l) hp (by omega) (hl l (by simp))
    exact ih _ _ a1 (by simp only [List.length_cons]; omega) fun x hx => hl x (List.mem_cons_of_mem _ hx)
   ·exact zeroP_ok
theorem pP_ok (s : List UInt8) : (pP s).1.ok := by
 unfold pP
 split
 ·exact zeroP_ok
 ·rename_i h
  have hz : zeroP.keys.length = 0 := rfl
  have := (cutA_len 10 s []).1
  exact loopP_ok _ _ _ zeroP_ok (by omega) fun l hl => Nat.le_trans (cutA_mem 10 s [] l hl) (by simp; omega)
theorem parse_textP {s : List UInt8} (h : ((pP s).2.2 != 0) = false) : textP (pP s).1 = (s, 0) ∧ checkP (pP s).1 = 0 := by
 have hz : (pP s).2.2 = 0 := by simpa using h
 have e : pP s = ((pP s).1, (pP s).2.1, 0) := by rw [← hz]
 obtain ⟨h1, h2, h3, h4, h5⟩ := lines_pP e
 refine ⟨?_, h2⟩
 unfold textP
 rw [h2, h3, if_neg (by simp), if_neg (by simp; omega)]
end Go.Proofs
