import Derived.Test.YthepmnlpfhmddaaGreatDoorG06
import Derived.Test.YthepmnlpfhmddaaGreatDoorG03
import Derived.Test.YthepmnlpfhmddaaGreatDoorG02
import Derived.Lib.SplitLaws
import Derived.Lib.Join
import Derived.Lib.ItoaLen
set_option linter.unusedVariables false
set_option linter.unusedSimpArgs false
set_option linter.unnecessarySimpa false
namespace Go.Proofs
open Go Go.Id
def all2 {α β : Type} (p : α → β → Bool) : List α → List β → Bool
 | [], [] => true
 | x :: a, y :: b => p x y && all2 p a b
 | _, _ => false
theorem all2_len {α β : Type} (p : α → β → Bool) : ∀ (a : List α) (b : List β), a.length ≠ b.length → all2 p a b = false
 | [], [], h => absurd rfl h
 | x :: a, y :: b, h => by
  rw [all2, all2_len p a b (by simpa using h), Bool.and_false]
 | [], _ :: _, _ => rfl
 | _ :: _, [], _ => rfl
theorem all2_cons {α β : Type} (p : α → β → Bool) (x : α) (a : List α) (y : β) (b : List β) : all2 p (x :: a) (y :: b) = (p x y && all2 p a b) := rfl
theorem all2_nil {α β : Type} (p : α → β → Bool) : all2 p ([] : List α) ([] : List β) = true := rfl
def ixP {α : Type} (p : α → Bool) : List α → Int → Int
 | [], _ => -1
 | x :: l, i => if p x then i else ixP p l (i + 1)
theorem ixP_any {α : Type} (p : α → Bool) : ∀ (l : List α) (i : Int), 0 ≤ i → decide (ixP p l i ≥ 0) = l.any p
 | [], i, _ => by simp [ixP]
 | x :: l, i, hi => by
  have ih := ixP_any p l (i + 1) (by omega)
  by_cases h : p x = true
  ·have e : ixP p (x :: l) i = i := by simp [ixP, h]
   simp only [e, List.any_cons, h, Bool.true_or]; simp; omega
  ·have e : ixP p (x :: l) i = ixP p l (i + 1) := by simp [ixP, h]
   simp only [e, ih, List.any_cons]; simp [h]
theorem ixP_any0 {α : Type} (p : α → Bool) (l : List α) : decide (ixP p l 0 ≥ 0) = l.any p := ixP_any p l 0 (Int.le_refl 0)
structure Key where
 id : List UInt8
 sec : List UInt8
 sf : Int
 su : Int
 af : Int
 au : Int
def Key.cs (k : Key) : List D := [.str k.id, .str k.sec, .int .i64 k.sf, .int .i64 k.su, .int .i64 k.af, .int .i64 k.au]
def zeroK : Key := ⟨[], [], 0, 0, 0, 0⟩
@[simp] theorem clo_key {S : Nat → Prop} (l : List Key) : (∀ e ∈ l.map Key.cs, ∀ d ∈ e, Clo S d) ↔ True := by
 simp only [iff_true]
 intro e he d hd
 simp only [List.mem_map] at he
 obtain ⟨c, _, rfl⟩ := he
 simp only [Key.cs, List.mem_cons, List.mem_nil_iff, or_false] at hd
 rcases hd with rfl | rfl | rfl | rfl | rfl | rfl <;> simp
@[simp] theorem clo_keys {S : Nat → Prop} (l : List Key) : (∀ a ∈ l, ∀ d ∈ a.cs, Clo S d) ↔ True := by
 simp only [iff_true]
 intro c _ d hd
 simp only [Key.cs, List.mem_cons, List.mem_nil_iff, or_false] at hd
 rcases hd with rfl | rfl | rfl | rfl | rfl | rfl <;> simp
def Key.ok (k : Key) : Prop := k.id.length ≤ 1099511627776 ∧ k.sec.length ≤ 1099511627776
theorem wrapBig {k n : Nat} (h : k < n) (hn : n ≤ 9223372036854775807) : IntKind.wrap .i64 ((k : Int) + 1) = ((k + 1 : Nat) : Int) := by
 rw [wrap_i64 (by omega) (by omega)]; rfl
def inB (f u t : Int) : Bool := decide (f ≤ limB t) && decide (limB t < u)
def skB (s : Int) : Int := if 600 < (if 0 > s then 0 else s) then 600 else (if 0 > s then 0 else s)
theorem skB_p (s : Int) : (if 600 < (if 0 > s then 0 else s) then (600 : Int) else (if 0 > s then 0 else s)) = skB s := rfl
theorem skB_r (s : Int) : (if (if 600 < s then 600 else s) > 0 then (if 600 < s then (600 : Int) else s) else 0) = skB s := by
 unfold skB; repeat' split <;> omega
theorem skB_lo (s : Int) : 0 ≤ skB s ∧ skB s ≤ 600 := by unfold skB; repeat' split <;> omega
theorem sk_add (t s : Int) : IntKind.wrap .i64 (limB t + skB s) = limB t + skB s := by
 have := lim_lo t; have := lim_hi t; have := skB_lo s
 exact wrap_i64 (by omega) (by omega)
theorem sk_sub (t s : Int) : IntKind.wrap .i64 (limB t - skB s) = limB t - skB s := by
 have := lim_lo t; have := lim_hi t; have := skB_lo s
 exact wrap_i64 (by omega) (by omega)
def chkW (f u t s : Int) : Int := if decide (f > u) = true then 2 else if decide (limB t + skB s < f) = true then 14 else if decide (limB t - skB s ≥ u) = true then 13 else 0
def sortB : List Int → Bool
 | a :: b :: t => !(decide (b < a)) && sortB (b :: t)
 | _ => true
theorem sort_step : ∀ (l : List Int) (i : Nat) (h : i + 1 < l.length), sortB (l.take (i + 2)) = (sortB (l.take (i + 1)) && !(decide (l[i + 1] < l[i])))
 | a :: b :: t, 0, _ => by simp [sortB]
 | a :: b :: t, i + 1, h => by
  have ih := sort_step (b :: t) i (by simpa using h)
  simp only [List.take_succ_cons] at ih ⊢
  rw [sortB, ih, sortB]
  simp [Bool.and_assoc]
def windowsB (k : Key) : Bool := decide (k.af ≥ 0) && decide (k.af ≤ k.sf) && decide (k.sf ≤ k.su) && decide (k.su ≤ k.au) && decide (k.au ≤ 1099511627776) && decide (k.af < k.au)
theorem win_sort (k : Key) : (!(sortB [0, k.af, k.sf, k.su, k.au, 1099511627776]) || decide (k.af ≥ k.au)) = !(windowsB k) := by
 rw [Bool.eq_iff_iff]
 simp only [sortB, windowsB, Bool.or_eq_true, Bool.not_eq_true', Bool.and_eq_false_iff, Bool.not_eq_false', decide_eq_true_eq, decide_eq_false_iff_not, Bool.and_true]
 omega
def keyE (seen : List Key) (k : Key) : Int :=
 if (!wordB k.id) = true then 5 else if (!cleanB k.sec) = true then 4 else if seen.any (fun q => q.id == k.id) = true then 7 else if (!windowsB k) = true then 2 else 0
def chkK (seen : List Key) : List Key → Int
 | [] => 0
 | k :: t => if (keyE seen k != 0) = true then keyE seen k else chkK (seen ++ [k]) t
def checkK (l : List Key) : Int := if decide ((l.length : Int) > 16) = true then 3 else chkK [] l
def greatB (l : List Key) (n : Int) : Bool := decide ((l.length : Int) > n) || l.any (fun k => decide ((k.id.length : Int) > 300) || decide ((k.sec.length : Int) > 300))
def eqK (a b : Key) : Bool := a.id == b.id && (a.sec == b.sec && (a.sf == b.sf && (a.su == b.su && (a.af == b.af && a.au == b.au))))
def sameK (a b : List Key) : Bool := all2 eqK a b
def gtB (a b : List UInt8) : Bool := !(Op.bytesLess a b || a == b)
def bestB (b k : Key) : Bool := eqK b zeroK || decide (k.sf > b.sf) || (k.sf == b.sf && gtB k.id b.id)
def sgL (now : Int) (b : Key) : List Key → Key
 | [] => b
 | k :: t => sgL now (if inB k.sf k.su now && bestB b k then k else b) t
def sgK (l : List Key) (now : Int) : Key := if (checkK l != 0) = true then zeroK else sgL now zeroK l
def accD (l : List Key) (id : List UInt8) (now skew : Int) : Key × Int :=
 match l with
 | [] => (zeroK, 26)
 | k :: t => if k.id == id then (if (chkW k.af k.au now skew != 0) = true then (zeroK, chkW k.af k.au now skew) else (k, 0)) else accD t id now skew
set_option maxRecDepth 10000
set_option maxHeartbeats 4000000
theorem c_k_limited (n : Int) : CallP Pr 60 [.int .i64 n] (.int .i64 (limB n)) := by
 refine CallP.W Tryz.func60 Tryz.ntmps60 ?_
 simp only [frameOf]
 iterate 2 (refine WP.S [0, 2] fun _ z => ?_; simp +decide only [TF, ↓reduceIte]; apply z; clear z)
 apply WP.ret
 exact Ends.P rfl (Le.of_eq (by simp [St.get, W, limB]; repeat' split <;> (try omega)))
theorem c_r_instant (n : Int) : CallP Pr 108 [.int .i64 n] (.int .i64 (limB n)) := by
 refine CallP.W Tryz.func108 Tryz.ntmps108 ?_
 simp only [frameOf]
 iterate 3 first | (refine WP.S [0, 2, 4, 6] fun _ z => ?_; simp +decide only [TF, ↓reduceIte]; apply z; clear z) | apply WP.seq
 refine WP.cond rfl (fun q1 => ?_) (fun q1 => ?_)
 ·refine WP.S [0, 2, 4, 6] fun _ z => ?_; simp +decide only [TF, q1, ↓reduceIte]; apply z; clear z
  apply WP.ret
  exact Ends.P rfl (Le.of_eq (by first | (simp [St.get, W, limB]; done) | (simp_all [St.get, W, limB]; repeat' split <;> (try omega); done)))
 iterate 3 first | (refine WP.S [0, 2, 4, 6] fun _ z => ?_; simp +decide only [TF, q1, ↓reduceIte]; apply z; clear z) | (apply WP.skip; show WP ..) | apply WP.seq
 refine WP.cond rfl (fun q2 => ?_) (fun q2 => ?_)
 ·refine WP.S [0, 2, 4, 6] fun _ z => ?_; simp +decide only [TF, q2, ↓reduceIte]; apply z; clear z
  apply WP.ret
  exact Ends.P rfl (Le.of_eq (by first | (simp [St.get, W, limB]; done) | (simp_all [St.get, W, limB]; repeat' split <;> (try omega); done)))
 iterate 2 first | (refine WP.S [0, 2, 4, 6] fun _ z => ?_; simp +decide only [TF, q2, ↓reduceIte]; apply z; clear z) | (apply WP.skip; show WP ..)
 apply WP.ret
 exact Ends.P rfl (Le.of_eq (by simp_all [St.get, W, limB]; repeat' split <;> (try omega)))
theorem c_c_in (f u t : Int) : CallP Pr 36 [.agg [.int .i64 f, .int .i64 u], .int .i64 t] (.bool (inB f u t)) := by
 refine CallP.W Tryz.func36 Tryz.ntmps36 ?_
 simp only [frameOf, Nat.zero_add]
 refine WP.S [1, 2, 4] fun _ z => ?_; simp +decide only [TF, ↓reduceIte]; apply z; clear z
 refine WP.S [1, 2, 4] fun _ z => ?_
 simp +decide only [TF, ↓reduceIte]
 refine CallK.P (c_limited _) rfl rfl ?_
 simp +decide only [TF, ↓reduceIte]
 apply z; clear z
 refine WP.S [1, 2, 4] fun _ z => ?_
 refine runOps.take 5 fun J hJ => ?_
 simp +decide only [TF, ↓reduceIte]
 refine hJ _ _ ?_; clear hJ J
 refine runOps.part 11 rfl (fun q1 => ?_) (fun q1 => ?_)
 ·simp +decide only [TF, q1, ↓reduceIte]
  apply z; clear z
  apply WP.ret
  exact Ends.P rfl (Le.of_eq (by simp +decide only [St.get, W, inB, q1, ↓reduceIte]))
 simp +decide only [TF, q1, ↓reduceIte]
 apply z; clear z
 apply WP.ret
 exact Ends.P rfl (Le.of_eq (by simp +decide only [St.get, W, inB, q1, ↓reduceIte]))
theorem c_r_in (f u t : Int) : CallP Pr 103 [.agg [.int .i64 f, .int .i64 u], .int .i64 t] (.bool (inB f u t)) := by
 refine CallP.W Tryz.func103 Tryz.ntmps103 ?_
 simp only [frameOf, Nat.zero_add]
 refine WP.S [1, 2, 4] fun _ z => ?_; simp +decide only [TF, ↓reduceIte]; apply z; clear z
 refine WP.D [1, 2, 4] fun _ z => ?_
 simp +decide only [TF, ↓reduceIte]
 refine CallK.P (c_r_limit _) rfl rfl ?_
 refine runOps.take 2 fun J hJ => ?_
 simp +decide only [TF, ↓reduceIte]
 refine hJ _ _ ?_; clear hJ J
 refine runOps.part 10 rfl (fun q1 => ?_) (fun q1 => ?_)
 ·simp +decide only [TF, q1, ↓reduceIte]
  refine CallK.P (c_r_limit _) rfl rfl ?_
  simp +decide only [TF, ↓reduceIte]
  refine z _ _ (by kernel_rfl) ?_; clear z
  apply WP.ret
  exact Ends.P rfl (Le.of_eq (by simp +decide only [St.get, W, inB, q1, ↓reduceIte]))
 simp +decide only [TF, q1, ↓reduceIte]
 refine z _ _ (by kernel_rfl) ?_; clear z
 apply WP.ret
 exact Ends.P rfl (Le.of_eq (by simp +decide only [St.get, W, inB, q1, ↓reduceIte]))
abbrev s_ck_check : List Nat := [1, 2, 3, 6, 7, 8, 14, 20, 27]
theorem c_ck_check (f u t s : Int) : CallP Pr 75 [.agg [.int .i64 f, .int .i64 u], .int .i64 t, .int .i64 s] (.int .i64 (chkW f u t s)) := by
 refine CallP.W Tryz.func75 Tryz.ntmps75 ?_
 simp only [frameOf, Nat.reduceAdd, Nat.zero_add]
 refine WP.S s_ck_check fun _ z => ?_; simp +decide only [TF, ↓reduceIte]; apply z; clear z
 refine WP.S s_ck_check fun _ z => ?_
 simp +decide only [TF, ↓reduceIte]
 refine CallK.P (c_limited _) rfl rfl ?_
 simp +decide only [TF, skB_p, ↓reduceIte]
 apply z; clear z
 iterate 3 first | (refine WP.S s_ck_check fun _ z => ?_; simp +decide only [TF, ↓reduceIte]; apply z; clear z) | apply WP.block | apply WP.seq
 refine WP.cond rfl (fun q1 => ?_) (fun q1 => ?_)
 ·refine WP.S s_ck_check fun _ z => ?_; simp +decide only [TF, q1, ↓reduceIte]; apply z; clear z
  apply WP.ret
  exact Ends.P rfl (Le.of_eq (by simp +decide only [St.get, W, chkW, q1, ↓reduceIte]))
 refine WP.S s_ck_check fun _ z => ?_; simp +decide only [TF, q1, sk_add, ↓reduceIte]; apply z; clear z
 refine WP.cond rfl (fun q2 => ?_) (fun q2 => ?_)
 ·refine WP.S s_ck_check fun _ z => ?_; simp +decide only [TF, q2, ↓reduceIte]; apply z; clear z
  apply WP.ret
  exact Ends.P rfl (Le.of_eq (by simp +decide only [St.get, W, chkW, q1, q2, ↓reduceIte]))
 refine WP.S s_ck_check fun _ z => ?_; simp +decide only [TF, q2, sk_sub, ↓reduceIte]; apply z; clear z
 refine WP.cond rfl (fun q3 => ?_) (fun q3 => ?_)
 ·refine WP.S s_ck_check fun _ z => ?_; simp +decide only [TF, q3, ↓reduceIte]; apply z; clear z
  apply WP.ret
  exact Ends.P rfl (Le.of_eq (by simp +decide only [St.get, W, chkW, q1, q2, q3, ↓reduceIte]))
 iterate 2 first | (refine WP.S s_ck_check fun _ z => ?_; simp +decide only [TF, q3, ↓reduceIte]; apply z; clear z) | (apply WP.skip; show WP ..)
 apply WP.ret
 exact Ends.P rfl (Le.of_eq (by simp +decide only [St.get, W, chkW, q1, q2, q3, ↓reduceIte]))
abbrev s_r_ck_check : List Nat := [1, 2, 3, 6, 7, 15, 22, 29]
theorem c_r_ck_check (f u t s : Int) : CallP Pr 112 [.agg [.int .i64 f, .int .i64 u], .int .i64 t, .int .i64 s] (.int .i64 (chkW f u t s)) := by
 refine CallP.W Tryz.func112 Tryz.ntmps112 ?_
 simp only [frameOf, Nat.reduceAdd, Nat.zero_add]
 iterate 4 first | (refine WP.S s_r_ck_check fun _ z => ?_; simp +decide only [TF, skB_r, ↓reduceIte]; apply z; clear z) | apply WP.seq
 refine WP.cond rfl (fun q1 => ?_) (fun q1 => ?_)
 ·refine WP.S s_r_ck_check fun _ z => ?_; simp +decide only [TF, q1, ↓reduceIte]; apply z; clear z
  apply WP.ret
  exact Ends.P rfl (Le.of_eq (by simp +decide only [St.get, W, chkW, q1, ↓reduceIte]))
 iterate 2 first | (apply WP.skip; show WP ..) | apply WP.seq
 refine WP.D s_r_ck_check fun _ z => ?_
 simp +decide only [TF, q1, ↓reduceIte]
 refine CallK.P (c_r_limit _) rfl rfl ?_
 simp +decide only [TF, sk_add, ↓reduceIte]
 refine z _ _ (by kernel_rfl) ?_; clear z
 refine WP.cond rfl (fun q2 => ?_) (fun q2 => ?_)
 ·refine WP.S s_r_ck_check fun _ z => ?_; simp +decide only [TF, q2, ↓reduceIte]; apply z; clear z
  apply WP.ret
  exact Ends.P rfl (Le.of_eq (by simp +decide only [St.get, W, chkW, q1, q2, ↓reduceIte]))
 iterate 2 first | (apply WP.skip; show WP ..) | apply WP.seq
 refine WP.D s_r_ck_check fun _ z => ?_
 simp +decide only [TF, q2, ↓reduceIte]
 refine CallK.P (c_r_limit _) rfl rfl ?_
 simp +decide only [TF, sk_sub, ↓reduceIte]
 refine z _ _ (by kernel_rfl) ?_; clear z
 refine WP.cond rfl (fun q3 => ?_) (fun q3 => ?_)
 ·refine WP.S s_r_ck_check fun _ z => ?_; simp +decide only [TF, q3, ↓reduceIte]; apply z; clear z
  apply WP.ret
  exact Ends.P rfl (Le.of_eq (by simp +decide only [St.get, W, chkW, q1, q2, q3, ↓reduceIte]))
 iterate 2 first | (refine WP.S s_r_ck_check fun _ z => ?_; simp +decide only [TF, q3, ↓reduceIte]; apply z; clear z) | (apply WP.skip; show WP ..)
 apply WP.ret
 exact Ends.P rfl (Le.of_eq (by simp +decide only [St.get, W, chkW, q1, q2, q3, ↓reduceIte]))
theorem c_find1 (k : Key) (id : List UInt8) : CallE Pr 155 [.agg [.str k.id, .str k.sec, .int .i64 k.sf, .int .i64 k.su, .int .i64 k.af, .int .i64 k.au], .ref 0 0] [(0, .box 9 [.str id])] (.bool (k.id == id)) [(0, .box 9 [.str id])] := by
 refine CallE.of_wp Tryz.func155 rfl (by kernel_rfl) Tryz.ntmps155 (by simp) ?_
 simp only [frameOf, Nat.zero_add, List.map_cons, List.map_nil]
 iterate 2 (refine WP.S [1, 2, 3] fun _ z => ?_; simp +decide only [TF, ↓reduceIte]; apply z; clear z)
 apply WP.ret
 refine Ends.imp (.inr rfl) rfl (Le.of_eq (by simp +decide only [St.get, W, ↓reduceIte])) ?_ ?_ ?_
 ·simp
 ·simp [lk, BClo]
 simp [lk]
theorem c_indexfunc_find (l : List Key) (nl : Bool) (id : List UInt8) (hn : l.length ≤ 1099511627776) (hnl : nl = true → l = []) : CallE Pr 154 [.slice 6 nl (l.map Key.cs) none, .fn (.func 155) [] [.ref 0 0]] [(0, .box 9 [.str id])] (.int .i64 (ixP (fun k => k.id == id) l 0)) [(0, .box 9 [.str id])] := by
 refine CallE.of_wp Tryz.func154 rfl (by kernel_rfl) Tryz.ntmps154 (by simp) ?_
 simp only [frameOf, Nat.zero_add, List.map_cons, List.map_nil]
 iterate 2 first | (refine WP.S [0, 1, 4, 5, 7, 8, 9, 16] fun _ z => ?_; simp +decide only [TF, ↓reduceIte]; apply z; clear z) | apply WP.seq
 refine WP.S [0, 1, 7, 8] fun _ z => ?_; simp +decide only [TF, ↓reduceIte]; apply z; clear z
 apply WP.block
 refine WP.lp [0, 1, 7] (X := {k : Nat // k ≤ l.length ∧ ixP (fun k => k.id == id) l 0 = ixP (fun k => k.id == id) (l.drop k) k}) (fun x => match x with | ⟨(k), _⟩ => [(8, .int .i64 k)]) (fun x => match x with | ⟨(k), _⟩ => [(0, .box 9 [.str id])]) (fun x => match x with | ⟨(k), _⟩ => l.length - k) (by simp +decide only [W, ↓reduceIte]; rfl) ?_ ⟨(0), ⟨Nat.zero_le _, by simp⟩⟩ ?_
 rotate_left
 ·exact Weak.store (by simp [St.get, lk, W, Le.refl, W]) (by simp [lk]) (by simp [lk]) (by simp [BClo, lk]) (by simp [lk])
 rintro ⟨k, hk, hI⟩
 dsimp only
 simp only [List.cons_append, List.nil_append]
 iterate 2 first | (refine WP.S [0, 1, 4, 5, 7, 8, 9, 16] fun _ z => ?_; simp +decide only [TF, ↓reduceIte]; apply z; clear z) | apply WP.seq
 refine WP.cond rfl (fun q1 => ?_) (fun q1 => ?_)
 ·have hlt := lt_of_q q1
  have hg : (l.map Key.cs)[k]? = some [.str l[k].id, .str l[k].sec, .int .i64 l[k].sf, .int .i64 l[k].su, .int .i64 l[k].af, .int .i64 l[k].au] := getM hlt
  have hnf := nl_false hnl hlt
  rw [dropE hlt] at hI
  simp only [ixP] at hI
  iterate 4 first | (refine WP.S [0, 1, 4, 5, 7, 8, 9, 16] fun _ z => ?_; simp +decide only [TF, q1, hnf, ↓reduceIte]; apply z; clear z) | (apply WP.skip; show WP ..) | apply WP.block | apply WP.seq
  refine WP.S [0, 1, 4, 5, 7, 8, 9, 16] fun _ z => ?_
  simp +decide only [TF, hg, ↓reduceIte]
  refine CallK.imp (c_find1 l[k] id) rfl rfl (by simp [lk, BClo]) (by simp [lk]) (by simp [lk]) ?_
  simp +decide only [TF, ↓reduceIte]
  apply z; clear z
  refine WP.cond rfl (fun q2 => ?_) (fun q2 => ?_)
  ·refine WP.S [0, 1, 4, 5, 7, 8, 9, 16] fun _ z => ?_; simp +decide only [TF, q2, ↓reduceIte]; apply z; clear z
   apply WP.ret
   refine Ends.imp (.inr rfl) rfl (Le.of_eq (by simp +decide only [St.get, W, q2, hI, ↓reduceIte])) ?_ ?_ ?_
   ·simp
   ·simp [lk, BClo]
   simp [lk]
  iterate 2 first | (refine WP.R fun _ z => ?_; simp +decide only [TF, q2, ↓reduceIte]; apply z; clear z) | (apply WP.skip; show WP ..)
  show ∃ y, _ ∧ Weak _ _ _
  refine ⟨⟨k + 1, ?_⟩, ?_, ?_⟩
  ·exact ⟨by omega, by first | (simpa [hk, q1, hg, hnf, q2] using hI) | (simp_all; done)⟩
  ·dsimp only; omega
  exact Weak.store (by simp [St.get, lk, Le.refl, hnf, wrapS hlt (show l.length ≤ 140737488355328 by omega)]) (by simp [lk]) (by simp [lk]) (by simp [BClo, lk]) (by simp [lk])
 have hge := ge_of_q q1
 rw [dropN hge] at hI
 simp only [ixP] at hI
 iterate 2 first | (refine WP.S [0, 1, 4, 5, 7, 8, 9, 16] fun _ z => ?_; simp +decide only [TF, q1, ↓reduceIte]; apply z; clear z) | (apply WP.exit; show WP ..)
 apply WP.ret
 refine Ends.imp (.inr rfl) rfl (Le.of_eq (by simp +decide only [St.get, W, hI, ↓reduceIte])) ?_ ?_ ?_
 ·simp
 ·simp [lk, BClo]
 simp [lk]
theorem c_find (l : List Key) (nl : Bool) (id : List UInt8) (hn : l.length ≤ 1099511627776) (hnl : nl = true → l = []) : CallP Pr 118 [.slice 6 nl (l.map Key.cs) none, .str id] (.int .i64 (ixP (fun k => k.id == id) l 0)) := by
 refine CallP.W Tryz.func118 Tryz.ntmps118 ?_
 simp only [frameOf, Nat.zero_add]
 refine WP.S [0, 3, 4] fun _ z => ?_; simp +decide only [TF, ↓reduceIte]; apply z; clear z
 refine WP.S [0, 3, 4] fun _ z => ?_
 simp +decide only [TF, ↓reduceIte]
 refine CallK.imp (c_indexfunc_find l nl id hn hnl) rfl rfl (by simp [lk, BClo]) (by simp [lk]) (by simp [lk]) ?_
 simp +decide only [TF, ↓reduceIte]
 apply z; clear z
 apply WP.ret
 exact Ends.P rfl (Le.of_eq (by simp +decide only [St.get, W, ↓reduceIte]))
theorem c_isnan (n : Int) : CallP Pr 187 [.int .i64 n] (.bool false) := by
 refine CallP.W Tryz.func187 Tryz.ntmps187 ?_
 simp only [frameOf]
 iterate 2 (refine WP.S [0, 2] fun _ z => ?_; simp +decide only [TF, ↓reduceIte]; apply z; clear z)
 apply WP.ret
 exact Ends.P rfl (Le.of_eq (by simp +decide only [St.get, W, ↓reduceIte]))
theorem c_less (n m : Int) : CallP Pr 157 [.int .i64 n, .int .i64 m] (.bool (decide (n < m))) := by
 refine CallP.W Tryz.func157 Tryz.ntmps157 ?_
 simp only [frameOf, Nat.zero_add]
 refine WP.S [0, 1, 4] fun _ z => ?_; simp +decide only [TF, ↓reduceIte]; apply z; clear z
 refine WP.S [0, 1, 4] fun _ z => ?_
 simp +decide only [TF, ↓reduceIte]
 refine CallK.P (c_isnan _) rfl rfl ?_
 simp +decide only [TF, ↓reduceIte]
 apply z; clear z
 apply WP.ret
 exact Ends.P rfl (Le.of_eq (by simp +decide only [St.get, W, ↓reduceIte]))
theorem c_windows (k : Key) : CallP Pr 87 [.agg [.str k.id, .str k.sec, .int .i64 k.sf, .int .i64 k.su, .int .i64 k.af, .int .i64 k.au]] (.bool (windowsB k)) := by
 refine CallP.W Tryz.func87 Tryz.ntmps87 ?_
 simp only [frameOf]
 refine WP.S [1, 2] fun _ z => ?_; simp +decide only [TF, ↓reduceIte]; apply z; clear z
 refine WP.S [1, 2] fun _ z => ?_
 refine runOps.take 5 fun J hJ => ?_
 simp +decide only [TF, ↓reduceIte]
 refine hJ _ _ ?_; clear hJ J
 refine runOps.part 7 rfl (fun q1 => ?_) (fun q1 => ?_)
 ·refine runOps.take 9 fun J hJ => ?_
  simp +decide only [TF, q1, ↓reduceIte]
  refine hJ _ _ ?_; clear hJ J
  refine runOps.part 16 rfl (fun q2 => ?_) (fun q2 => ?_)
  ·refine runOps.take 9 fun J hJ => ?_
   simp +decide only [TF, q2, ↓reduceIte]
   refine hJ _ _ ?_; clear hJ J
   refine runOps.part 25 rfl (fun q3 => ?_) (fun q3 => ?_)
   ·refine runOps.take 9 fun J hJ => ?_
    simp +decide only [TF, q3, ↓reduceIte]
    refine hJ _ _ ?_; clear hJ J
    refine runOps.part 34 rfl (fun q4 => ?_) (fun q4 => ?_)
    ·refine runOps.take 6 fun J hJ => ?_
     simp +decide only [TF, q4, ↓reduceIte]
     refine hJ _ _ ?_; clear hJ J
     refine runOps.part 40 rfl (fun q5 => ?_) (fun q5 => ?_)
     ·simp +decide only [TF, q5, ↓reduceIte]
      apply z; clear z
      apply WP.ret
      exact Ends.P rfl (Le.of_eq (by simp +decide only [St.get, W, windowsB, q1, q2, q3, q4, q5, ↓reduceIte]))
     simp +decide only [TF, q5, ↓reduceIte]
     apply z; clear z
     apply WP.ret
     exact Ends.P rfl (Le.of_eq (by simp +decide only [St.get, W, windowsB, q1, q2, q3, q4, q5, ↓reduceIte]))
    simp +decide only [TF, q4, ↓reduceIte]
    apply z; clear z
    apply WP.ret
    exact Ends.P rfl (Le.of_eq (by simp +decide only [St.get, W, windowsB, q1, q2, q3, q4, ↓reduceIte]))
   simp +decide only [TF, q3, ↓reduceIte]
   apply z; clear z
   apply WP.ret
   exact Ends.P rfl (Le.of_eq (by simp +decide only [St.get, W, windowsB, q1, q2, q3, ↓reduceIte]))
  simp +decide only [TF, q2, ↓reduceIte]
  apply z; clear z
  apply WP.ret
  exact Ends.P rfl (Le.of_eq (by simp +decide only [St.get, W, windowsB, q1, q2, ↓reduceIte]))
 simp +decide only [TF, q1, ↓reduceIte]
 apply z; clear z
 apply WP.ret
 exact Ends.P rfl (Le.of_eq (by simp +decide only [St.get, W, windowsB, q1, ↓reduceIte]))
abbrev s_great : List Nat := [0, 1, 4, 5, 9, 13, 31]
theorem c_great (l : List Key) (nl : Bool) (n : Int) (hn : l.length ≤ 9223372036854775807) (hnl : nl = true → l = []) : CallP Pr 37 [.slice 6 nl (l.map Key.cs) none, .int .i64 n] (.bool (greatB l n)) := by
 refine CallP.W Tryz.func37 Tryz.ntmps37 ?_
 simp only [frameOf, Nat.zero_add]
 iterate 3 first | (refine WP.S s_great fun _ z => ?_; simp +decide only [TF, ↓reduceIte]; apply z; clear z) | apply WP.seq
 refine WP.cond rfl (fun q1 => ?_) (fun q1 => ?_)
 ·refine WP.S s_great fun _ z => ?_; simp +decide only [TF, q1, ↓reduceIte]; apply z; clear z
  apply WP.ret
  exact Ends.P rfl (Le.of_eq (by simp +decide only [St.get, W, greatB, q1, ↓reduceIte]))
 iterate 2 first | (apply WP.skip; show WP ..) | apply WP.seq
 refine WP.S [0, 5] fun _ z => ?_; simp +decide only [TF, q1, ↓reduceIte]; apply z; clear z
 apply WP.block
 refine WP.lp [0] (X := {k : Nat // k ≤ l.length ∧ greatB l n = (l.drop k).any (fun k => decide ((k.id.length : Int) > 300) || decide ((k.sec.length : Int) > 300))}) (fun x => match x with | ⟨(k), _⟩ => [(5, .int .i64 k)]) (fun x => match x with | ⟨(k), _⟩ => []) (fun x => match x with | ⟨(k), _⟩ => l.length - k) (by simp +decide only [W, ↓reduceIte]; rfl) ?_ ⟨(0), ⟨Nat.zero_le _, by simp only [greatB, List.drop_zero, q1, Bool.false_or]⟩⟩ ?_
 rotate_left
 ·exact Weak.store (by simp [St.get, lk, W, Le.refl]) (by simp [lk]) (by simp [lk]) (by simp [BClo, lk]) (by simp [lk])
 rintro ⟨k, hk, hI⟩
 dsimp only
 simp only [List.cons_append, List.nil_append]
 iterate 2 first | (refine WP.S s_great fun _ z => ?_; simp +decide only [TF, ↓reduceIte]; apply z; clear z) | apply WP.seq
 refine WP.cond rfl (fun q2 => ?_) (fun q2 => ?_)
 ·have hlt := lt_of_q q2
  have hg : (l.map Key.cs)[k]? = some [.str l[k].id, .str l[k].sec, .int .i64 l[k].sf, .int .i64 l[k].su, .int .i64 l[k].af, .int .i64 l[k].au] := getM hlt
  have hnf := nl_false hnl hlt
  rw [dropE hlt] at hI
  simp only [List.any_cons] at hI
  iterate 3 first | (apply WP.skip; show WP ..) | apply WP.block | apply WP.seq
  refine WP.S s_great fun _ z => ?_
  refine runOps.take 8 fun J hJ => ?_
  simp +decide only [TF, q2, hg, hnf, ↓reduceIte]
  refine hJ _ _ ?_; clear hJ J
  refine runOps.part 23 rfl (fun q3 => ?_) (fun q3 => ?_)
  ·simp +decide only [TF, q3, ↓reduceIte]
   apply z; clear z
   iterate 2 first | (refine WP.S s_great fun _ z => ?_; simp +decide only [TF, ↓reduceIte]; apply z; clear z) | refine WP.cT ?_
   apply WP.ret
   exact Ends.P rfl (Le.of_eq (by simp_all [St.get, W, greatB]))
  simp +decide only [TF, hg, q3, ↓reduceIte]
  apply z; clear z
  refine WP.cond rfl (fun q4 => ?_) (fun q4 => ?_)
  ·refine WP.S s_great fun _ z => ?_; simp +decide only [TF, q4, ↓reduceIte]; apply z; clear z
   apply WP.ret
   exact Ends.P rfl (Le.of_eq (by simp_all [St.get, W, greatB]))
  iterate 2 first | (refine WP.R fun _ z => ?_; simp +decide only [TF, q4, ↓reduceIte]; apply z; clear z) | (apply WP.skip; show WP ..)
  show ∃ y, _ ∧ Weak _ _ _
  refine ⟨⟨k + 1, ?_⟩, ?_, ?_⟩
  ·exact ⟨by omega, by first | (simpa [q1, hk, q2, hg, hnf, q3, q4] using hI) | (simp_all; done)⟩
  ·dsimp only; omega
  exact Weak.store (by simp [St.get, lk, Le.refl, hnf, wrapBig hlt (show l.length ≤ 9223372036854775807 by omega)]) (by simp [lk]) (by simp [lk]) (by simp [BClo, lk]) (by simp [lk])
 have hge := ge_of_q q2
 rw [dropN hge] at hI
 simp only [List.any_nil] at hI
 iterate 2 first | (refine WP.S s_great fun _ z => ?_; simp +decide only [TF, q2, ↓reduceIte]; apply z; clear z) | (apply WP.exit; show WP ..)
 apply WP.ret
 exact Ends.P rfl (Le.of_eq (by simp_all [St.get, W, greatB]))
theorem c_issorted (l : List Int) (hne : 0 < l.length) (hn : l.length ≤ 1099511627776) : CallP Pr 122 [.slice 1 false (l.map fun x => [.int .i64 x]) none] (.bool (sortB l)) := by
 have hw0 := wrapP hne (show l.length ≤ 140737488355328 by omega)
 refine CallP.W Tryz.func122 Tryz.ntmps122 ?_
 simp only [frameOf]
 iterate 2 first | (refine WP.S [0, 2, 3, 8, 20] fun _ z => ?_; simp +decide only [TF, ↓reduceIte]; apply z; clear z) | apply WP.seq
 refine WP.S [0, 3] fun _ z => ?_; simp +decide only [TF, hw0, ↓reduceIte]; apply z; clear z
 apply WP.block
 refine WP.lp [0] (X := {i : Nat // i < l.length ∧ sortB l = sortB (l.take (i + 1))}) (fun x => match x with | ⟨(i), _⟩ => [(3, .int .i64 i)]) (fun x => match x with | ⟨(i), _⟩ => []) (fun x => match x with | ⟨(i), _⟩ => i) (by simp +decide only [W, ↓reduceIte]; rfl) ?_ ⟨(l.length - 1), ⟨by omega, by rw [show l.length - 1 + 1 = l.length by omega, List.take_length]⟩⟩ ?_
 rotate_left
 ·exact Weak.store (by simp [St.get, lk, W, Le.refl, W]) (by simp [lk]) (by simp [lk]) (by simp [BClo, lk]) (by simp [lk])
 rintro ⟨i, hi, hI⟩
 dsimp only
 simp only [List.cons_append, List.nil_append]
 iterate 2 first | (refine WP.S [0, 2, 3, 8, 20] fun _ z => ?_; simp +decide only [TF, ↓reduceIte]; apply z; clear z) | apply WP.seq
 refine WP.cond rfl (fun q1 => ?_) (fun q1 => ?_)
 ·obtain ⟨j, rfl⟩ : ∃ j, i = j + 1 := ⟨i - 1, by have := of_decide_eq_true q1; omega⟩
  have hg1 : (l.map fun x => [D.int .i64 x])[j + 1]? = some [.int .i64 l[j + 1]] := getM hi
  have hg0 : (l.map fun x => [D.int .i64 x])[j]? = some [.int .i64 l[j]] := getM (show j < l.length by omega)
  have hwj : IntKind.wrap .i64 (((j + 1 : Nat) : Int) - 1) = ((j : Nat) : Int) := by rw [wrap_i64 (by omega) (by omega)]; omega
  rw [sort_step l j hi] at hI
  iterate 3 first | (apply WP.skip; show WP ..) | apply WP.block | apply WP.seq
  refine WP.D [0, 2, 3, 8, 20] fun _ z => ?_
  simp +decide only [TF, q1, hg1, hg0, hwj, ↓reduceIte]
  refine CallK.P (c_less _ _) rfl rfl ?_
  simp +decide only [TF, ↓reduceIte]
  refine z _ _ (by kernel_rfl) ?_; clear z
  refine WP.cond rfl (fun q2 => ?_) (fun q2 => ?_)
  ·have hf : sortB l = false := by rw [hI, q2]; simp
   refine WP.S [0, 2, 3, 8, 20] fun _ z => ?_; simp +decide only [TF, q2, ↓reduceIte]; apply z; clear z
   apply WP.ret
   exact Ends.P rfl (Le.of_eq (by simp +decide only [St.get, W, hf, ↓reduceIte]))
  have hI : sortB l = sortB (l.take (j + 1)) := by rw [hI, q2]; simp
  iterate 2 first | (refine WP.R fun _ z => ?_; simp +decide only [TF, hwj, q2, ↓reduceIte]; apply z; clear z) | (apply WP.skip; show WP ..)
  show ∃ y, _ ∧ Weak _ _ _
  refine ⟨⟨j, ?_⟩, ?_, ?_⟩
  ·exact ⟨by omega, hI⟩
  ·dsimp only; omega
  exact Weak.store (by simp [St.get, lk, Le.refl]) (by simp [lk]) (by simp [lk]) (by simp [BClo, lk]) (by simp [lk])
 have hi0 : i = 0 := by have := of_decide_eq_false q1; omega
 subst hi0
 have hone : sortB (l.take 1) = true := by match l with | [] => rfl | a :: t => rfl
 rw [hone] at hI
 iterate 2 first | (refine WP.S [0, 2, 3, 8, 20] fun _ z => ?_; simp +decide only [TF, ↓reduceIte]; apply z; clear z) | (apply WP.exit; show WP ..)
 apply WP.ret
 exact Ends.P rfl (Le.of_eq (by simp +decide only [St.get, W, hI, ↓reduceIte]))
abbrev s_checkkey : List Nat := [0, 1, 4, 5, 6, 11, 16, 21, 53]
theorem c_checkkey (l : List Key) (nl : Bool) (i : Nat) (hi : i < l.length) (hn : l.length ≤ 1099511627776) (hnl : nl = true → l = []) (hl : ∀ k ∈ l, k.ok) : CallP Pr 83 [.slice 6 nl (l.map Key.cs) none, .int .i64 i] (.int .i64 (keyE (l.take i) l[i])) := by
 have hg : (l.map Key.cs)[i]? = some [.str l[i].id, .str l[i].sec, .int .i64 l[i].sf, .int .i64 l[i].su, .int .i64 l[i].af, .int .i64 l[i].au] := getM hi
 have hnf := nl_false hnl hi
 have hk := hl _ (List.getElem_mem hi)
 have hle : i ≤ l.length := by omega
 have hix := ixP_any0 (fun q => q.id == l[i].id) (l.take i)
 have hws := win_sort l[i]
 refine CallP.W Tryz.func83 Tryz.ntmps83 ?_
 simp only [frameOf, Nat.zero_add]
 iterate 4 first | (refine WP.S s_checkkey fun _ z => ?_; simp +decide only [TF, hg, hnf, ↓reduceIte]; apply z; clear z) | apply WP.block | apply WP.seq
 refine WP.S s_checkkey fun _ z => ?_
 simp +decide only [TF, ↓reduceIte]
 refine CallK.P (c_word l[i].id (by have := hk.1; omega)) rfl rfl ?_
 simp +decide only [TF, ↓reduceIte]
 apply z; clear z
 refine WP.cond rfl (fun q1 => ?_) (fun q1 => ?_)
 ·refine WP.S s_checkkey fun _ z => ?_; simp +decide only [TF, q1, ↓reduceIte]; apply z; clear z
  apply WP.ret
  exact Ends.P rfl (Le.of_eq (by simp +decide only [St.get, W, keyE, q1, ↓reduceIte]))
 refine WP.S s_checkkey fun _ z => ?_
 simp +decide only [TF, q1, ↓reduceIte]
 refine CallK.P (c_clean l[i].sec (by have := hk.2; omega)) rfl rfl ?_
 simp +decide only [TF, ↓reduceIte]
 apply z; clear z
 refine WP.cond rfl (fun q2 => ?_) (fun q2 => ?_)
 ·refine WP.S s_checkkey fun _ z => ?_; simp +decide only [TF, q2, ↓reduceIte]; apply z; clear z
  apply WP.ret
  exact Ends.P rfl (Le.of_eq (by simp +decide only [St.get, W, keyE, q1, q2, ↓reduceIte]))
 refine WP.D s_checkkey fun _ z => ?_
 simp +decide only [TF, hle, q2, ← List.map_take, ↓reduceIte]
 refine CallK.P (c_find (l.take i) false l[i].id (by simp; omega) nofun) rfl rfl ?_
 simp +decide only [TF, hix, ↓reduceIte]
 refine z _ _ (by kernel_rfl) ?_; clear z
 refine WP.cond rfl (fun q3 => ?_) (fun q3 => ?_)
 ·refine WP.S s_checkkey fun _ z => ?_; simp +decide only [TF, q3, ↓reduceIte]; apply z; clear z
  apply WP.ret
  exact Ends.P rfl (Le.of_eq (by simp +decide only [St.get, W, keyE, q1, q2, q3, ↓reduceIte]))
 apply WP.skip; show WP ..
 refine WP.S s_checkkey fun _ z => ?_
 simp +decide only [TF, q3, ↓reduceIte]
 refine CallK.P (c_issorted [0, l[i].af, l[i].sf, l[i].su, l[i].au, 1099511627776] (by simp) (by simp)) rfl rfl ?_
 simp +decide only [TF, ↓reduceIte]
 apply z; clear z
 apply WP.seq
 refine WP.S s_checkkey fun _ z => ?_
 refine runOps.take 3 fun J hJ => ?_
 simp +decide only [TF, ↓reduceIte]
 refine hJ _ _ ?_; clear hJ J
 refine runOps.part 45 rfl (fun q4 => ?_) (fun q4 => ?_)
 ·simp only [Bool.not_eq_true'] at q4
  simp +decide only [TF, q4, ↓reduceIte]
  apply z; clear z
  iterate 2 first | (refine WP.S s_checkkey fun _ z => ?_; simp +decide only [TF, ↓reduceIte]; apply z; clear z) | refine WP.cT ?_
  apply WP.ret
  exact Ends.P rfl (Le.of_eq (by simp_all [St.get, W, keyE]))
 simp only [Bool.not_eq_false'] at q4
 simp +decide only [TF, q4, ↓reduceIte]
 apply z; clear z
 refine WP.cond rfl (fun q5 => ?_) (fun q5 => ?_)
 ·refine WP.S s_checkkey fun _ z => ?_; simp +decide only [TF, q5, ↓reduceIte]; apply z; clear z
  apply WP.ret
  exact Ends.P rfl (Le.of_eq (by simp_all [St.get, W, keyE]))
 iterate 2 first | (refine WP.S s_checkkey fun _ z => ?_; simp +decide only [TF, q5, ↓reduceIte]; apply z; clear z) | (apply WP.skip; show WP ..)
 apply WP.ret
 exact Ends.P rfl (Le.of_eq (by simp_all [St.get, W, keyE]))
abbrev s_k_check : List Nat := [0, 2, 3, 4, 7, 9, 10, 11, 17]
theorem c_k_check (l : List Key) (nl : Bool) (hn : l.length ≤ 1099511627776) (hnl : nl = true → l = []) (hl : ∀ k ∈ l, k.ok) : CallP Pr 43 [.slice 6 nl (l.map Key.cs) none] (.int .i64 (checkK l)) := by
 refine CallP.W Tryz.func43 Tryz.ntmps43 ?_
 simp only [frameOf]
 iterate 3 first | (refine WP.S s_k_check fun _ z => ?_; simp +decide only [TF, ↓reduceIte]; apply z; clear z) | apply WP.seq
 refine WP.cond rfl (fun q1 => ?_) (fun q1 => ?_)
 ·refine WP.S s_k_check fun _ z => ?_; simp +decide only [TF, q1, ↓reduceIte]; apply z; clear z
  apply WP.ret
  exact Ends.P rfl (Le.of_eq (by simp +decide only [St.get, W, checkK, q1, ↓reduceIte]))
 iterate 2 first | (apply WP.skip; show WP ..) | apply WP.seq
 refine WP.S [0, 9, 10] fun _ z => ?_; simp +decide only [TF, q1, ↓reduceIte]; apply z; clear z
 apply WP.block
 refine WP.lp [0, 9] (X := {k : Nat // k ≤ l.length ∧ chkK [] l = chkK (l.take k) (l.drop k)}) (fun x => match x with | ⟨(k), _⟩ => [(10, .int .i64 k)]) (fun x => match x with | ⟨(k), _⟩ => []) (fun x => match x with | ⟨(k), _⟩ => l.length - k) (by simp +decide only [W, ↓reduceIte]; rfl) ?_ ⟨(0), ⟨Nat.zero_le _, by simp⟩⟩ ?_
 rotate_left
 ·exact Weak.store (by simp [St.get, lk, W, Le.refl]) (by simp [lk]) (by simp [lk]) (by simp [BClo, lk]) (by simp [lk])
 rintro ⟨k, hk, hI⟩
 dsimp only
 simp only [List.cons_append, List.nil_append]
 iterate 2 first | (refine WP.S s_k_check fun _ z => ?_; simp +decide only [TF, ↓reduceIte]; apply z; clear z) | apply WP.seq
 refine WP.cond rfl (fun q2 => ?_) (fun q2 => ?_)
 ·have hlt := lt_of_q q2
  have hg : (l.map Key.cs)[k]? = some [.str l[k].id, .str l[k].sec, .int .i64 l[k].sf, .int .i64 l[k].su, .int .i64 l[k].af, .int .i64 l[k].au] := getM hlt
  have hnf := nl_false hnl hlt
  rw [dropE hlt] at hI
  simp only [chkK] at hI
  iterate 4 first | (refine WP.S s_k_check fun _ z => ?_; simp +decide only [TF, q2, hnf, ↓reduceIte]; apply z; clear z) | (apply WP.skip; show WP ..) | apply WP.block | apply WP.seq
  refine WP.S s_k_check fun _ z => ?_
  simp +decide only [TF, ↓reduceIte]
  refine CallK.P (c_checkkey l false k hlt hn nofun hl) rfl rfl ?_
  simp +decide only [TF, ↓reduceIte]
  apply z; clear z
  refine WP.S s_k_check fun _ z => ?_; simp +decide only [TF, ↓reduceIte]; apply z; clear z
  refine WP.cond rfl (fun q3 => ?_) (fun q3 => ?_)
  ·refine WP.S s_k_check fun _ z => ?_; simp +decide only [TF, q3, ↓reduceIte]; apply z; clear z
   apply WP.ret
   exact Ends.P rfl (Le.of_eq (by simp +decide only [St.get, W, checkK, q1, q3, hI, ↓reduceIte]))
  iterate 2 first | (refine WP.R fun _ z => ?_; simp +decide only [TF, q3, ↓reduceIte]; apply z; clear z) | (apply WP.skip; show WP ..)
  show ∃ y, _ ∧ Weak _ _ _
  refine ⟨⟨k + 1, ?_⟩, ?_, ?_⟩
  ·exact ⟨by omega, by first | (simpa [q1, hk, q2, hg, hnf, q3] using hI) | (simp_all; done)⟩
  ·dsimp only; omega
  exact Weak.store (by simp [St.get, lk, Le.refl, hnf, wrapS hlt (show l.length ≤ 140737488355328 by omega)]) (by simp [lk]) (by simp [lk]) (by simp [BClo, lk]) (by simp [lk])
 have hge := ge_of_q q2
 rw [dropN hge] at hI
 simp only [chkK] at hI
 iterate 2 first | (refine WP.S s_k_check fun _ z => ?_; simp +decide only [TF, q2, ↓reduceIte]; apply z; clear z) | (apply WP.exit; show WP ..)
 apply WP.ret
 exact Ends.P rfl (Le.of_eq (by simp +decide only [St.get, W, checkK, q1, hI, ↓reduceIte]))
abbrev s_r_check : List Nat := [0, 2, 3, 4, 7, 11, 20, 27, 30, 43, 49]
theorem c_r_check (l : List Key) (nl : Bool) (hn : l.length ≤ 1099511627776) (hnl : nl = true → l = []) (hl : ∀ k ∈ l, k.ok) : CallP Pr 47 [.slice 6 nl (l.map Key.cs) none] (.int .i64 (checkK l)) := by
 refine CallP.W Tryz.func47 Tryz.ntmps47 ?_
 simp only [frameOf]
 iterate 3 first | (refine WP.S s_r_check fun _ z => ?_; simp +decide only [TF, ↓reduceIte]; apply z; clear z) | apply WP.seq
 refine WP.cond rfl (fun q1 => ?_) (fun q1 => ?_)
 ·refine WP.S s_r_check fun _ z => ?_; simp +decide only [TF, q1, ↓reduceIte]; apply z; clear z
  apply WP.ret
  exact Ends.P rfl (Le.of_eq (by simp +decide only [St.get, W, checkK, q1, ↓reduceIte]))
 iterate 2 first | (apply WP.skip; show WP ..) | apply WP.seq
 refine WP.S [0, 3] fun _ z => ?_; simp +decide only [TF, q1, ↓reduceIte]; apply z; clear z
 apply WP.block
 refine WP.lp [0] (X := {k : Nat // k ≤ l.length ∧ chkK [] l = chkK (l.take k) (l.drop k)}) (fun x => match x with | ⟨(k), _⟩ => [(3, .int .i64 k)]) (fun x => match x with | ⟨(k), _⟩ => []) (fun x => match x with | ⟨(k), _⟩ => l.length - k) (by simp +decide only [W, ↓reduceIte]; rfl) ?_ ⟨(0), ⟨Nat.zero_le _, by simp⟩⟩ ?_
 rotate_left
 ·exact Weak.store (by simp [St.get, lk, W, Le.refl]) (by simp [lk]) (by simp [lk]) (by simp [BClo, lk]) (by simp [lk])
 rintro ⟨k, hk, hI⟩
 dsimp only
 simp only [List.cons_append, List.nil_append]
 iterate 2 first | (refine WP.S s_r_check fun _ z => ?_; simp +decide only [TF, ↓reduceIte]; apply z; clear z) | apply WP.seq
 refine WP.cond rfl (fun q2 => ?_) (fun q2 => ?_)
 ·have hlt := lt_of_q q2
  have hg : (l.map Key.cs)[k]? = some [.str l[k].id, .str l[k].sec, .int .i64 l[k].sf, .int .i64 l[k].su, .int .i64 l[k].af, .int .i64 l[k].au] := getM hlt
  have hnf := nl_false hnl hlt
  rw [dropE hlt] at hI
  simp only [chkK] at hI
  have hk1 := hl _ (List.getElem_mem hlt)
  have hke : keyE (l.take k) l[k] = keyE (l.take k) l[k] := rfl
  iterate 4 first | (apply WP.skip; show WP ..) | apply WP.block | apply WP.seq
  refine WP.S s_r_check fun _ z => ?_
  simp +decide only [TF, q2, hg, hnf, ↓reduceIte]
  refine CallK.P (c_r_word l[k].id (by have := hk1.1; omega)) rfl rfl ?_
  simp +decide only [TF, ↓reduceIte]
  apply z; clear z
  refine WP.cond rfl (fun q3 => ?_) (fun q3 => ?_)
  ·simp only [Bool.not_eq_true'] at q3
   refine WP.S s_r_check fun _ z => ?_; simp +decide only [TF, q3, ↓reduceIte]; apply z; clear z
   apply WP.ret
   exact Ends.P rfl (Le.of_eq (by simp +decide only [St.get, W, checkK, keyE, q1, q3, hI, ↓reduceIte]))
  simp only [Bool.not_eq_false'] at q3
  iterate 2 first | (apply WP.skip; show WP ..) | apply WP.seq
  refine WP.S s_r_check fun _ z => ?_
  simp +decide only [TF, hg, q3, ↓reduceIte]
  refine CallK.P (c_r_clean l[k].sec (by have := hk1.2; omega)) rfl rfl ?_
  simp +decide only [TF, ↓reduceIte]
  apply z; clear z
  refine WP.cond rfl (fun q4 => ?_) (fun q4 => ?_)
  ·simp only [Bool.not_eq_true'] at q4
   refine WP.S s_r_check fun _ z => ?_; simp +decide only [TF, q4, ↓reduceIte]; apply z; clear z
   apply WP.ret
   exact Ends.P rfl (Le.of_eq (by simp +decide only [St.get, W, checkK, keyE, q1, q3, q4, hI, ↓reduceIte]))
  simp only [Bool.not_eq_false'] at q4
  iterate 2 first | (apply WP.skip; show WP ..) | apply WP.seq
  refine WP.S [0, 3, 4] fun _ z => ?_; simp +decide only [TF, q4, ↓reduceIte]; apply z; clear z
  apply WP.block
  refine WP.lp [0, 3] (X := {j : Nat // j ≤ k ∧ (l.take k).any (fun q => q.id == l[k].id) = ((l.take k).drop j).any (fun q => q.id == l[k].id)}) (fun x => match x with | ⟨(j), _⟩ => [(4, .int .i64 j)]) (fun x => match x with | ⟨(j), _⟩ => []) (fun x => match x with | ⟨(j), _⟩ => k - j) (by simp +decide only [W, ↓reduceIte]; rfl) ?_ ⟨(0), ⟨Nat.zero_le _, by simp⟩⟩ ?_
  rotate_left
  ·exact Weak.store (by simp [St.get, lk, W, Le.refl]) (by simp [lk]) (by simp [lk]) (by simp [BClo, lk]) (by simp [lk])
  rintro ⟨j, hj, hJ⟩
  dsimp only
  simp only [List.cons_append, List.nil_append]
  iterate 2 first | (refine WP.S s_r_check fun _ z => ?_; simp +decide only [TF, ↓reduceIte]; apply z; clear z) | apply WP.seq
  refine WP.cond rfl (fun q5 => ?_) (fun q5 => ?_)
  ·have hjk : j < k := by have := of_decide_eq_true q5; omega
   have hjl : j < l.length := by omega
   have hgj : (l.map Key.cs)[j]? = some [.str l[j].id, .str l[j].sec, .int .i64 l[j].sf, .int .i64 l[j].su, .int .i64 l[j].af, .int .i64 l[j].au] := getM hjl
   have htj : j < (l.take k).length := by simp; omega
   rw [dropE htj, List.any_cons, List.getElem_take] at hJ
   iterate 4 first | (refine WP.D s_r_check fun _ z => ?_; simp +decide only [TF, hg, q5, hgj, ↓reduceIte]; refine z _ _ (by kernel_rfl) ?_; clear z) | (apply WP.skip; show WP ..) | apply WP.block | apply WP.seq
   refine WP.cond rfl (fun q6 => ?_) (fun q6 => ?_)
   ·refine WP.S s_r_check fun _ z => ?_; simp +decide only [TF, q6, ↓reduceIte]; apply z; clear z
    apply WP.ret
    exact Ends.P rfl (Le.of_eq (by simp +decide only [St.get, W, checkK, keyE, q1, q3, q4, q6, hJ, hI, ↓reduceIte]))
   iterate 2 first | (refine WP.R fun _ z => ?_; simp +decide only [TF, q6, ↓reduceIte]; apply z; clear z) | (apply WP.skip; show WP ..)
   show ∃ y, _ ∧ Weak _ _ _
   refine ⟨⟨j + 1, ?_⟩, ?_, ?_⟩
   ·exact ⟨by omega, by first | (simpa [q1, hk, q2, hg, hnf, q3, q4, hj, q5, hgj, q6] using hJ) | (simp_all; done)⟩
   ·dsimp only; omega
   exact Weak.store (by simp [St.get, lk, Le.refl, wrapS hjl (show l.length ≤ 140737488355328 by omega)]) (by simp [lk]) (by simp [lk]) (by simp [BClo, lk]) (by simp [lk])
  have hjk : k ≤ j := by have := of_decide_eq_false q5; omega
  rw [dropN (show (l.take k).length ≤ j by simp; omega)] at hJ
  simp only [List.any_nil] at hJ
  apply WP.exit; show WP ..
  refine WP.S s_r_check fun _ z => ?_
  simp +decide only [TF, hg, q5, ↓reduceIte]
  refine CallK.P (c_windows l[k]) rfl rfl ?_
  simp +decide only [TF, ↓reduceIte]
  apply z; clear z
  refine WP.cond rfl (fun q7 => ?_) (fun q7 => ?_)
  ·simp only [Bool.not_eq_true'] at q7
   refine WP.S s_r_check fun _ z => ?_; simp +decide only [TF, q7, ↓reduceIte]; apply z; clear z
   apply WP.ret
   exact Ends.P rfl (Le.of_eq (by simp +decide only [St.get, W, checkK, keyE, q1, q3, q4, q7, hJ, hI, ↓reduceIte]))
  simp only [Bool.not_eq_false'] at q7
  have hk0 : keyE (l.take k) l[k] = 0 := by clear hI; simp_all [keyE]
  simp only [hk0, bne_self_eq_false, Bool.false_eq_true, if_false] at hI
  iterate 2 first | (refine WP.R fun _ z => ?_; simp +decide only [TF, q7, ↓reduceIte]; apply z; clear z) | (apply WP.skip; show WP ..)
  show ∃ y, _ ∧ Weak _ _ _
  refine ⟨⟨k + 1, ?_⟩, ?_, ?_⟩
  ·exact ⟨by omega, by first | (simpa [q1, hk, q2, hg, hnf, q3, q4, hj, q5, hJ, q7, hk0] using hI) | (simp_all; done)⟩
  ·dsimp only; omega
  exact Weak.store (by simp [St.get, lk, Le.refl, hnf, wrapS hlt (show l.length ≤ 140737488355328 by omega)]) (by simp [lk]) (by simp [lk]) (by simp [BClo, lk]) (by simp [lk])
 have hge := ge_of_q q2
 rw [dropN hge] at hI
 simp only [chkK] at hI
 iterate 2 first | (refine WP.S s_r_check fun _ z => ?_; simp +decide only [TF, q2, ↓reduceIte]; apply z; clear z) | (apply WP.exit; show WP ..)
 apply WP.ret
 exact Ends.P rfl (Le.of_eq (by simp +decide only [St.get, W, checkK, q1, hI, ↓reduceIte]))
theorem acc_find (id : List UInt8) (now skew : Int) : ∀ (l : List Key) (c : Int), 0 ≤ c → (ixP (fun k => k.id == id) l c = -1 ∧ accD l id now skew = (zeroK, 26)) ∨
  ∃ (i : Nat) (h : i < l.length), ixP (fun k => k.id == id) l c = c + i ∧ accD l id now skew = (if (chkW l[i].af l[i].au now skew != 0) = true then (zeroK, chkW l[i].af l[i].au now skew) else (l[i], 0))
 | [], c, _ => .inl ⟨rfl, rfl⟩
 | k :: t, c, hc => by
  by_cases h : (k.id == id) = true
  ·exact .inr ⟨0, by simp, by simp [ixP, h], by simp [accD, h]⟩
  ·rcases acc_find id now skew t (c + 1) (by omega) with ⟨h1, h2⟩ | ⟨i, hi, h1, h2⟩
   ·exact .inl ⟨by simp only [ixP, h]; exact h1, by simp only [accD, h]; exact h2⟩
   ·refine .inr ⟨i + 1, by simpa using hi, ?_, ?_⟩
    ·simp only [ixP, h, Bool.false_eq_true, if_false]; rw [h1]; omega
    ·simp only [accD, h, Bool.false_eq_true, if_false]; rw [h2]; rfl
theorem acc_cases (l : List Key) (id : List UInt8) (now skew : Int) : (ixP (fun k => k.id == id) l 0 = -1 ∧ accD l id now skew = (zeroK, 26)) ∨
  ∃ (i : Nat) (h : i < l.length), ixP (fun k => k.id == id) l 0 = i ∧ accD l id now skew = (if (chkW l[i].af l[i].au now skew != 0) = true then (zeroK, chkW l[i].af l[i].au now skew) else (l[i], 0)) := by
 rcases acc_find id now skew l 0 (Int.le_refl 0) with h | ⟨i, h, h1, h2⟩
 ·exact .inl h
 ·exact .inr ⟨i, h, by simpa using h1, h2⟩
theorem accD_cons (k : Key) (t : List Key) (id : List UInt8) (now skew : Int) : accD (k :: t) id now skew = if k.id == id then (if (chkW k.af k.au now skew != 0) = true then (zeroK, chkW k.af k.au now skew) else (k, 0)) else accD t id now skew := rfl
theorem accD_nil (id : List UInt8) (now skew : Int) : accD [] id now skew = (zeroK, 26) := rfl
theorem chkK_word : ∀ (l seen : List Key), chkK seen l = 0 → ∀ k ∈ l, keyE [] k = 0
 | [], _, _, k, hk => by simp at hk
 | q :: t, seen, h, k, hk => by
  rw [chkK] at h
  split at h
  ·rename_i h1; rw [h] at h1; simp at h1
  ·rename_i h1
   rcases List.mem_cons.1 hk with rfl | hk
   ·simp only [bne_iff_ne, ne_eq, Decidable.not_not] at h1
    unfold keyE at h1 ⊢
    repeat' split at h1
    all_goals first | (cases h1; done) | simp_all
   ·exact chkK_word t _ h k hk
theorem checkK_word {l : List Key} (h : checkK l = 0) : ∀ k ∈ l, wordB k.id = true ∧ k.id ≠ [] := by
 rw [checkK] at h
 split at h
 ·cases h
 intro k hk
 have := chkK_word l [] h k hk
 unfold keyE at this
 split at this
 ·cases this
 ·rename_i h1
  have hw : wordB k.id = true := by simpa using h1
  exact ⟨hw, (by intro e; rw [e] at hw; simp [wordB] at hw)⟩
theorem eqK_zero {k : Key} (h : k.id ≠ []) : eqK k zeroK = false := by simp [eqK, zeroK, h]
theorem sgL_cons (now : Int) (b k : Key) (t : List Key) : sgL now b (k :: t) = sgL now (if inB k.sf k.su now && bestB b k then k else b) t := rfl
theorem sgL_nil (now : Int) (b : Key) : sgL now b [] = b := rfl
theorem inB_lim (f u t : Int) : inB f u (limB t) = inB f u t := by simp only [inB, lim_lim]
theorem eqK_iff (a b : Key) : eqK a b = true ↔ a = b := by
 cases a; cases b; simp [eqK]
theorem zK (h : 39 < Tryz.prog.types.size) : (Tryz.prog.types[39]'h).size = 6 := by kernel_rfl
abbrev s_r_same : List Nat := [0, 1, 4, 5, 10, 14, 25]
theorem c_r_same (a : List Key) (na : Bool) (b : List Key) (nb : Bool) (ha : a.length ≤ 1099511627776) (hna : na = true → a = []) (hb : b.length ≤ 1099511627776) (hnb : nb = true → b = []) : CallP Pr 54 [.slice 6 na (a.map Key.cs) none, .slice 6 nb (b.map Key.cs) none] (.bool (sameK a b)) := by
 refine CallP.W Tryz.func54 Tryz.ntmps54 ?_
 simp only [frameOf, Nat.zero_add]
 iterate 3 first | (refine WP.S s_r_same fun _ z => ?_; simp +decide only [TF, ↓reduceIte]; apply z; clear z) | apply WP.seq
 refine WP.cond rfl (fun q1 => ?_) (fun q1 => ?_)
 ·have hF : sameK a b = false := all2_len eqK a b (by intro e; simp [e] at q1)
  refine WP.S s_r_same fun _ z => ?_; simp +decide only [TF, q1, ↓reduceIte]; apply z; clear z
  apply WP.ret
  exact Ends.P rfl (Le.of_eq (by simp +decide only [St.get, W, hF, ↓reduceIte]))
 have hlen : a.length = b.length := by simp at q1; omega
 iterate 2 first | (apply WP.skip; show WP ..) | apply WP.seq
 refine WP.S [0, 1, 5] fun _ z => ?_; simp +decide only [TF, q1, ↓reduceIte]; apply z; clear z
 apply WP.block
 refine WP.lp [0, 1] (X := {k : Nat // k ≤ a.length ∧ sameK a b = all2 eqK (a.drop k) (b.drop k)}) (fun x => match x with | ⟨(k), _⟩ => [(5, .int .i64 k)]) (fun x => match x with | ⟨(k), _⟩ => []) (fun x => match x with | ⟨(k), _⟩ => a.length - k) (by simp +decide only [W, ↓reduceIte]; rfl) ?_ ⟨(0), ⟨Nat.zero_le _, by simp [sameK]⟩⟩ ?_
 rotate_left
 ·exact Weak.store (by simp [St.get, lk, W, Le.refl]) (by simp [lk]) (by simp [lk]) (by simp [BClo, lk]) (by simp [lk])
 rintro ⟨k, hk, hI⟩
 dsimp only
 simp only [List.cons_append, List.nil_append]
 iterate 2 first | (refine WP.S s_r_same fun _ z => ?_; simp +decide only [TF, ↓reduceIte]; apply z; clear z) | apply WP.seq
 refine WP.cond rfl (fun q2 => ?_) (fun q2 => ?_)
 ·have hlt := lt_of_q q2
  have hg : (a.map Key.cs)[k]? = some [.str a[k].id, .str a[k].sec, .int .i64 a[k].sf, .int .i64 a[k].su, .int .i64 a[k].af, .int .i64 a[k].au] := getM hlt
  have hnf := nl_false hna hlt
  rw [dropE hlt] at hI
  have hlt2 : k < b.length := by omega
  have hgb : (b.map Key.cs)[k]? = some [.str b[k].id, .str b[k].sec, .int .i64 b[k].sf, .int .i64 b[k].su, .int .i64 b[k].af, .int .i64 b[k].au] := getM hlt2
  have hnfb := nl_false hnb hlt2
  rw [dropE hlt2, all2_cons] at hI
  iterate 4 first | (refine WP.D s_r_same fun _ z => ?_; simp +decide only [TF, q2, hg, hnf, hgb, hnfb, ↓reduceIte]; refine z _ _ (by kernel_rfl) ?_; clear z) | (apply WP.skip; show WP ..) | apply WP.block | apply WP.seq
  refine WP.cond rfl (fun q3 => ?_) (fun q3 => ?_)
  ·have hz : eqK a[k] b[k] = false := by have hq := q3; simp only [Bool.not_eq_true'] at hq; exact hq
   have hF : sameK a b = false := by rw [hI, hz]; rfl
   refine WP.S s_r_same fun _ z => ?_; simp +decide only [TF, q3, ↓reduceIte]; apply z; clear z
   apply WP.ret
   exact Ends.P rfl (Le.of_eq (by simp +decide only [St.get, W, hF, ↓reduceIte]))
  have hz : eqK a[k] b[k] = true := by have hq := q3; simp only [Bool.not_eq_false'] at hq; exact hq
  rw [hz, Bool.true_and] at hI
  iterate 2 first | (refine WP.R fun _ z => ?_; simp +decide only [TF, q3, ↓reduceIte]; apply z; clear z) | (apply WP.skip; show WP ..)
  show ∃ y, _ ∧ Weak _ _ _
  refine ⟨⟨k + 1, ?_⟩, ?_, ?_⟩
  ·exact ⟨by omega, by first | (simpa [q1, hk, q2, hg, hnf, hgb, hnfb, q3] using hI) | (simp_all; done)⟩
  ·dsimp only; omega
  exact Weak.store (by simp [St.get, lk, Le.refl, hnf, hnfb, wrapS hlt (show a.length ≤ 140737488355328 by omega)]) (by simp [lk]) (by simp [lk]) (by simp [BClo, lk]) (by simp [lk])
 have hge := ge_of_q q2
 rw [dropN hge, dropN (show b.length ≤ k by omega)] at hI
 simp only [all2_nil] at hI
 iterate 2 first | (refine WP.S s_r_same fun _ z => ?_; simp +decide only [TF, q2, ↓reduceIte]; apply z; clear z) | (apply WP.exit; show WP ..)
 apply WP.ret
 exact Ends.P rfl (Le.of_eq (by simp +decide only [St.get, W, hI, ↓reduceIte]))
abbrev s_accepting : List Nat := [0, 1, 2, 3, 8, 9, 10, 11, 16, 27]
theorem c_accepting (l : List Key) (nl : Bool) (id : List UInt8) (now skew : Int) (hn : l.length ≤ 1099511627776) (hnl : nl = true → l = []) : CallP Pr 74 [.slice 6 nl (l.map Key.cs) none, .str id, .int .i64 now, .int .i64 skew] (.tup [.agg [.str (accD l id now skew).1.id, .str (accD l id now skew).1.sec, .int .i64 (accD l id now skew).1.sf, .int .i64 (accD l id now skew).1.su, .int .i64 (accD l id now skew).1.af, .int .i64 (accD l id now skew).1.au], .int .i64 (accD l id now skew).2]) := by
 refine CallP.W Tryz.func74 Tryz.ntmps74 ?_
 simp only [frameOf, Nat.reduceAdd, Nat.zero_add]
 rcases acc_cases l id now skew with ⟨hx, hacc⟩ | ⟨i, hi, hx, hacc⟩
 ·refine WP.S s_accepting fun _ z => ?_; simp +decide only [TF, ↓reduceIte]; apply z; clear z
  refine WP.S s_accepting fun _ z => ?_
  simp +decide only [TF, ↓reduceIte]
  refine CallK.P (c_find l nl id hn hnl) rfl rfl ?_
  simp +decide only [TF, hx, ↓reduceIte]
  apply z; clear z
  iterate 4 first | (refine WP.S s_accepting fun _ z => ?_; simp +decide only [TF, ↓reduceIte]; apply z; clear z) | refine WP.cT ?_ | apply WP.seq
  apply WP.ret
  exact Ends.P (d := .tup [_, _]) rfl (Le.of_eq (by simp [St.get, W, Pr_prog, zK, zeroK, hacc]))
 have hnf := nl_false hnl hi
 have hg : (l.map Key.cs)[i]? = some [.str l[i].id, .str l[i].sec, .int .i64 l[i].sf, .int .i64 l[i].su, .int .i64 l[i].af, .int .i64 l[i].au] := getM hi
 have hn0 : decide ((i : Int) < 0) = false := by simp
 refine WP.S s_accepting fun _ z => ?_; simp +decide only [TF, hnf, ↓reduceIte]; apply z; clear z
 refine WP.S s_accepting fun _ z => ?_
 simp +decide only [TF, ↓reduceIte]
 refine CallK.P (c_find l false id hn nofun) rfl rfl ?_
 simp +decide only [TF, hx, ↓reduceIte]
 apply z; clear z
 iterate 5 first | (refine WP.S s_accepting fun _ z => ?_; simp +decide only [TF, hn0, ↓reduceIte]; apply z; clear z) | (apply WP.skip; show WP ..) | refine WP.cF ?_ | apply WP.seq
 refine WP.S s_accepting fun _ z => ?_
 simp +decide only [TF, hg, ↓reduceIte]
 refine CallK.P (c_ck_check l[i].af l[i].au now skew) rfl rfl ?_
 simp +decide only [TF, ↓reduceIte]
 apply z; clear z
 refine WP.S s_accepting fun _ z => ?_; simp +decide only [TF, ↓reduceIte]; apply z; clear z
 refine WP.cond rfl (fun q1 => ?_) (fun q1 => ?_)
 ·refine WP.S s_accepting fun _ z => ?_; simp +decide only [TF, q1, ↓reduceIte]; apply z; clear z
  apply WP.ret
  exact Ends.P (d := .tup [_, _]) rfl (Le.of_eq (by simp [St.get, W, Pr_prog, zK, zeroK, hacc, q1]))
 iterate 2 first | (refine WP.S s_accepting fun _ z => ?_; simp +decide only [TF, hg, q1, ↓reduceIte]; apply z; clear z) | (apply WP.skip; show WP ..)
 apply WP.ret
 exact Ends.P (d := .tup [_, _]) rfl (Le.of_eq (by simp [St.get, W, Pr_prog, zK, hacc, q1]))
abbrev s_r_accepting : List Nat := [0, 1, 2, 3, 8, 9, 10, 11, 15, 24, 34]
theorem c_r_accepting (l : List Key) (nl : Bool) (id : List UInt8) (now skew : Int) (hn : l.length ≤ 1099511627776) (hnl : nl = true → l = []) : CallP Pr 111 [.slice 6 nl (l.map Key.cs) none, .str id, .int .i64 now, .int .i64 skew] (.tup [.agg [.str (accD l id now skew).1.id, .str (accD l id now skew).1.sec, .int .i64 (accD l id now skew).1.sf, .int .i64 (accD l id now skew).1.su, .int .i64 (accD l id now skew).1.af, .int .i64 (accD l id now skew).1.au], .int .i64 (accD l id now skew).2]) := by
 refine CallP.W Tryz.func111 Tryz.ntmps111 ?_
 simp only [frameOf, Nat.reduceAdd, Nat.zero_add]
 iterate 2 first | (refine WP.S s_r_accepting fun _ z => ?_; simp +decide only [TF, ↓reduceIte]; apply z; clear z) | apply WP.seq
 refine WP.S [0, 1, 2, 3, 8, 10] fun _ z => ?_; simp +decide only [TF, ↓reduceIte]; apply z; clear z
 apply WP.block
 refine WP.lp [0, 1, 2, 3, 8] (X := {k : Nat // k ≤ l.length ∧ accD l id now skew = accD (l.drop k) id now skew}) (fun x => match x with | ⟨(k), _⟩ => [(10, .int .i64 k)]) (fun x => match x with | ⟨(k), _⟩ => [(0, .box 39 [.str [], .str [], .int .i64 0, .int .i64 0, .int .i64 0, .int .i64 0])]) (fun x => match x with | ⟨(k), _⟩ => l.length - k) (by simp +decide only [W, ↓reduceIte]; rfl) ?_ ⟨(0), ⟨Nat.zero_le _, by simp⟩⟩ ?_
 rotate_left
 ·exact Weak.store (by simp [St.get, lk, W, Le.refl, W]) (by simp [lk]) (by simp [lk]) (by simp [BClo, lk]) (by simp [lk])
 rintro ⟨k, hk, hI⟩
 dsimp only
 simp only [List.cons_append, List.nil_append]
 iterate 2 first | (refine WP.S s_r_accepting fun _ z => ?_; simp +decide only [TF, ↓reduceIte]; apply z; clear z) | apply WP.seq
 refine WP.cond rfl (fun q1 => ?_) (fun q1 => ?_)
 ·have hlt := lt_of_q q1
  have hg : (l.map Key.cs)[k]? = some [.str l[k].id, .str l[k].sec, .int .i64 l[k].sf, .int .i64 l[k].su, .int .i64 l[k].af, .int .i64 l[k].au] := getM hlt
  have hnf := nl_false hnl hlt
  rw [dropE hlt] at hI
  simp only [accD_cons] at hI
  iterate 4 first | (refine WP.S s_r_accepting fun _ z => ?_; simp +decide only [TF, q1, hg, hnf, ↓reduceIte]; apply z; clear z) | (apply WP.skip; show WP ..) | apply WP.block | apply WP.seq
  refine WP.cond rfl (fun q2 => ?_) (fun q2 => ?_)
  ·refine WP.S s_r_accepting fun _ z => ?_
   simp +decide only [TF, hg, q2, ↓reduceIte]
   refine CallK.P (c_r_ck_check _ _ _ _) rfl rfl ?_
   simp +decide only [TF, ↓reduceIte]
   apply z; clear z
   iterate 2 first | (refine WP.S s_r_accepting fun _ z => ?_; simp +decide only [TF, ↓reduceIte]; apply z; clear z) | apply WP.seq
   refine WP.cond rfl (fun q3 => ?_) (fun q3 => ?_)
   ·refine WP.S s_r_accepting fun _ z => ?_; simp +decide only [TF, q3, ↓reduceIte]; apply z; clear z
    apply WP.ret
    exact Ends.P (d := .tup [_, _]) rfl (Le.of_eq (by simp [St.get, W, Pr_prog, zK, hI, zeroK, q2, q3]))
   iterate 2 first | (refine WP.S s_r_accepting fun _ z => ?_; simp +decide only [TF, hg, q3, ↓reduceIte]; apply z; clear z) | (apply WP.skip; show WP ..)
   apply WP.ret
   exact Ends.P (d := .tup [_, _]) rfl (Le.of_eq (by simp [St.get, W, Pr_prog, zK, hI, q2, q3]))
  iterate 2 first | (refine WP.R fun _ z => ?_; simp +decide only [TF, q2, ↓reduceIte]; apply z; clear z) | (apply WP.skip; show WP ..)
  show ∃ y, _ ∧ Weak _ _ _
  refine ⟨⟨k + 1, ?_⟩, ?_, ?_⟩
  ·exact ⟨by omega, by first | (simpa [hk, q1, hg, hnf, q2] using hI) | (simp_all; done)⟩
  ·dsimp only; omega
  exact Weak.store (by simp [St.get, lk, Le.refl, hnf, wrapS hlt (show l.length ≤ 140737488355328 by omega)]) (by simp [lk]) (by simp [lk]) (by simp [BClo, lk]) (by simp [lk])
 have hge := ge_of_q q1
 rw [dropN hge] at hI
 simp only [accD_nil] at hI
 iterate 2 first | (refine WP.S s_r_accepting fun _ z => ?_; simp +decide only [TF, q1, ↓reduceIte]; apply z; clear z) | (apply WP.exit; show WP ..)
 apply WP.ret
 exact Ends.P (d := .tup [_, _]) rfl (Le.of_eq (by simp [St.get, W, Pr_prog, zK, hI, zeroK]))
theorem c_signing (l : List Key) (nl : Bool) (now : Int) (hn : l.length ≤ 1099511627776) (hnl : nl = true → l = []) (hl : ∀ k ∈ l, k.ok) : CallP Pr 22 [.slice 6 nl (l.map Key.cs) none, .int .i64 now] (.tup [.agg [.str (sgK l now).id, .str (sgK l now).sec, .int .i64 (sgK l now).sf, .int .i64 (sgK l now).su, .int .i64 (sgK l now).af, .int .i64 (sgK l now).au], .bool (!(eqK (sgK l now) zeroK))]) := by
 refine CallP.of_wp Tryz.func22 rfl (by kernel_rfl) Tryz.ntmps22 (by simp) ?_
 simp only [frameOf, Nat.zero_add]
 refine WP.sr [0, 1, 4] (by kernel_rfl) fun K hK => ?_
 simp (decide := true) only [TF, ↓reduceIte]
 refine hK _ _ ?_; clear hK K
 refine WP.sr [0, 1, 4] (by kernel_rfl) fun K hK => ?_
 simp (decide := true) only [TF, ↓reduceIte]
 refine CallK.pure (c_k_limited _) rfl rfl (by simp [-List.map_take]) ?_
 simp (decide := true) only [TF, ↓reduceIte]
 refine hK _ _ ?_; clear hK K
 refine WP.sr [0, 1, 4, 6] (by kernel_rfl) fun K hK => ?_
 simp (decide := true) only [TF, ↓reduceIte]
 refine hK _ _ ?_; clear hK K
 refine WP.seq ?_
 refine WP.sr [0, 1, 4, 6, 14] (by kernel_rfl) fun K hK => ?_
 simp (decide := true) only [TF, ↓reduceIte]
 refine CallK.pure (c_k_check l nl hn hnl hl) rfl rfl (by simp [-List.map_take]) ?_
 simp (decide := true) only [TF, ↓reduceIte]
 refine hK _ _ ?_; clear hK K
 refine WP.cond (b := _) rfl (fun q1 => ?_) (fun q1 => ?_)
 ·
  have hs : sgK l now = zeroK := by simp [sgK, q1]
  refine WP.sr [4, 5] (by kernel_rfl) fun K hK => ?_
  simp (decide := true) only [TF, q1, ↓reduceIte]
  refine hK _ _ ?_; clear hK K
  refine WP.ret ?_
  exact Ends.pure (d := .tup [_, _]) (.inr rfl) rfl (Le.of_eq (by simp [St.get, W, Pr_prog, zK, hs, zeroK, eqK])) (by simp)
 ·
  have hs : sgK l now = sgL now zeroK l := by simp [sgK, q1]
  refine WP.skip ?_
  show WP _ _ _ _ _ _
  refine WP.seq ?_
  refine WP.sr [1, 4, 6, 16, 17, 18] (by kernel_rfl) fun K hK => ?_
  simp (decide := true) only [TF, q1, ↓reduceIte]
  refine hK _ _ ?_; clear hK K
  refine WP.block ?_
  refine WP.lp [1, 4, 6, 16, 17] (X := {x : (Nat) × (Key) // match x with | (k, b) => k ≤ l.length ∧ sgL now zeroK l = sgL now b (l.drop k)}) (fun x => match x with | ⟨(k, b), _⟩ => [(18, .int .i64 k)]) (fun x => match x with | ⟨(k, b), _⟩ => [(0, .box 39 [.str [], .str [], .int .i64 0, .int .i64 0, .int .i64 0, .int .i64 0]), (1, .box 39 [.str b.id, .str b.sec, .int .i64 b.sf, .int .i64 b.su, .int .i64 b.af, .int .i64 b.au])]) (fun x => match x with | ⟨(k, b), _⟩ => l.length - k) (by simp (decide := true) only [W, ↓reduceIte]; rfl) ?_ ⟨(0, zeroK), ⟨Nat.zero_le _, by simp⟩⟩ ?_
  rotate_left
  ·exact Weak.store (by simp [St.get, lk, W, Le.refl]) (by simp [lk, zeroK]) (by simp [lk]) (by simp [BClo, lk]) (by simp [lk])
  rintro ⟨⟨k, b⟩, hk, hI⟩
  dsimp only
  simp only [List.cons_append, List.nil_append]
  refine WP.sr [1, 4, 6, 16, 17, 18, 19] (by kernel_rfl) fun K hK => ?_
  simp (decide := true) only [TF, ↓reduceIte]
  refine hK _ _ ?_; clear hK K
  refine WP.seq ?_
  refine WP.cond (b := _) rfl (fun q2 => ?_) (fun q2 => ?_)
  ·
   have hlt := lt_of_q q2
   have hg : (l.map Key.cs)[k]? = some [.str l[k].id, .str l[k].sec, .int .i64 l[k].sf, .int .i64 l[k].su, .int .i64 l[k].af, .int .i64 l[k].au] := getM hlt
   have hnf := nl_false hnl hlt
   rw [dropE hlt] at hI
   simp only [sgL_cons] at hI
   refine WP.skip ?_
   show WP _ _ _ _ _ _
   refine WP.seq ?_
   refine WP.block ?_
   refine WP.sr [1, 4, 6, 8, 16, 17, 18] (by kernel_rfl) fun K hK => ?_
   simp (decide := true) only [TF, q2, hg, hnf, ↓reduceIte]
   refine hK _ _ ?_; clear hK K
   refine WP.seq ?_
   refine WP.sr [1, 4, 6, 8, 16, 17, 18, 26] (by kernel_rfl) fun K hK => ?_
   simp (decide := true) only [TF, ↓reduceIte]
   refine CallK.pure (c_c_in _ _ _) rfl rfl (by simp [-List.map_take]) ?_
   simp (decide := true) only [TF, inB_lim, ↓reduceIte]
   refine hK _ _ ?_; clear hK K
   refine WP.cond (b := _) rfl (fun q3 => ?_) (fun q3 => ?_)
   ·
    simp only [Bool.not_eq_true'] at q3
    have hni : inB l[k].sf l[k].su now = false := by simpa using q3
    simp only [hni, Bool.false_and, Bool.false_eq_true, if_false] at hI
    refine WP.exit ?_
    show WP _ _ _ _ _ _
    refine WP.region (by kernel_rfl) fun K hK => ?_
    simp (decide := true) only [TF, q3, ↓reduceIte]
    refine hK _ _ ?_; clear hK K
    show ∃ y, _ ∧ Weak _ _ _
    refine ⟨⟨(k + 1, b), ?_⟩, ?_, ?_⟩
    ·exact ⟨by omega, hI⟩
    ·dsimp only; omega
    ·exact Weak.store (by simp [St.get, lk, Le.refl, hnf, wrapS hlt (show l.length ≤ 140737488355328 by omega)]) (by simp [lk]) (by simp [lk]) (by simp [BClo, lk]) (by simp [lk])
   ·
    simp only [Bool.not_eq_false'] at q3
    have hni : inB l[k].sf l[k].su now = true := by simpa using q3
    simp only [hni, Bool.true_and] at hI
    refine WP.skip ?_
    show WP _ _ _ _ _ _
    refine WP.sm [1, 4, 6, 8, 16, 17, 18] 54 (.bool (bestB b l[k])) (by kernel_rfl) (fun K hK => ?_) ?_
    ·
     refine runOps.take 4 fun J hJ => ?_
     simp (decide := true) only [TF, q3, ↓reduceIte]
     refine hJ _ _ ?_; clear hJ J
     refine runOps.part 30 rfl (fun q4 => ?_) (fun q4 => ?_)
     ·
      simp (decide := true) only [TF, q4, ↓reduceIte]
      exact hK _ _ (by simp [St.get, lk, W]) rfl (Le.of_eq (by simp_all [St.get, lk, W, bne, bestB, eqK, zeroK, gtB]))
     ·
      refine runOps.take 9 fun J hJ => ?_
      simp (decide := true) only [TF, q4, ↓reduceIte]
      refine hJ _ _ ?_; clear hJ J
      refine runOps.part 39 rfl (fun q5 => ?_) (fun q5 => ?_)
      ·
       simp (decide := true) only [TF, q5, ↓reduceIte]
       exact hK _ _ (by simp [St.get, lk, W]) rfl (Le.of_eq (by simp [St.get, lk, bestB, eqK, zeroK, gtB, q5]))
      ·
       refine runOps.take 8 fun J hJ => ?_
       simp (decide := true) only [TF, q5, ↓reduceIte]
       refine hJ _ _ ?_; clear hJ J
       refine runOps.part 47 rfl (fun q6 => ?_) (fun q6 => ?_)
       ·
        simp (decide := true) only [TF, q6, ↓reduceIte]
        exact hK _ _ (by simp [St.get, lk, W]) rfl (Le.of_eq (by simp_all [St.get, lk, W, bne, bestB, eqK, zeroK, gtB]))
       ·
        simp (decide := true) only [TF, q6, ↓reduceIte]
        exact hK _ _ (by simp [St.get, lk, W]) rfl (Le.of_eq (by simp_all [St.get, lk, W, bne, bestB, eqK, zeroK, gtB]))
    ·
     refine WP.cond (b := _) rfl (fun q7 => ?_) (fun q7 => ?_)
     ·
      have hbt := q7
      simp only [hbt, if_true] at hI
      refine WP.region (by kernel_rfl) fun K hK => ?_
      simp (decide := true) only [TF, q3, q7, ↓reduceIte]
      refine hK _ _ ?_; clear hK K
      show WP _ _ _ _ _ _
      refine WP.region (by kernel_rfl) fun K hK => ?_
      simp (decide := true) only [TF, ↓reduceIte]
      refine hK _ _ ?_; clear hK K
      show ∃ y, _ ∧ Weak _ _ _
      refine ⟨⟨(k + 1, l[k]), ?_⟩, ?_, ?_⟩
      ·exact ⟨by omega, hI⟩
      ·dsimp only; omega
      ·exact Weak.store (by simp [St.get, lk, Le.refl, hnf, wrapS hlt (show l.length ≤ 140737488355328 by omega)]) (by simp [lk]) (by simp [lk]) (by simp [BClo, lk]) (by simp [lk])
     ·
      simp only [q7, Bool.false_eq_true, if_false] at hI
      refine WP.skip ?_
      show WP _ _ _ _ _ _
      refine WP.region (by kernel_rfl) fun K hK => ?_
      simp (decide := true) only [TF, q3, q7, ↓reduceIte]
      refine hK _ _ ?_; clear hK K
      show ∃ y, _ ∧ Weak _ _ _
      refine ⟨⟨(k + 1, b), ?_⟩, ?_, ?_⟩
      ·exact ⟨by omega, hI⟩
      ·dsimp only; omega
      ·exact Weak.store (by simp [St.get, lk, Le.refl, hnf, wrapS hlt (show l.length ≤ 140737488355328 by omega)]) (by simp [lk]) (by simp [lk]) (by simp [BClo, lk]) (by simp [lk])
  ·
   have hge := ge_of_q q2
   rw [dropN hge] at hI
   simp only [sgL_nil] at hI
   rw [hI] at hs
   refine WP.exit ?_
   show WP _ _ _ _ _ _
   refine WP.sd [4, 5] (by kernel_rfl) (by kernel_rfl) fun K hK => ?_
   simp (decide := true) only [TF, q2, ↓reduceIte]
   refine hK _ _ (by kernel_rfl) ?_
   clear hK K
   refine WP.ret ?_
   exact Ends.pure (d := .tup [_, _]) (.inr rfl) rfl (Le.of_eq (by simp [St.get, W, Pr_prog, zK, hs, eqK, zeroK])) (by simp)
abbrev s_r_signing : List Nat := [0, 1, 4, 5, 6, 7, 10, 15, 25, 73]
theorem c_r_signing (l : List Key) (nl : Bool) (now : Int) (hn : l.length ≤ 1099511627776) (hnl : nl = true → l = []) (hl : ∀ k ∈ l, k.ok) : CallP Pr 58 [.slice 6 nl (l.map Key.cs) none, .int .i64 now] (.tup [.agg [.str (sgK l now).id, .str (sgK l now).sec, .int .i64 (sgK l now).sf, .int .i64 (sgK l now).su, .int .i64 (sgK l now).af, .int .i64 (sgK l now).au], .bool (!(eqK (sgK l now) zeroK))]) := by
 refine CallP.W Tryz.func58 Tryz.ntmps58 ?_
 simp only [frameOf, Nat.zero_add]
 iterate 3 first | (refine WP.S s_r_signing fun _ z => ?_; simp +decide only [TF, ↓reduceIte]; apply z; clear z) | apply WP.seq
 refine WP.S s_r_signing fun _ z => ?_
 simp +decide only [TF, ↓reduceIte]
 refine CallK.P (c_r_check l nl hn hnl hl) rfl rfl ?_
 simp +decide only [TF, ↓reduceIte]
 apply z; clear z
 refine WP.cond rfl (fun q1 => ?_) (fun q1 => ?_)
 ·have hs : sgK l now = zeroK := by simp [sgK, q1]
  refine WP.S s_r_signing fun _ z => ?_; simp +decide only [TF, q1, ↓reduceIte]; apply z; clear z
  apply WP.ret
  exact Ends.P (d := .tup [_, _]) rfl (Le.of_eq (by simp [St.get, W, Pr_prog, zK, hs, zeroK, eqK]))
 have hs : sgK l now = sgL now zeroK l := by simp [sgK, q1]
 have hcw := checkK_word (by simpa using q1)
 iterate 2 first | (apply WP.skip; show WP ..) | apply WP.seq
 refine WP.S [0, 1, 4, 6, 7] fun _ z => ?_; simp +decide only [TF, q1, ↓reduceIte]; apply z; clear z
 apply WP.block
 refine WP.lp [0, 1, 4] (X := {x : (Nat) × (Int) × (Key) // match x with | (k, b, sb) => k ≤ l.length ∧ sgL now zeroK l = sgL now sb (l.drop k) ∧ ((b = -1 ∧ sb = zeroK) ∨ ∃ i, i < l.length ∧ b = (i : Int) ∧ l[i]? = some sb)}) (fun x => match x with | ⟨(k, b, sb), _⟩ => [(6, .int .i64 b), (7, .int .i64 k)]) (fun x => match x with | ⟨(k, b, sb), _⟩ => [(0, .box 39 [.str [], .str [], .int .i64 0, .int .i64 0, .int .i64 0, .int .i64 0])]) (fun x => match x with | ⟨(k, b, sb), _⟩ => l.length - k) (by simp +decide only [W, ↓reduceIte]; rfl) ?_ ⟨(0, -1, zeroK), ⟨Nat.zero_le _, by simp, .inl ⟨rfl, rfl⟩⟩⟩ ?_
 rotate_left
 ·exact Weak.store (by simp [St.get, lk, W, Le.refl]) (by simp [lk]) (by simp [lk]) (by simp [BClo, lk]) (by simp [lk])
 rintro ⟨⟨k, b, sb⟩, hk, hI, hb⟩
 dsimp only
 simp only [List.cons_append, List.nil_append]
 rcases hb with ⟨hb1, hb2⟩ | ⟨i, hi, hb1, hsb⟩
 ·have heq : eqK sb zeroK = true := by rw [hb2]; rfl
  iterate 2 first | (refine WP.S s_r_signing fun _ z => ?_; simp +decide only [TF, hb1, ↓reduceIte]; apply z; clear z) | apply WP.seq
  refine WP.cond rfl (fun q2 => ?_) (fun q2 => ?_)
  ·have hlt := lt_of_q q2
   have hg : (l.map Key.cs)[k]? = some [.str l[k].id, .str l[k].sec, .int .i64 l[k].sf, .int .i64 l[k].su, .int .i64 l[k].af, .int .i64 l[k].au] := getM hlt
   have hnf := nl_false hnl hlt
   rw [dropE hlt] at hI
   simp only [sgL_cons] at hI
   iterate 4 first | (apply WP.skip; show WP ..) | apply WP.block | apply WP.seq
   refine WP.S s_r_signing fun _ z => ?_
   simp +decide only [TF, q2, hg, hnf, ↓reduceIte]
   refine CallK.P (c_r_in _ _ _) rfl rfl ?_
   simp +decide only [TF, ↓reduceIte]
   apply z; clear z
   refine WP.cond rfl (fun q3 => ?_) (fun q3 => ?_)
   ·simp only [Bool.not_eq_true'] at q3
    have hni : inB l[k].sf l[k].su now = false := by simpa using q3
    simp only [hni, Bool.false_and, Bool.false_eq_true, if_false] at hI
    iterate 2 first | (refine WP.R fun _ z => ?_; simp +decide only [TF, q3, ↓reduceIte]; apply z; clear z) | (apply WP.exit; show WP ..)
    show ∃ y, _ ∧ Weak _ _ _
    refine ⟨⟨(k + 1, b, sb), ?_⟩, ?_, ?_⟩
    ·exact ⟨by omega, hI, .inl ⟨hb1, hb2⟩⟩
    ·dsimp only; omega
    exact Weak.store (by simp [St.get, lk, Le.refl, hb1, hnf, wrapS hlt (show l.length ≤ 140737488355328 by omega)]) (by simp [lk]) (by simp [lk]) (by simp [BClo, lk]) (by simp [lk])
   simp only [Bool.not_eq_false'] at q3
   have hni : inB l[k].sf l[k].su now = true := by simpa using q3
   simp only [hni, Bool.true_and] at hI
   apply WP.skip; show WP ..
   refine WP.smd [0, 1, 4, 6, 7] 70 (.bool (bestB sb l[k])) (by kernel_rfl) (by kernel_rfl) (fun K hK => ?_) ?_
   ·simp +decide only [TF, q3, ↓reduceIte]
    exact hK _ _ (by kernel_rfl) (by simp [St.get, lk, W]) rfl (Le.of_eq (by simp [St.get, lk, bestB, gtB, heq]))
   refine WP.cond rfl (fun q4 => ?_) (fun q4 => ?_)
   ·have hbt := q4
    simp only [hbt, if_true] at hI
    iterate 2 first | (refine WP.R fun _ z => ?_; simp +decide only [TF, q3, q4, ↓reduceIte]; apply z; clear z; show WP ..) | (refine WP.R fun _ z => ?_; simp +decide only [TF, ↓reduceIte]; apply z; clear z)
    show ∃ y, _ ∧ Weak _ _ _
    refine ⟨⟨(k + 1, (k : Int), l[k]), ?_⟩, ?_, ?_⟩
    ·exact ⟨by omega, hI, .inr ⟨k, hlt, rfl, List.getElem?_eq_getElem hlt⟩⟩
    ·dsimp only; omega
    exact Weak.store (by simp [St.get, lk, Le.refl, hnf, wrapS hlt (show l.length ≤ 140737488355328 by omega)]) (by simp [lk]) (by simp [lk]) (by simp [BClo, lk]) (by simp [lk])
   simp only [q4, Bool.false_eq_true, if_false] at hI
   iterate 2 first | (refine WP.R fun _ z => ?_; simp +decide only [TF, q3, q4, ↓reduceIte]; apply z; clear z) | (apply WP.skip; show WP ..)
   show ∃ y, _ ∧ Weak _ _ _
   refine ⟨⟨(k + 1, b, sb), ?_⟩, ?_, ?_⟩
   ·exact ⟨by omega, hI, .inl ⟨hb1, hb2⟩⟩
   ·dsimp only; omega
   exact Weak.store (by simp [St.get, lk, Le.refl, hb1, hnf, wrapS hlt (show l.length ≤ 140737488355328 by omega)]) (by simp [lk]) (by simp [lk]) (by simp [BClo, lk]) (by simp [lk])
  have hge := ge_of_q q2
  rw [dropN hge] at hI
  simp only [sgL_nil] at hI
  rw [hI] at hs
  iterate 5 first | (refine WP.S s_r_signing fun _ z => ?_; simp +decide only [TF, q2, ↓reduceIte]; apply z; clear z) | (apply WP.exit; show WP ..) | refine WP.cT ?_ | apply WP.seq
  apply WP.ret
  exact Ends.P (d := .tup [_, _]) rfl (Le.of_eq (by simp [St.get, W, Pr_prog, zK, hs, hb2, zeroK, eqK]))
 have hmem : sb ∈ l := List.mem_of_getElem? hsb
 have heq : eqK sb zeroK = false := eqK_zero (hcw sb hmem).2
 have hgi : (l.map Key.cs)[i]? = some [.str sb.id, .str sb.sec, .int .i64 sb.sf, .int .i64 sb.su, .int .i64 sb.af, .int .i64 sb.au] := by rw [List.getElem?_map, hsb]; rfl
 have hn0 : decide ((i : Int) < 0) = false := by simp
 have hnf2 := nl_false hnl hi
 have hb0 := hb1
 iterate 2 first | (refine WP.S s_r_signing fun _ z => ?_; simp +decide only [TF, hb1, hnf2, ↓reduceIte]; apply z; clear z) | apply WP.seq
 refine WP.cond rfl (fun q5 => ?_) (fun q5 => ?_)
 ·have hlt := lt_of_q q5
  have hg : (l.map Key.cs)[k]? = some [.str l[k].id, .str l[k].sec, .int .i64 l[k].sf, .int .i64 l[k].su, .int .i64 l[k].af, .int .i64 l[k].au] := getM hlt
  have hnf := nl_false hnl hlt
  rw [dropE hlt] at hI
  simp only [sgL_cons] at hI
  iterate 4 first | (apply WP.skip; show WP ..) | apply WP.block | apply WP.seq
  refine WP.S s_r_signing fun _ z => ?_
  simp +decide only [TF, q5, hg, ↓reduceIte]
  refine CallK.P (c_r_in _ _ _) rfl rfl ?_
  simp +decide only [TF, ↓reduceIte]
  apply z; clear z
  refine WP.cond rfl (fun q6 => ?_) (fun q6 => ?_)
  ·simp only [Bool.not_eq_true'] at q6
   have hni : inB l[k].sf l[k].su now = false := by simpa using q6
   simp only [hni, Bool.false_and, Bool.false_eq_true, if_false] at hI
   iterate 2 first | (refine WP.R fun _ z => ?_; simp +decide only [TF, q6, ↓reduceIte]; apply z; clear z) | (apply WP.exit; show WP ..)
   show ∃ y, _ ∧ Weak _ _ _
   refine ⟨⟨(k + 1, b, sb), ?_⟩, ?_, ?_⟩
   ·exact ⟨by omega, hI, .inr ⟨i, hi, hb1, hsb⟩⟩
   ·dsimp only; omega
   exact Weak.store (by simp [St.get, lk, Le.refl, hb1, hnf2, wrapS hlt (show l.length ≤ 140737488355328 by omega)]) (by simp [lk]) (by simp [lk]) (by simp [BClo, lk]) (by simp [lk])
  simp only [Bool.not_eq_false'] at q6
  have hni : inB l[k].sf l[k].su now = true := by simpa using q6
  simp only [hni, Bool.true_and] at hI
  apply WP.skip; show WP ..
  refine WP.smd [0, 1, 4, 6, 7] 70 (.bool (bestB sb l[k])) (by kernel_rfl) (by kernel_rfl) (fun K hK => ?_) ?_
  ·refine runOps.take 18 fun J hJ => ?_
   simp +decide only [TF, hgi, hn0, hg, q6, ↓reduceIte]
   refine hJ _ _ ?_; clear hJ J
   refine runOps.part 43 rfl (fun q7 => ?_) (fun q7 => ?_)
   ·simp +decide only [TF, q7, ↓reduceIte]
    exact hK _ _ (by kernel_rfl) (by simp [St.get, lk, W]) rfl (Le.of_eq (by simp [St.get, lk, bestB, gtB, heq, q7]))
   refine runOps.take 14 fun J hJ => ?_
   simp +decide only [TF, hgi, hg, q7, ↓reduceIte]
   refine hJ _ _ ?_; clear hJ J
   refine runOps.part 57 rfl (fun q8 => ?_) (fun q8 => ?_)
   ·simp +decide only [TF, hgi, hg, q8, ↓reduceIte]
    exact hK _ _ (by kernel_rfl) (by simp [St.get, lk, W]) rfl (Le.of_eq (by simp [St.get, lk, bestB, gtB, heq, q7, q8]))
   simp +decide only [TF, q8, ↓reduceIte]
   exact hK _ _ (by kernel_rfl) (by simp [St.get, lk, W]) rfl (Le.of_eq (by simp [St.get, lk, bestB, gtB, heq, q7, q8]))
  refine WP.cond rfl (fun q9 => ?_) (fun q9 => ?_)
  ·have hbt := q9
   simp only [hbt, if_true] at hI
   iterate 2 first | (refine WP.R fun _ z => ?_; simp +decide only [TF, q6, q9, ↓reduceIte]; apply z; clear z; show WP ..) | (refine WP.R fun _ z => ?_; simp +decide only [TF, ↓reduceIte]; apply z; clear z)
   show ∃ y, _ ∧ Weak _ _ _
   refine ⟨⟨(k + 1, (k : Int), l[k]), ?_⟩, ?_, ?_⟩
   ·exact ⟨by omega, hI, .inr ⟨k, hlt, rfl, List.getElem?_eq_getElem hlt⟩⟩
   ·dsimp only; omega
   exact Weak.store (by simp [St.get, lk, Le.refl, hnf2, wrapS hlt (show l.length ≤ 140737488355328 by omega)]) (by simp [lk]) (by simp [lk]) (by simp [BClo, lk]) (by simp [lk])
  simp only [q9, Bool.false_eq_true, if_false] at hI
  iterate 2 first | (refine WP.R fun _ z => ?_; simp +decide only [TF, q6, q9, ↓reduceIte]; apply z; clear z) | (apply WP.skip; show WP ..)
  show ∃ y, _ ∧ Weak _ _ _
  refine ⟨⟨(k + 1, b, sb), ?_⟩, ?_, ?_⟩
  ·exact ⟨by omega, hI, .inr ⟨i, hi, hb1, hsb⟩⟩
  ·dsimp only; omega
  exact Weak.store (by simp [St.get, lk, Le.refl, hb1, hnf2, wrapS hlt (show l.length ≤ 140737488355328 by omega)]) (by simp [lk]) (by simp [lk]) (by simp [BClo, lk]) (by simp [lk])
 have hge := ge_of_q q5
 rw [dropN hge] at hI
 simp only [sgL_nil] at hI
 rw [hI] at hs
 iterate 6 first | (refine WP.S s_r_signing fun _ z => ?_; simp +decide only [TF, hgi, hn0, q5, ↓reduceIte]; apply z; clear z) | (apply WP.exit; show WP ..) | (apply WP.skip; show WP ..) | refine WP.cF ?_ | apply WP.seq
 apply WP.ret
 exact Ends.P (d := .tup [_, _]) rfl (Le.of_eq (by simp [St.get, W, Pr_prog, zK, hs, heq]))
def flatK (l : List Key) : List D := (l.map Key.cs).flatten
theorem key_fr (t : Nat) (l : List Key) : ∀ x ∈ l.map Key.cs, ∀ d ∈ x, Fr t d := by
 intro x hx d hd
 obtain ⟨k, _, rfl⟩ := List.mem_map.1 hx
 simp only [Key.cs, List.mem_cons, List.not_mem_nil, or_false] at hd
 rcases hd with rfl | rfl | rfl | rfl | rfl | rfl <;> simp
theorem clo_flatK {S : Nat → Prop} (l : List Key) : ∀ d ∈ flatK l, Clo S d := by
 intro d hd
 obtain ⟨x, hx, hd⟩ := List.mem_flatten.1 hd
 exact (clo_key l).2 trivial x hx d hd
@[simp] theorem clo_flatK_iff {S : Nat → Prop} (l : List Key) : (∀ d ∈ flatK l, Clo S d) ↔ True := ⟨fun _ => trivial, fun _ => clo_flatK l⟩
@[simp] theorem bclo_flatK {S : Nat → Prop} (e : TypeId) (l : List Key) : BClo S (.arr e (flatK l)) ↔ True := ⟨fun _ => trivial, fun _ => clo_flatK l⟩
structure Del (p : Key → Bool) (l m : List Key) (i j : Nat) : Prop where
 len : m.length = l.length
 ij : i < j
 jl : j ≤ l.length
 pre : m.take i = (l.take j).filter (fun k => !p k)
 il : ((l.take j).filter (fun k => !p k)).length = i
 post : m.drop j = l.drop j
theorem Del.at {p : Key → Bool} {l m : List Key} {i j : Nat} (h : Del p l m i j) (hj : j < l.length) : m[j]'(by rw [h.len]; exact hj) = l[j] := by
 have h1 := dropE (l := m) (k := j) (by rw [h.len]; exact hj)
 have h2 := dropE hj
 rw [h.post, h2] at h1
 exact (List.cons.inj h1).1.symm
theorem filt_next (p : Key → Bool) (l : List Key) (j : Nat) (hj : j < l.length) : (l.take (j + 1)).filter (fun k => !p k) = (l.take j).filter (fun k => !p k) ++ (if p l[j] then [] else [l[j]]) := by
 rw [List.take_succ_eq_append_getElem hj, List.filter_append]
 cases h : p l[j] <;> simp [h]
theorem Del.skip {p : Key → Bool} {l m : List Key} {i j : Nat} (h : Del p l m i j) (hj : j < l.length) (hp : p l[j] = true) : Del p l m i (j + 1) := by
 have hf := filt_next p l j hj
 rw [hp, if_pos rfl, List.append_nil] at hf
 exact ⟨h.len, by have := h.ij; omega, hj, by rw [hf]; exact h.pre, by rw [hf]; exact h.il, by rw [← List.drop_drop, h.post, List.drop_drop]⟩
theorem Del.keep {p : Key → Bool} {l m : List Key} {i j : Nat} (h : Del p l m i j) (hj : j < l.length) (hp : p l[j] = false) : Del p l (m.set i l[j]) (i + 1) (j + 1) := by
 have hf := filt_next p l j hj
 rw [hp, if_neg (by simp)] at hf
 have hij := h.ij
 have hlen := h.len
 refine ⟨by simp [h.len], by omega, hj, ?_, by rw [hf, List.length_append, h.il]; rfl, ?_⟩
 ·rw [hf, ← h.pre, List.take_succ_eq_append_getElem (by simp; omega), List.take_set_of_le (Nat.le_refl i), List.getElem_set_self]
 ·rw [List.drop_set_of_lt (by omega), ← List.drop_drop, h.post, List.drop_drop]
theorem c_clone (l : List Key) (hne : l ≠ []) (hn : l.length ≤ 1099511627776) : CallE Pr 115 [.slice 6 false (l.map Key.cs) none] [] (.arr 0 6 l.length) [(0, .arr 39 (flatK l))] := by
 have hie : l.isEmpty = false := by cases l <;> simp_all
 refine CallE.of_wp Tryz.func115 rfl (by kernel_rfl) Tryz.ntmps115 (by simp) ?_
 simp only [frameOf, List.map_nil]
 iterate 2 first | (refine WP.S [0, 4] fun _ z => ?_; simp +decide only [TF, ↓reduceIte]; apply z; clear z) | apply WP.seq
 refine WP.S [0, 4] fun _ z => ?_; simp +decide only [TF, ↓reduceIte]; apply z; clear z
 iterate 2 first | (apply WP.skip; show WP ..) | refine WP.cF ?_
 refine WP.meet ⟨[(2, .arr 0 6 (l.map Key.cs).length)], [(0, .arr 39 (flatK l))]⟩ ?_ ?_
 ·refine WP.R fun _ z => ?_
  simp +decide only [TF, ↓reduceIte]
  refine ⟨⟨by omega, by omega⟩, ?_⟩
  apply z; clear z
  show Weak _ _ _
  exact Weak.tipArr 0 39 6 (l.map Key.cs) 2 (by simp [St.get, lk]) (by simp [lk]) (key_fr 0 l) (by intro b hb; simp [lk, hb]) (by simp)
 apply WP.ret
 refine Ends.imp (.inr rfl) rfl (Le.of_eq (by simp +decide only [St.get, lk, W, ↓reduceIte])) ?_ ?_ ?_
 ·simp [lk]
 ·simp [lk, BClo]
 simp [lk]
theorem ren_keys (f : Nat → Nat) (l : List Key) : renLL f (l.map Key.cs) = l.map Key.cs := by
 rw [renLL_map]; simp [renD, Key.cs]
theorem ren_flatK (f : Nat → Nat) (l : List Key) : renL f (flatK l) = flatK l := by
 rw [renL_map, flatK]
 induction l with
 | nil => rfl
 | cons k t ih => simp only [List.map_cons, List.flatten_cons, List.map_append, ih]; simp [renD, Key.cs]
theorem c_clone_at (a : Nat) (l : List Key) (hne : l ≠ []) (hn : l.length ≤ 1099511627776) :
  CallE Pr 115 [.slice 6 false (l.map Key.cs) none] [] (.arr a 6 l.length) [(a, .arr 39 (flatK l))] := by
 obtain ⟨f, g, h1, h2⟩ := ren_ex [a] (by simp)
 have := CallE.rename h1 (c_clone l hne hn)
 have f0 : f 0 = a := h2 0 a rfl
 simpa [renS, renB, renD, renL, ren_keys, ren_flatK, f0] using this
theorem isE2 {α : Type} (l : List α) (x : α) : (l ++ [x]).isEmpty = false := by simp
def cutI (at_ f u : Int) : Int := if (if at_ < u then at_ else u) > f then (if at_ < u then at_ else u) else f
def cutK (t : Int) (k : Key) : Key := { k with su := cutI t k.sf k.su }
def newK (id sec : List UInt8) (now life grace : Int) : Key := ⟨id, sec, limB now, limB (limB now + limB life), limB now, limB (limB (limB now + limB life) + limB grace)⟩
def rotE (l : List Key) (id sec : List UInt8) (now life : Int) : Int :=
 if (checkK l != 0) = true then checkK l else if (!wordB id) = true then 5 else if (!cleanB sec) = true then 4 else if l.any (fun k => k.id == id) = true then 7
 else if decide (limB (limB now + limB life) ≤ limB now) = true then 2 else if decide ((l.length : Int) ≥ 16) = true then 3 else 0
def rotD (l : List Key) (id sec : List UInt8) (now life grace : Int) : D :=
 if rotE l id sec now life = 0 then .tup [.slice 6 false ((l.map (cutK (limB now)) ++ [newK id sec now life grace]).map Key.cs) none, .int .i64 0] else .tup [.slice 6 true [] none, .int .i64 (rotE l id sec now life)]
theorem Le.nil2 {z z' : Nat} {t : Option Nat} {a : D} : Le (.tup [.slice z true [] t, a]) (.tup [.slice z' true [] none, a]) := by
 intro M γ w v hr
 cases hr with
 | @tup _ vs hl hr =>
  refine .tup (by simpa using hl) fun i d v hd hv => ?_
  match i with
  | 0 =>
   simp at hd; subst hd
   exact Le.nil z z' none M γ w v (rep_fg (hr 0 _ v rfl hv))
  | 1 => simp at hd; subst hd; exact hr 1 _ v rfl hv
  | i + 2 => simp at hd
@[simp] theorem clo_rotD {S : Nat → Prop} (l : List Key) (id sec : List UInt8) (now life grace : Int) : Clo S (rotD l id sec now life grace) ↔ True := by
 simp only [iff_true]
 unfold rotD
 split
 ·simp only [clo_tup, List.mem_cons, List.mem_nil_iff, or_false]
  rintro d (rfl | rfl)
  ·rw [clo_slice]; exact ⟨(clo_key _).2 trivial, by simp⟩
  ·simp
 ·simp
abbrev Wds := List (List UInt8)
def cutA (c : UInt8) (acc : List UInt8) : List UInt8 → Wds
 | [] => [acc]
 | x :: t => if ((x.toNat : Int) == (c.toNat : Int)) = true then acc :: cutA c [] t else cutA c (acc ++ [x]) t
theorem u8_beq (x c : UInt8) : ((x.toNat : Int) == (c.toNat : Int)) = (x == c) := by
 rw [Bool.eq_iff_iff]
 simp only [beq_iff_eq]
 exact ⟨fun e => UInt8.toNat_inj.1 (by omega), fun e => by rw [e]⟩
theorem cut_index (c : UInt8) : ∀ (s : List UInt8), (Lib.index s [c] = -1 → ∀ acc, cutA c acc s = [acc ++ s]) ∧ (∀ i : Nat, Lib.index s [c] = i → ∀ acc, cutA c acc s = (acc ++ s.take i) :: cutA c [] (s.drop (i + 1)))
 | [] => by
  refine ⟨fun _ acc => by simp [cutA], fun i h => ?_⟩
  simp [Lib.index] at h
 | x :: t => by
  obtain ⟨h1, h2⟩ := cut_index c t
  have hg := Lib.index_ge t [c]
  have e : Lib.index (x :: t) [c] = if (c == x) = true then 0 else if Lib.index t [c] == -1 then -1 else Lib.index t [c] + 1 := by
   rw [Lib.index]; simp [List.isPrefixOf]
  by_cases hx : x = c
  ·subst hx
   rw [e]
   refine ⟨fun h => by simp at h, fun i h acc => ?_⟩
   simp at h
   obtain rfl : i = 0 := by omega
   simp [cutA]
  ·have hcx : (c == x) = false := by simpa using fun q => hx q.symm
   have hxc : ((x.toNat : Int) == (c.toNat : Int)) = false := by rw [u8_beq]; simpa using hx
   rw [e, hcx]
   simp only [Bool.false_eq_true, if_false]
   by_cases hm : Lib.index t [c] = -1
   ·simp only [hm, beq_self_eq_true, if_true]
    refine ⟨fun _ acc => ?_, fun i h => by omega⟩
    rw [cutA, hxc]; simp only [Bool.false_eq_true, if_false]
    rw [h1 hm]; simp
   ·have hm' : (Lib.index t [c] == -1) = false := by simpa using hm
    rw [hm']
    simp only [Bool.false_eq_true, if_false]
    refine ⟨fun h => by omega, fun i h acc => ?_⟩
    obtain ⟨j, rfl⟩ : ∃ j, i = j + 1 := ⟨i - 1, by omega⟩
    rw [cutA, hxc]; simp only [Bool.false_eq_true, if_false]
    rw [h2 j (by omega)]; simp
theorem splitK_cut (c : UInt8) : ∀ (k : Nat) (s : List UInt8), Lib.count s [c] = k → Lib.splitK [c] 0 k s = cutA c [] s
 | 0, s, h => by
  rcases Lib.index_spec s [c] with ⟨h1, _⟩ | ⟨i, h1, _⟩
  ·rw [(cut_index c s).1 h1]; rfl
  ·have := Lib.count_hit (s := s) (sub := [c]) (by simp) h1
   omega
 | k + 1, s, h => by
  rcases Lib.index_spec s [c] with ⟨h1, _⟩ | ⟨i, h1, _⟩
  ·have := Lib.count_miss h1; omega
  ·have h2 := Lib.count_hit (s := s) (sub := [c]) (by simp) h1
   rw [Lib.splitK]
   have hne : (Lib.index s [c] == -1) = false := by rw [h1]; rw [beq_eq_false_iff_ne]; omega
   rw [hne]
   simp only [Bool.false_eq_true, if_false]
   have hi : (Lib.index s [c]).toNat = i := by omega
   rw [hi, (cut_index c s).2 i h1, List.nil_append]
   simp only [List.length_cons, List.length_nil, Nat.zero_add] at h2 ⊢
   rw [splitK_cut c k _ (by omega)]
   rfl
theorem splitL_cut (s : List UInt8) (c : UInt8) : splitL s [c] = cutA c [] s := by
 unfold splitL
 rw [Lib.splitB_data]
 exact splitK_cut c _ s rfl
theorem cutA_len (c : UInt8) : ∀ (s acc : List UInt8), (cutA c acc s).length ≤ s.length + 1 ∧ 1 ≤ (cutA c acc s).length
 | [], acc => by simp [cutA]
 | x :: t, acc => by
  have h1 := cutA_len c t []
  have h2 := cutA_len c t (acc ++ [x])
  unfold cutA
  split
  ·simp only [List.length_cons]; omega
  ·simp only [List.length_cons]; omega
theorem cutA_mem (c : UInt8) : ∀ (s acc : List UInt8), ∀ x ∈ cutA c acc s, x.length ≤ acc.length + s.length
 | [], acc, x, h => by simp [cutA] at h; subst h; simp
 | y :: t, acc, x, h => by
  unfold cutA at h
  split at h
  ·rcases List.mem_cons.1 h with rfl | h
   ·simp
   ·have := cutA_mem c t [] x h
    simp at this ⊢; omega
  ·have := cutA_mem c t (acc ++ [y]) x h
   simp at this ⊢; omega
theorem lens_le (B : Nat) : ∀ ls : List (List UInt8), (∀ x ∈ ls, x.length ≤ B) → Lib.lens ls ≤ ls.length * B
 | [], _ => by simp [Lib.lens]
 | x :: ls, h => by
  have ih := lens_le B ls (fun y hy => h y (by simp [hy]))
  have hx := h x (by simp)
  simp only [Lib.lens, List.map_cons, List.sum_cons, List.length_cons, Nat.succ_mul] at ih ⊢
  omega
theorem join_le (B : Nat) (ls : List (List UInt8)) (h : ∀ x ∈ ls, x.length ≤ B) : (Lib.join ls [32]).length ≤ ls.length * B + ls.length := by
 cases ls with
 | nil => simp [Lib.join_nil]
 | cons x r =>
  rw [Lib.join_length]
  have := lens_le B (x :: r) h
  simp only [List.length_cons, List.length_nil] at this ⊢
  omega
theorem join_snoc (ls : List (List UInt8)) (x : List UInt8) (h : ls ≠ []) : Lib.join (ls ++ [x]) [32] = Lib.join ls [32] ++ ([32] ++ x) := by
 cases ls with
 | nil => exact absurd rfl h
 | cons a r =>
  rw [List.cons_append, Lib.join_cons, Lib.join_cons]
  simp [Lib.joinTail]
theorem map1 (A : List (List UInt8)) (a : List UInt8) : (A.map fun x => [D.str x]) ++ [[.str a]] = (A ++ [a]).map fun x => [D.str x] := by simp
theorem un_cases (v : List UInt8) : (∃ u, unD (unB v) = .tup [.str u, .int .i64 0] ∧ unB v = some u) ∨ (unD (unB v) = .tup [.str [], .int .i64 4] ∧ unB v = none) := by
 cases h : unB v with
 | none => exact .inr ⟨rfl, rfl⟩
 | some u => exact .inl ⟨u, rfl, rfl⟩
theorem escB_ge : ∀ s : List UInt8, s.length ≤ (escB s).length
 | [] => by simp [escB]
 | c :: s => by
  have h1 : 1 ≤ (escC c).length := by unfold escC; split <;> simp
  have h2 := escB_ge s
  simp only [escB, List.flatMap_cons, List.length_append, List.length_cons] at h2 ⊢
  omega
theorem unB_len {s u : List UInt8} (h : unB s = some u) : u.length ≤ s.length := by
 have := ((unB_unR s.length s (Nat.le_refl _) u).1 h).2
 rw [← this]; exact escB_ge u
theorem unB_get (v : List UInt8) : ((unB v).getD []).length ≤ v.length := by
 cases h : unB v with
 | none => simp
 | some u => exact unB_len h
theorem cut_cases (r : List UInt8) : (∃ a b, Lib.cut r [10] = (a, b, true) ∧ cutA 10 [] r = a :: cutA 10 [] b ∧ a.length + b.length + 1 = r.length) ∨ (Lib.cut r [10] = (r, [], false) ∧ cutA 10 [] r = [r]) := by
 rcases Lib.index_spec r [10] with ⟨h1, _⟩ | ⟨i, h1, hi, ho, _⟩
 ·refine .inr ⟨?_, ?_⟩
  ·unfold Lib.cut; rw [h1]; rfl
  ·rw [(cut_index 10 r).1 h1]; rfl
 ·refine .inl ⟨r.take i, r.drop (i + 1), ?_, ?_, ?_⟩
  ·unfold Lib.cut; rw [h1, if_pos (by omega)]; rfl
  ·rw [(cut_index 10 r).2 i h1]; rfl
  ·have : i < r.length := by
    rcases Nat.lt_or_ge i r.length with h | h
    ·exact h
    ·have e : i = r.length := by omega
     simp [Lib.occAt, e] at ho
   simp; omega
theorem Le.nil3 {z z' : Nat} {t : Option Nat} {a b : D} : Le (.tup [.slice z true [] t, a, b]) (.tup [.slice z' true [] none, a, b]) := by
 intro M γ w v hr
 cases hr with
 | @tup _ vs hl hr =>
  refine .tup (by simpa using hl) fun i d v hd hv => ?_
  match i with
  | 0 =>
   simp at hd; subst hd
   exact Le.nil z z' none M γ w v (rep_fg (hr 0 _ v rfl hv))
  | 1 => simp at hd; subst hd; exact hr 1 _ v rfl hv
  | 2 => simp at hd; subst hd; exact hr 2 _ v rfl hv
  | i + 3 => simp at hd
theorem cutA_ne (c : UInt8) (s : List UInt8) : ∃ a t, cutA c [] s = a :: t := by
 cases h : cutA c [] s with
 | nil => have := (cutA_len c s []).2; rw [h] at this; simp at this
 | cons a t => exact ⟨a, t, rfl⟩
def lineW (k : Key) : Wds := [k.id, escB k.sec, Lib.itoa k.sf, Lib.itoa k.su, Lib.itoa k.af, Lib.itoa k.au]
def lineB (k : Key) : List UInt8 := Lib.join (lineW k) [32]
def textB (l : List Key) : List UInt8 := l.flatMap fun k => lineB k ++ [10]
def textK (l : List Key) : List UInt8 × Int := if (checkK l != 0) = true then ([], checkK l) else if decide (((textB l).length : Int) > 4096) = true then ([], 3) else (textB l, 0)
theorem win_rng {k : Key} (h : windowsB k = true) : (0 ≤ k.sf ∧ k.sf ≤ 1099511627776) ∧ (0 ≤ k.su ∧ k.su ≤ 1099511627776) ∧ (0 ≤ k.af ∧ k.af ≤ 1099511627776) ∧ (0 ≤ k.au ∧ k.au ≤ 1099511627776) := by
 simp only [windowsB, Bool.and_eq_true, decide_eq_true_eq] at h
 omega
theorem chkK_win : ∀ (l seen : List Key), chkK seen l = 0 → ∀ k ∈ l, windowsB k = true
 | [], _, _, k, hk => by simp at hk
 | q :: t, seen, h, k, hk => by
  rw [chkK] at h
  split at h
  ·rename_i h1; rw [h] at h1; simp at h1
  ·rename_i h1
   rcases List.mem_cons.1 hk with rfl | hk
   ·simp only [bne_iff_ne, ne_eq, Decidable.not_not] at h1
    unfold keyE at h1
    repeat' split at h1
    all_goals first | (cases h1; done) | simp_all
   ·exact chkK_win t _ h k hk
theorem checkK_win {l : List Key} (h : checkK l = 0) : ∀ k ∈ l, windowsB k = true := by
 rw [checkK] at h
 split at h
 ·cases h
 exact chkK_win l [] h
theorem check_16 {l : List Key} (h : checkK l = 0) : l.length ≤ 16 := by
 rw [checkK] at h
 split at h
 ·cases h
 ·rename_i h1; simp at h1; omega
theorem itoa_20 {n : Int} (h : 0 ≤ n ∧ n ≤ 1099511627776) : (Lib.itoa n).length ≤ 21 := Lib.itoa_length_le n (by omega) (by omega)
theorem lineW_mem (k : Key) (h : k.ok) (hw : windowsB k = true) : ∀ x ∈ lineW k, x.length ≤ 3298534883328 := by
 obtain ⟨h1, h2, h3, h4⟩ := win_rng hw
 have i1 := itoa_20 h1; have i2 := itoa_20 h2; have i3 := itoa_20 h3; have i4 := itoa_20 h4
 have e := escB_len k.sec
 have := h.1; have := h.2
 intro x hx
 simp only [lineW, List.mem_cons, List.mem_nil_iff, or_false] at hx
 rcases hx with rfl | rfl | rfl | rfl | rfl | rfl <;> omega
theorem lineB_len (k : Key) (h : k.ok) (hw : windowsB k = true) : (lineB k).length ≤ 19791209299974 := by
 have := join_le 3298534883328 (lineW k) (lineW_mem k h hw)
 have e : (lineW k).length = 6 := rfl
 rw [e] at this
 exact this
theorem textB_next (l : List Key) (k : Nat) (h : k < l.length) : textB (l.take (k + 1)) = textB (l.take k) ++ (lineB l[k] ++ [10]) := by
 rw [List.take_succ_eq_append_getElem h, textB, List.flatMap_append]; simp only [textB, List.flatMap_cons, List.flatMap_nil, List.append_nil]
theorem textB_len : ∀ (l : List Key), (∀ k ∈ l, k.ok) → (∀ k ∈ l, windowsB k = true) → (textB l).length ≤ l.length * 19791209299975
 | [], _, _ => by simp [textB]
 | k :: t, h, hw => by
  have ih := textB_len t (fun q hq => h q (by simp [hq])) (fun q hq => hw q (by simp [hq]))
  have := lineB_len k (h k (by simp)) (hw k (by simp))
  simp only [textB, List.flatMap_cons, List.length_append, List.length_cons, List.length_nil, Nat.succ_mul] at ih ⊢
  omega
theorem textB_take {l : List Key} (h : ∀ k ∈ l, k.ok) (hw : ∀ k ∈ l, windowsB k = true) (hl : l.length ≤ 16) (i : Nat) : (textB (l.take i)).length ≤ 316659348799600 := by
 have := textB_len (l.take i) (fun q hq => h q (List.mem_of_mem_take hq)) (fun q hq => hw q (List.mem_of_mem_take hq))
 have e : (l.take i).length ≤ 16 := by rw [List.length_take]; omega
 have := Nat.mul_le_mul_right 19791209299975 e
 omega
theorem join_next (ls : Wds) (k : Nat) (h : k < ls.length) (h0 : 0 < k) : Lib.join (ls.take (k + 1)) [32] = Lib.join (ls.take k) [32] ++ ([32] ++ ls[k]) := by
 rw [List.take_succ_eq_append_getElem h, join_snoc]
 intro e
 have := congrArg List.length e
 rw [List.length_take, List.length_nil] at this
 omega
theorem join_0 (ls : Wds) : Lib.join (ls.take 0) [32] = [] := by simp [Lib.join_nil]
theorem join_1 (ls : Wds) (h : 0 < ls.length) : Lib.join (ls.take 1) [32] = ls[0] := by
 cases ls with
 | nil => simp at h
 | cons x t => simp [Lib.join_cons, Lib.joinTail]
theorem join_take_le (ls : Wds) (k : Nat) (h : ∀ x ∈ ls, x.length ≤ 3298534883328) (hn : ls.length ≤ 16) : (Lib.join (ls.take k) [32]).length ≤ 52776558133264 := by
 have := join_le 3298534883328 (ls.take k) (fun x hx => h x (List.mem_of_mem_take hx))
 have e : (ls.take k).length ≤ 16 := by rw [List.length_take]; omega
 have := Nat.mul_le_mul_right 3298534883328 e
 omega
def fxB (c : UInt8) : List UInt8 → Int → Int
 | [], _ => -1
 | x :: t, i => if ((x.toNat : Int) == (c.toNat : Int)) = true then i else fxB c t (i + 1)
theorem fxB_cons (c x : UInt8) (t : List UInt8) (i : Int) : fxB c (x :: t) i = if ((x.toNat : Int) == (c.toNat : Int)) = true then i else fxB c t (i + 1) := rfl
theorem fxB_nil (c : UInt8) (i : Int) : fxB c [] i = -1 := rfl
theorem fx_cut (c : UInt8) : ∀ (s : List UInt8) (i : Int), (fxB c s i = -1 ∧ ∀ acc, cutA c acc s = [acc ++ s]) ∨ ∃ j : Nat, fxB c s i = i + j ∧ j < s.length ∧ ∀ acc, cutA c acc s = (acc ++ s.take j) :: cutA c [] (s.drop (j + 1))
 | [], i => .inl ⟨rfl, fun acc => by simp [cutA]⟩
 | x :: t, i => by
  by_cases h : ((x.toNat : Int) == (c.toNat : Int)) = true
  ·exact .inr ⟨0, by rw [fxB_cons, if_pos h]; simp, by simp, fun acc => by rw [cutA, if_pos h]; simp⟩
  ·rcases fx_cut c t (i + 1) with ⟨h1, h2⟩ | ⟨j, h1, h2, h3⟩
   ·exact .inl ⟨by rw [fxB_cons, if_neg h, h1], fun acc => by rw [cutA, if_neg h, h2]; simp⟩
   ·exact .inr ⟨j + 1, by rw [fxB_cons, if_neg h, h1]; push_cast; omega, by simpa using h2, fun acc => by rw [cutA, if_neg h, h3]; simp⟩
theorem c_line (k : Key) (hk : k.ok) (hw : windowsB k = true) : CallP Pr 126 [.agg [.str k.id, .str k.sec, .int .i64 k.sf, .int .i64 k.su, .int .i64 k.af, .int .i64 k.au]] (.str (lineB k)) := by
 obtain ⟨r1, r2, r3, r4⟩ := win_rng hw
 have hid := hk.1
 have hsc := hk.2
 refine CallP.W Tryz.func126 Tryz.ntmps126 ?_
 simp only [frameOf]
 refine WP.S [1, 2] fun _ z => ?_; simp +decide only [TF, ↓reduceIte]; apply z; clear z
 refine WP.D [1, 2] fun _ z => ?_
 simp +decide only [TF, ↓reduceIte]
 refine CallK.P (c_escape k.sec (by omega)) rfl rfl ?_
 simp +decide only [TF, ↓reduceIte]
 refine CallK.P (c_int k.sf (by omega) (by omega)) rfl rfl ?_
 simp +decide only [TF, ↓reduceIte]
 refine CallK.P (c_int k.su (by omega) (by omega)) rfl rfl ?_
 simp +decide only [TF, ↓reduceIte]
 refine CallK.P (c_int k.af (by omega) (by omega)) rfl rfl ?_
 simp +decide only [TF, ↓reduceIte]
 refine CallK.P (c_int k.au (by omega) (by omega)) rfl rfl ?_
 simp +decide only [TF, ↓reduceIte]
 refine CallK.P (lib_join (lineW k) false [32] (by simp [lineW]) (Nat.le_trans (lineB_len k hk hw) (by omega))) rfl rfl ?_
 simp +decide only [TF, ↓reduceIte]
 refine z _ _ (by kernel_rfl) ?_; clear z
 apply WP.ret
 exact Ends.P rfl (Le.of_eq (by simp +decide only [St.get, W, lineB, ↓reduceIte]))
theorem c_r_between (ls : Wds) (nl : Bool) (hls : ∀ x ∈ ls, x.length ≤ 3298534883328) (hn : ls.length ≤ 16) (hnl : nl = true → ls = []) : CallP Pr 92 [.slice 1 nl (ls.map fun x => [.str x]) none, .str [32]] (.str (Lib.join ls [32])) := by
 have hjl := fun k => join_take_le ls k hls hn
 refine CallP.W Tryz.func92 Tryz.ntmps92 ?_
 simp only [frameOf, Nat.zero_add]
 iterate 3 first | (refine WP.S [0, 1, 4, 5, 6, 10, 14] fun _ z => ?_; simp +decide only [TF, ↓reduceIte]; apply z; clear z) | apply WP.seq
 refine WP.S [0, 1, 5, 6] fun _ z => ?_; simp +decide only [TF, ↓reduceIte]; apply z; clear z
 apply WP.block
 refine WP.lp [0, 1] (X := {k : Nat // k ≤ ls.length}) (fun x => match x with | ⟨(k), _⟩ => [(5, .str (Lib.join (ls.take k) [32])), (6, .int .i64 k)]) (fun x => match x with | ⟨(k), _⟩ => []) (fun x => match x with | ⟨(k), _⟩ => ls.length - k) (by simp +decide only [W, ↓reduceIte]; rfl) ?_ ⟨(0), Nat.zero_le _⟩ ?_
 rotate_left
 ·exact Weak.nil (by simp [St.get, lk, W, Le.refl, Lib.join_nil, W]) (by simp [W])
 rintro ⟨k, hk⟩
 dsimp only
 simp only [List.cons_append, List.nil_append]
 iterate 2 first | (refine WP.S [0, 1, 4, 5, 6, 10, 14] fun _ z => ?_; simp +decide only [TF, ↓reduceIte]; apply z; clear z) | apply WP.seq
 refine WP.cond rfl (fun q1 => ?_) (fun q1 => ?_)
 ·have hlt := lt_of_q q1
  have hg : (ls.map fun x => [D.str x])[k]? = some [.str ls[k]] := getM hlt
  have hnf := nl_false hnl hlt
  have hb := hls _ (List.getElem_mem hlt)
  have hjk := hjl k
  iterate 5 first | (refine WP.S [0, 1, 4, 5, 6, 10, 14] fun _ z => ?_; simp +decide only [TF, q1, hnf, ↓reduceIte]; apply z; clear z) | (apply WP.skip; show WP ..) | apply WP.block | apply WP.seq
  refine WP.cond rfl (fun q2 => ?_) (fun q2 => ?_)
  ·have hk0 : 0 < k := by have := of_decide_eq_true q2; omega
   have hjn := join_next ls k hlt hk0
   refine WP.R fun _ z => ?_
   simp +decide only [TF, q2, ↓reduceIte]
   refine ⟨by (try simp only [List.length_append, List.length_cons, List.length_nil]); omega, ?_⟩
   apply z; clear z
   show WP ..
   refine WP.R fun _ z => ?_
   simp +decide only [TF, hg, ↓reduceIte]
   refine ⟨by (try simp only [List.length_append, List.length_cons, List.length_nil]); omega, ?_⟩
   apply z; clear z
   show WP ..
   refine WP.R fun _ z => ?_; simp +decide only [TF, ↓reduceIte]; apply z; clear z
   show ∃ y, _ ∧ Weak _ _ _
   refine ⟨⟨k + 1, ?_⟩, ?_, ?_⟩
   ·omega
   ·dsimp only; omega
   exact Weak.nil (by simp [St.get, lk, Le.refl, hnf, hjn, wrapS hlt (show ls.length ≤ 140737488355328 by omega)]) (by simp [W])
  have hk0 : k = 0 := by have := of_decide_eq_false q2; omega
  have hj1 : Lib.join (ls.take (k + 1)) [32] = Lib.join (ls.take k) [32] ++ ls[k] := by subst hk0; rw [join_1 ls hlt, join_0]; rfl
  apply WP.skip; show WP ..
  refine WP.R fun _ z => ?_
  simp +decide only [TF, hg, q2, ↓reduceIte]
  refine ⟨by (try simp only [List.length_append, List.length_cons, List.length_nil]); omega, ?_⟩
  apply z; clear z
  show WP ..
  refine WP.R fun _ z => ?_; simp +decide only [TF, ↓reduceIte]; apply z; clear z
  show ∃ y, _ ∧ Weak _ _ _
  refine ⟨⟨k + 1, ?_⟩, ?_, ?_⟩
  ·omega
  ·dsimp only; omega
  exact Weak.nil (by simp [St.get, lk, Le.refl, hnf, hj1, wrapS hlt (show ls.length ≤ 140737488355328 by omega)]) (by simp [W])
 have hge := ge_of_q q1
 have htk : ls.take k = ls := List.take_of_length_le hge
 iterate 2 first | (refine WP.S [0, 1, 4, 5, 6, 10, 14] fun _ z => ?_; simp +decide only [TF, q1, ↓reduceIte]; apply z; clear z) | (apply WP.exit; show WP ..)
 apply WP.ret
 exact Ends.P rfl (Le.of_eq (by simp +decide only [St.get, W, htk, ↓reduceIte]))
theorem c_r_line (k : Key) (hk : k.ok) (hw : windowsB k = true) : CallP Pr 51 [.agg [.str k.id, .str k.sec, .int .i64 k.sf, .int .i64 k.su, .int .i64 k.af, .int .i64 k.au]] (.str (lineB k)) := by
 obtain ⟨r1, r2, r3, r4⟩ := win_rng hw
 have hid := hk.1
 have hsc := hk.2
 refine CallP.W Tryz.func51 Tryz.ntmps51 ?_
 simp only [frameOf]
 refine WP.S [1, 2, 3] fun _ z => ?_; simp +decide only [TF, ↓reduceIte]; apply z; clear z
 refine WP.D [1, 2, 3] fun _ z => ?_
 simp +decide only [TF, ↓reduceIte]
 refine CallK.P (c_r_escape k.sec (by omega)) rfl rfl ?_
 simp +decide only [TF, ↓reduceIte]
 refine CallK.P (c_r_int k.sf (by omega) (by omega)) rfl rfl ?_
 simp +decide only [TF, ↓reduceIte]
 refine CallK.P (c_r_int k.su (by omega) (by omega)) rfl rfl ?_
 simp +decide only [TF, ↓reduceIte]
 refine CallK.P (c_r_int k.af (by omega) (by omega)) rfl rfl ?_
 simp +decide only [TF, ↓reduceIte]
 refine CallK.P (c_r_int k.au (by omega) (by omega)) rfl rfl ?_
 simp +decide only [TF, ↓reduceIte]
 refine z _ _ (by kernel_rfl) ?_; clear z
 refine WP.S [1, 2, 3] fun _ z => ?_
 simp +decide only [TF, ↓reduceIte]
 refine CallK.P (c_r_between (lineW k) false (lineW_mem k hk hw) (by simp [lineW]) nofun) rfl rfl ?_
 simp +decide only [TF, ↓reduceIte]
 apply z; clear z
 apply WP.ret
 exact Ends.P rfl (Le.of_eq (by simp +decide only [St.get, W, lineB, ↓reduceIte]))
abbrev s_text : List Nat := [0, 2, 3, 4, 5, 7, 11, 13, 14, 15, 16, 27]
theorem c_text (l : List Key) (nl : Bool) (hn : l.length ≤ 1099511627776) (hnl : nl = true → l = []) (hl : ∀ k ∈ l, k.ok) : CallP Pr 90 [.slice 6 nl (l.map Key.cs) none] (.tup [.str (textK l).1, .int .i64 (textK l).2]) := by
 refine CallP.W Tryz.func90 Tryz.ntmps90 ?_
 simp only [frameOf]
 iterate 2 first | (refine WP.S s_text fun _ z => ?_; simp +decide only [TF, ↓reduceIte]; apply z; clear z) | apply WP.seq
 refine WP.S s_text fun _ z => ?_
 simp +decide only [TF, ↓reduceIte]
 refine CallK.P (c_k_check l nl hn hnl hl) rfl rfl ?_
 simp +decide only [TF, ↓reduceIte]
 apply z; clear z
 refine WP.S s_text fun _ z => ?_; simp +decide only [TF, ↓reduceIte]; apply z; clear z
 refine WP.cond rfl (fun q1 => ?_) (fun q1 => ?_)
 ·have hz := q1
  have hR : textK l = ([], checkK l) := by simp only [textK, hz, if_true]
  refine WP.S s_text fun _ z => ?_; simp +decide only [TF, q1, ↓reduceIte]; apply z; clear z
  apply WP.ret
  exact Ends.P (d := .tup [_, _]) rfl ((by rw [hR]; simp +decide only [St.get, lk, W, ↓reduceIte]; exact Le.refl _))
 have h0 := q1
 have hc0 : checkK l = 0 := by simpa using h0
 have hwin := checkK_win hc0
 have h16 := check_16 hc0
 iterate 3 first | (refine WP.S s_text fun _ z => ?_; simp +decide only [TF, q1, ↓reduceIte]; apply z; clear z) | (apply WP.skip; show WP ..) | apply WP.seq
 refine WP.S [5, 13, 14, 15] fun _ z => ?_; simp +decide only [TF, ↓reduceIte]; apply z; clear z
 apply WP.block
 refine WP.lp [13, 14] (X := {k : Nat // k ≤ l.length}) (fun x => match x with | ⟨(k), _⟩ => [(5, .str (textB (l.take k))), (15, .int .i64 k)]) (fun x => match x with | ⟨(k), _⟩ => []) (fun x => match x with | ⟨(k), _⟩ => l.length - k) (by simp +decide only [W, ↓reduceIte]; rfl) ?_ ⟨(0), Nat.zero_le _⟩ ?_
 rotate_left
 ·exact Weak.nil (by simp [St.get, lk, W, Le.refl, textB]) (by simp [W])
 rintro ⟨k, hk⟩
 dsimp only
 simp only [List.cons_append, List.nil_append]
 iterate 2 first | (refine WP.S s_text fun _ z => ?_; simp +decide only [TF, ↓reduceIte]; apply z; clear z) | apply WP.seq
 refine WP.cond rfl (fun q2 => ?_) (fun q2 => ?_)
 ·have hlt := lt_of_q q2
  have hg : (l.map Key.cs)[k]? = some [.str l[k].id, .str l[k].sec, .int .i64 l[k].sf, .int .i64 l[k].su, .int .i64 l[k].af, .int .i64 l[k].au] := getM hlt
  have hnf := nl_false hnl hlt
  have hkk := hl _ (List.getElem_mem hlt)
  have hkw := hwin _ (List.getElem_mem hlt)
  have hlb := lineB_len _ hkk hkw
  have htb := textB_take hl hwin h16 k
  have htn := textB_next l k hlt
  iterate 4 first | (refine WP.S s_text fun _ z => ?_; simp +decide only [TF, q2, hg, hnf, ↓reduceIte]; apply z; clear z) | (apply WP.skip; show WP ..) | apply WP.block | apply WP.seq
  refine WP.R fun _ z => ?_
  simp +decide only [TF, ↓reduceIte]
  refine CallK.P (c_line l[k] hkk hkw) rfl rfl ?_
  simp +decide only [TF, ↓reduceIte]
  refine ⟨by (try simp only [List.length_append, List.length_cons, List.length_nil]); omega, by (try simp only [List.length_append, List.length_cons, List.length_nil]); omega, ?_⟩
  apply z; clear z
  show WP ..
  refine WP.R fun _ z => ?_; simp +decide only [TF, ↓reduceIte]; apply z; clear z
  show ∃ y, _ ∧ Weak _ _ _
  refine ⟨⟨k + 1, ?_⟩, ?_, ?_⟩
  ·omega
  ·dsimp only; omega
  exact Weak.nil (by simp [St.get, lk, Le.refl, hnf, htn, wrapS hlt (show l.length ≤ 140737488355328 by omega)]) (by simp [W])
 have hge := ge_of_q q2
 have htk : l.take k = l := List.take_of_length_le hge
 iterate 3 first | (refine WP.S s_text fun _ z => ?_; simp +decide only [TF, q2, ↓reduceIte]; apply z; clear z) | (apply WP.exit; show WP ..) | apply WP.seq
 refine WP.cond rfl (fun q3 => ?_) (fun q3 => ?_)
 ·have hz := q3
  rw [htk] at hz
  have hR : textK l = ([], 3) := by simp only [textK, h0, hz, Bool.false_eq_true, if_false, if_true]
  refine WP.S s_text fun _ z => ?_; simp +decide only [TF, q3, ↓reduceIte]; apply z; clear z
  apply WP.ret
  exact Ends.P (d := .tup [_, _]) rfl ((by rw [hR]; simp +decide only [St.get, lk, W, ↓reduceIte]; exact Le.refl _))
 have hz := q3
 rw [htk] at hz
 have hR : textK l = (textB l, 0) := by simp only [textK, h0, hz, Bool.false_eq_true, if_false]
 iterate 2 first | (refine WP.S s_text fun _ z => ?_; simp +decide only [TF, htk, ↓reduceIte]; apply z; clear z) | (apply WP.skip; show WP ..)
 apply WP.ret
 exact Ends.P (d := .tup [_, _]) rfl ((by rw [hR]; simp +decide only [St.get, lk, W, ↓reduceIte]; exact Le.refl _))
theorem c_r_first (s : List UInt8) (c : UInt8) (hs : s.length ≤ 1099511627776) : CallP Pr 55 [.str s, .int .u8 c.toNat] (.int .i64 (fxB c s 0)) := by
 refine CallP.W Tryz.func55 Tryz.ntmps55 ?_
 simp only [frameOf, Nat.zero_add]
 iterate 2 first | (refine WP.S [0, 1, 4, 5, 9, 16] fun _ z => ?_; simp +decide only [TF, ↓reduceIte]; apply z; clear z) | apply WP.seq
 refine WP.S [0, 1, 5] fun _ z => ?_; simp +decide only [TF, ↓reduceIte]; apply z; clear z
 apply WP.block
 refine WP.lp [0, 1] (X := {k : Nat // k ≤ s.length ∧ fxB c s 0 = fxB c (s.drop k) k}) (fun x => match x with | ⟨(k), _⟩ => [(5, .int .i64 k)]) (fun x => match x with | ⟨(k), _⟩ => []) (fun x => match x with | ⟨(k), _⟩ => s.length - k) (by simp +decide only [W, ↓reduceIte]; rfl) ?_ ⟨(0), ⟨Nat.zero_le _, rfl⟩⟩ ?_
 rotate_left
 ·exact Weak.nil (by simp [St.get, lk, W, Le.refl, W]) (by simp [W])
 rintro ⟨k, hk, hI⟩
 dsimp only
 simp only [List.cons_append, List.nil_append]
 iterate 2 first | (refine WP.S [0, 1, 4, 5, 9, 16] fun _ z => ?_; simp +decide only [TF, ↓reduceIte]; apply z; clear z) | apply WP.seq
 refine WP.cond rfl (fun q1 => ?_) (fun q1 => ?_)
 ·have hlt := lt_of_q q1
  have hg := getE hlt
  rw [dropE hlt, fxB_cons] at hI
  iterate 4 first | (refine WP.S [0, 1, 4, 5, 9, 16] fun _ z => ?_; simp +decide only [TF, q1, hg, ↓reduceIte]; apply z; clear z) | (apply WP.skip; show WP ..) | apply WP.block | apply WP.seq
  refine WP.cond rfl (fun q2 => ?_) (fun q2 => ?_)
  ·rw [if_pos q2] at hI
   refine WP.S [0, 1, 4, 5, 9, 16] fun _ z => ?_; simp +decide only [TF, q2, ↓reduceIte]; apply z; clear z
   apply WP.ret
   exact Ends.P rfl (Le.of_eq (by simp +decide only [St.get, W, hI, ↓reduceIte]))
  rw [if_neg (by rw [q2]; decide)] at hI
  iterate 2 first | (refine WP.R fun _ z => ?_; simp +decide only [TF, q2, ↓reduceIte]; apply z; clear z) | (apply WP.skip; show WP ..)
  show ∃ y, _ ∧ Weak _ _ _
  refine ⟨⟨k + 1, ?_⟩, ?_, ?_⟩
  ·exact ⟨by omega, hI⟩
  ·dsimp only; omega
  exact Weak.nil (by simp [St.get, lk, Le.refl, wrapS hlt (show s.length ≤ 140737488355328 by omega)]) (by simp [W])
 have hge := ge_of_q q1
 rw [dropN hge, fxB_nil] at hI
 iterate 2 first | (refine WP.S [0, 1, 4, 5, 9, 16] fun _ z => ?_; simp +decide only [TF, q1, ↓reduceIte]; apply z; clear z) | (apply WP.exit; show WP ..)
 apply WP.ret
 exact Ends.P rfl (Le.of_eq (by simp +decide only [St.get, W, hI, ↓reduceIte]))
abbrev s_r_cut : List Nat := [0, 1, 4, 5, 6, 7, 11, 18]
theorem c_r_cut (s : List UInt8) (c : UInt8) (hs : s.length ≤ 1099511627776) : CallP Pr 134 [.str s, .int .u8 c.toNat] (.slice 1 false ((cutA c [] s).map fun x => [D.str x]) none) := by
 refine CallP.W Tryz.func134 Tryz.ntmps134 ?_
 simp only [frameOf, Nat.zero_add]
 iterate 4 first | (refine WP.S s_r_cut fun _ z => ?_; simp +decide only [TF, ↓reduceIte]; apply z; clear z) | apply WP.seq
 refine WP.S [0, 1, 5, 6, 7] fun _ z => ?_; simp +decide only [TF, ↓reduceIte]; apply z; clear z
 apply WP.block
 refine WP.lp [0, 1] (X := {x : (Nat) × (Nat) × (Wds) // match x with | (k, f, out) => f ≤ k ∧ out.length ≤ k ∧ k ≤ s.length ∧ cutA c [] s = out ++ cutA c ((s.take k).drop f) (s.drop k)}) (fun x => match x with | ⟨(k, f, out), _⟩ => [(5, .slice 1 out.isEmpty (out.map (fun x => [D.str x])) (some 0)), (6, .int .i64 f), (7, .int .i64 k)]) (fun x => match x with | ⟨(k, f, out), _⟩ => [(0, .tip 9 1 out.length)]) (fun x => match x with | ⟨(k, f, out), _⟩ => s.length - k) (by simp +decide only [W, ↓reduceIte]; rfl) ?_ ⟨(0, 0, []), ⟨Nat.le_refl _, Nat.le_refl _, Nat.zero_le _, by simp⟩⟩ ?_
 rotate_left
 ·refine Weak.trans (Weak.ghost 0 9 1 (F' := [(7, .int .i64 0), (6, .int .i64 0), (5, .slice 1 true [] (some 0)), (0, .str s), (1, .int .u8 c.toNat)]) (σ' := []) (by simp [lk]) (by simp [keep, ins, UpF, UpD]) (by simp [UpS])) ?_; exact Weak.store (by simp [St.get, lk, Le.refl]) (by simp [lk]) (by simp [lk]) (by simp [BClo, lk]) (by simp [lk])
 rintro ⟨⟨k, f, out⟩, hfk, ho, hks, hI⟩
 dsimp only
 simp only [List.cons_append, List.nil_append]
 iterate 2 first | (refine WP.S s_r_cut fun _ z => ?_; simp +decide only [TF, ↓reduceIte]; apply z; clear z) | apply WP.seq
 refine WP.cond rfl (fun q1 => ?_) (fun q1 => ?_)
 ·have hlt := lt_of_q q1
  have hg := getE hlt
  rw [dropE hlt, cutA] at hI
  iterate 4 first | (refine WP.S s_r_cut fun _ z => ?_; simp +decide only [TF, q1, hg, ↓reduceIte]; apply z; clear z) | (apply WP.skip; show WP ..) | apply WP.block | apply WP.seq
  refine WP.cond rfl (fun q2 => ?_) (fun q2 => ?_)
  ·have hsc := q2
   refine WP.S s_r_cut fun _ z => ?_
   simp +decide only [TF, hfk, hks, q2, map1, ↓reduceIte]
   refine ⟨⟨by simp only [List.length_append, List.length_cons, List.length_nil]; omega, by simp only [List.length_append, List.length_cons, List.length_nil]; omega⟩, ?_⟩
   apply z; clear z
   iterate 2 first | (refine WP.R fun _ z => ?_; simp +decide only [TF, ↓reduceIte]; apply z; clear z; show WP ..) | (refine WP.R fun _ z => ?_; simp +decide only [TF, ↓reduceIte]; apply z; clear z)
   show ∃ y, _ ∧ Weak _ _ _
   rw [if_pos hsc] at hI
   refine ⟨⟨(k + 1, k + 1, out ++ [(s.take k).drop f]), ?_⟩, ?_, ?_⟩
   ·exact ⟨Nat.le_refl _, by simp; omega, by dsimp only; omega, by rw [hI]; simp⟩
   ·dsimp only; omega
   exact Weak.store (by simp [St.get, lk, Le.refl, isE2, wrapS hlt (show s.length ≤ 140737488355328 by omega)]) (by simp [lk]) (by simp [lk, or_imp, forall_and]) (by simp [BClo, lk]) (by simp [lk])
  have hsc := q2
  iterate 2 first | (refine WP.R fun _ z => ?_; simp +decide only [TF, q2, ↓reduceIte]; apply z; clear z) | (apply WP.skip; show WP ..)
  show ∃ y, _ ∧ Weak _ _ _
  rw [if_neg (by rw [hsc]; decide)] at hI
  refine ⟨⟨(k + 1, f, out), ?_⟩, ?_, ?_⟩
  ·refine ⟨by dsimp only; omega, by dsimp only; omega, by dsimp only; omega, ?_⟩; dsimp only; rw [hI, takeS hlt, List.drop_append_of_le_length (by simp; omega)]
  ·dsimp only; omega
  exact Weak.store (by simp [St.get, lk, Le.refl, wrapS hlt (show s.length ≤ 140737488355328 by omega)]) (by simp [lk]) (by simp [lk, or_imp, forall_and]) (by simp [BClo, lk]) (by simp [lk])
 have hge := ge_of_q q1
 have hfs : f ≤ s.length := by omega
 rw [dropN hge, List.take_of_length_le hge, cutA] at hI
 apply WP.exit; show WP ..
 refine WP.S s_r_cut fun _ z => ?_
 simp +decide only [TF, q1, hfs, map1, ↓reduceIte]
 refine ⟨⟨by simp only [List.length_append, List.length_cons, List.length_nil]; omega, by simp only [List.length_append, List.length_cons, List.length_nil]; omega⟩, ?_⟩
 apply z; clear z
 apply WP.ret
 exact Ends.P rfl (Le.trans (Le.fg _) (Le.of_eq (by rw [hI]; simp [fg, St.get, W])))
theorem takeMap {α β : Type} (f : α → β) (l : List α) : (l.map f).take l.length = l.map f := by rw [← List.length_map (f := f), List.take_length]
def wdAt (ws : Wds) (i : Nat) : List UInt8 := (ws[i]?).getD []
theorem rdN_err (s : List UInt8) : (rdN s).2 = 0 ∨ (rdN s).2 = 4 ∨ (rdN s).2 = 27 := by
 unfold rdN
 split
 ·exact .inr (.inl rfl)
 ·repeat' split
  all_goals first | exact .inl rfl | exact .inr (.inl rfl) | exact .inr (.inr rfl)
def anF (r : Wds) : Bool := r.any fun x => (rdN x).2 == 4
def anW (r : Wds) : Bool := r.any fun x => (rdN x).2 == 27
def erF (e : Int) (r : Wds) : Int := if anF r then 4 else e
def erK (e : Int) (r : Wds) : Int := if (erF e r == 0 && anW r) = true then 27 else erF e r
def ueB (w : List UInt8) : Int := if (unB w).isSome then 0 else 4
def keyR (w0 w1 : List UInt8) (r : Wds) : Key := ⟨w0, (unB w1).getD [], (rdN (wdAt r 0)).1, (rdN (wdAt r 1)).1, (rdN (wdAt r 2)).1, (rdN (wdAt r 3)).1⟩
def rdK (ws : Wds) : Key × Int :=
 match ws with
 | w0 :: w1 :: r => if r.length = 4 then (if erK (ueB w1) r = 0 then (keyR w0 w1 r, 0) else (zeroK, erK (ueB w1) r)) else (zeroK, 4)
 | _ => (zeroK, 4)
theorem anF_next (r : Wds) (k : Nat) (h : k < r.length) : anF (r.take (k + 1)) = (anF (r.take k) || ((rdN r[k]).2 == 4)) := by
 rw [anF, List.take_succ_eq_append_getElem h, List.any_append]; simp [anF]
theorem anW_next (r : Wds) (k : Nat) (h : k < r.length) : anW (r.take (k + 1)) = (anW (r.take k) || ((rdN r[k]).2 == 27)) := by
 rw [anW, List.take_succ_eq_append_getElem h, List.any_append]; simp [anW]
theorem erF_yes (e : Int) (r : Wds) (k : Nat) (h : k < r.length) (h4 : (rdN r[k]).2 = 4) : erF e (r.take (k + 1)) = 4 := by
 simp [erF, anF_next r k h, h4]
theorem erF_no (e : Int) (r : Wds) (k : Nat) (h : k < r.length) (h4 : ((rdN r[k]).2 == 4) = false) : erF e (r.take (k + 1)) = erF e (r.take k) := by
 simp [erF, anF_next r k h, h4]
def arK (r : Wds) (k : Nat) : List D := ((r.take k).map fun x => D.int .i64 (rdN x).1) ++ List.replicate (4 - k) (D.int .i64 0)
theorem arK_0 (r : Wds) : arK r 0 = [D.int .i64 0, D.int .i64 0, D.int .i64 0, D.int .i64 0] := rfl
theorem arK_len (r : Wds) (k : Nat) (h : k ≤ 4) (hr : r.length = 4) : (arK r k).length = 4 := by
 simp [arK, List.length_take]; omega
theorem arK_put (r : Wds) (k : Nat) (h : k < r.length) (hr : r.length = 4) : (arK r k).take k ++ D.int .i64 (rdN r[k]).1 :: (arK r k).drop (k + 1) = arK r (k + 1) := by
 have hl : ((r.take k).map fun x => D.int .i64 (rdN x).1).length = k := by simp [List.length_take]; omega
 have e : 4 - k = 4 - (k + 1) + 1 := by omega
 have eA : arK r k = ((r.take k).map fun x => D.int .i64 (rdN x).1) ++ (D.int .i64 0 :: List.replicate (4 - (k + 1)) (D.int .i64 0)) := by
  rw [arK, e, List.replicate_succ]
 have eB : arK r (k + 1) = ((r.take k).map fun x => D.int .i64 (rdN x).1) ++ (D.int .i64 (rdN r[k]).1 :: List.replicate (4 - (k + 1)) (D.int .i64 0)) := by
  rw [arK, List.take_succ_eq_append_getElem h, List.map_append, List.append_assoc]; rfl
 rw [eA, eB, List.take_append, List.drop_append, hl, List.take_of_length_le (by omega), show ((r.take k).map fun x => D.int .i64 (rdN x).1).drop (k + 1) = [] from List.drop_eq_nil_of_le (by omega), show k - k = 0 by omega, show k + 1 - k = 1 by omega]
 simp
@[simp] theorem clo_arK {S : Nat → Prop} (r : Wds) (k : Nat) : (∀ d ∈ arK r k, Clo S d) ↔ True := by
 simp only [iff_true, arK, List.mem_append, List.mem_map, List.mem_replicate]
 rintro d (⟨x, _, rfl⟩ | ⟨_, rfl⟩) <;> simp
theorem len4 {r : Wds} (h : r.length = 4) : ∃ a b c d, r = [a, b, c, d] := by
 match r, h with
 | [a, b, c, d], _ => exact ⟨a, b, c, d, rfl⟩
theorem len6 {ws : Wds} (h : ws.length = 6) : ∃ w0 w1 r, ws = w0 :: w1 :: r ∧ r.length = 4 := by
 match ws, h with
 | w0 :: w1 :: r, h => exact ⟨w0, w1, r, rfl, by simpa using h⟩
theorem rdK_n {ws : Wds} (h : ws.length ≠ 6) : rdK ws = (zeroK, 4) := by
 match ws, h with
 | [], _ => rfl
 | [_], _ => rfl
 | w0 :: w1 :: r, h => rw [rdK, if_neg (by intro e; apply h; simp [e])]
theorem rdK_e (w0 w1 : List UInt8) {r : Wds} (hr : r.length = 4) {e : Int} (h : erK (ueB w1) r = e) (he : e ≠ 0) : rdK (w0 :: w1 :: r) = (zeroK, e) := by
 rw [rdK, if_pos hr, if_neg (by rw [h]; exact he), h]
theorem rdK_s (w0 w1 : List UInt8) {r : Wds} (hr : r.length = 4) (h : erK (ueB w1) r = 0) : rdK (w0 :: w1 :: r) = (keyR w0 w1 r, 0) := by
 rw [rdK, if_pos hr, if_pos h]
def rdD6 (x : Key × Int) : D := .tup [.agg x.1.cs, .int .i64 x.2]
@[simp] theorem clo_rdD6 {S : Nat → Prop} (x : Key × Int) : Clo S (rdD6 x) ↔ True := by
 simp [rdD6, Key.cs]
abbrev s_read : List Nat := [0, 2, 3, 4, 5, 6, 7, 8, 9, 10, 11, 12, 17, 27, 28, 29, 30, 40, 57]
theorem c_read (s : List UInt8) (hs : s.length ≤ 4096) : CallP Pr 132 [.str s] (rdD6 (rdK (cutA 32 [] s))) := by
 obtain ⟨ws, hws⟩ : ∃ ws, cutA 32 [] s = ws := ⟨_, rfl⟩
 have hv : ∀ x ∈ ws, x.length ≤ 4096 := fun x hx => by rw [← hws] at hx; have := cutA_mem 32 s [] x hx; simp at this; omega
 rw [hws]
 refine CallP.W Tryz.func132 Tryz.ntmps132 ?_
 simp only [frameOf]
 refine WP.S s_read fun _ z => ?_; simp +decide only [TF, ↓reduceIte]; apply z; clear z
 refine WP.S s_read fun _ z => ?_
 simp +decide only [TF, ↓reduceIte]
 refine CallK.P (show CallP Pr 166 [.str s, .str [32]] (.slice 1 false (ws.map fun x => [D.str x]) none) from by rw [← hws, ← splitL_cut]; exact lib_split s [32] (by omega) (by simp)) rfl rfl ?_
 simp +decide only [TF, ↓reduceIte]
 apply z; clear z
 iterate 2 first | (refine WP.S s_read fun _ z => ?_; simp +decide only [TF, ↓reduceIte]; apply z; clear z) | apply WP.seq
 refine WP.cond rfl (fun q1 => ?_) (fun q1 => ?_)
 ·have h6 : ws.length ≠ 6 := by intro e; rw [e] at q1; simp at q1
  have hR := rdK_n h6
  refine WP.S s_read fun _ z => ?_; simp +decide only [TF, q1, ↓reduceIte]; apply z; clear z
  apply WP.ret
  exact Ends.P (d := .tup [_, _]) rfl (Le.of_eq (by rw [hR]; simp [rdD6, Key.cs, zeroK, zK, St.get, W, Pr_prog]))
 have h6 : ws.length = 6 := by have := q1; simp at this; omega
 obtain ⟨w0, w1, r, rfl, hr⟩ := len6 h6
 have hvr : ∀ x ∈ r, x.length ≤ 4096 := fun x hx => hv x (by simp [hx])
 have hv1 : w1.length ≤ 4096 := hv w1 (by simp)
 have htm := takeMap (fun x => [D.str x]) r
 have h2l : (2 ≤ r.length + 1 + 1) = True := by simp
 apply WP.skip; show WP ..
 rcases un_cases w1 with ⟨u, hu, hub⟩ | ⟨hu, hub⟩
 ·have hue : ueB w1 = 0 := by simp [ueB, hub]
  have hget : (unB w1).getD [] = u := by simp [hub]
  refine WP.S s_read fun _ z => ?_
  simp +decide only [TF, ↓reduceIte]
  refine CallK.P (c_unescape w1 (by omega)) rfl rfl ?_
  simp +decide only [TF, hu, ↓reduceIte]
  apply z; clear z
  iterate 3 first | (refine WP.S s_read fun _ z => ?_; simp +decide only [TF, ↓reduceIte]; apply z; clear z) | apply WP.seq
  refine WP.S [2, 4, 5, 6, 7, 8, 27, 28, 29] fun _ z => ?_; simp +decide only [TF, htm, h2l, ↓reduceIte]; apply z; clear z
  apply WP.block
  refine WP.lp [2, 4, 5, 7, 27, 28] (X := {k : Nat // k ≤ r.length}) (fun x => match x with | ⟨(k), _⟩ => [(6, .int .i64 (erF (ueB w1) (r.take k))), (8, .bool (anW (r.take k))), (29, .int .i64 k)]) (fun x => match x with | ⟨(k), _⟩ => [(0, .box 39 [.str [], .str [], .int .i64 0, .int .i64 0, .int .i64 0, .int .i64 0]), (1, .box 169 (arK r k))]) (fun x => match x with | ⟨(k), _⟩ => r.length - k) (by simp +decide only [W, ↓reduceIte]; rfl) ?_ ⟨(0), Nat.zero_le _⟩ ?_
  rotate_left
  ·exact Weak.store (by simp [St.get, lk, W, Le.refl, erF, anF, anW, hue]) (by simp [lk, arK_0]) (by simp [lk]) (by simp [BClo, lk]) (by simp [lk])
  rintro ⟨k, hk⟩
  dsimp only
  simp only [List.cons_append, List.nil_append]
  iterate 2 first | (refine WP.S s_read fun _ z => ?_; simp +decide only [TF, ↓reduceIte]; apply z; clear z) | apply WP.seq
  refine WP.cond rfl (fun q2 => ?_) (fun q2 => ?_)
  ·have hlt := lt_of_q q2
   have hg : (r.map fun x => [D.str x])[k]? = some [.str r[k]] := getM hlt
   have hvk := hvr _ (List.getElem_mem hlt)
   have hk4 : k < 4 := by omega
   have hk5 : (k + 1 ≤ 4) = True := by simp; omega
   have hal := arK_len r k (by omega) hr
   have hput := arK_put r k hlt hr
   have hwn := anW_next r k hlt
   iterate 4 first | (refine WP.S s_read fun _ z => ?_; simp +decide only [TF, q2, hg, ↓reduceIte]; apply z; clear z) | (apply WP.skip; show WP ..) | apply WP.block | apply WP.seq
   refine WP.S s_read fun _ z => ?_
   simp +decide only [TF, ↓reduceIte]
   refine CallK.P (c_readint r[k] (by omega)) rfl rfl ?_
   simp +decide only [TF, rdD, ↓reduceIte]
   apply z; clear z
   iterate 2 first | (refine WP.S s_read fun _ z => ?_; simp +decide only [TF, ↓reduceIte]; apply z; clear z) | apply WP.seq
   refine WP.cond rfl (fun q3 => ?_) (fun q3 => ?_)
   ·have h4 : (rdN r[k]).2 = 4 := by simpa using q3
    have her := erF_yes (ueB w1) r k hlt h4
    refine WP.R fun _ z => ?_; simp +decide only [TF, h4, ↓reduceIte]; apply z; clear z; show WP ..
    refine WP.sm [2, 4, 5, 6, 7, 9, 11, 27, 28, 29] 8 (.bool (anW (r.take k) || ((rdN r[k]).2 == 27))) (by kernel_rfl) (fun K hK => ?_) ?_
    ·refine runOps.take 2 fun J hJ => ?_
     simp +decide only [TF, ↓reduceIte]
     refine hJ _ _ ?_; clear hJ J
     refine runOps.part 43 rfl (fun q4 => ?_) (fun q4 => ?_)
     ·simp +decide only [TF, q4, ↓reduceIte]
      exact hK _ _ (by simp [St.get, lk]) rfl (Le.of_eq (by simp [St.get, lk, h4, q4]))
     simp +decide only [TF, q4, ↓reduceIte]
     exact hK _ _ (by simp [St.get, lk]) rfl (Le.of_eq (by simp [St.get, lk, h4, q4]))
    iterate 2 first | (refine WP.R fun _ z => ?_; simp +decide only [TF, hk4, hk5, hal, h4, Nat.mul_one, ↓reduceIte]; apply z; clear z; show WP ..) | (refine WP.R fun _ z => ?_; simp +decide only [TF, ↓reduceIte]; apply z; clear z)
    show ∃ y, _ ∧ Weak _ _ _
    refine ⟨⟨k + 1, ?_⟩, ?_, ?_⟩
    ·omega
    ·dsimp only; omega
    exact Weak.store (by simp [St.get, lk, Le.refl, h4, her, hwn, wrapS hlt (show r.length ≤ 140737488355328 by omega)]) (by simp [lk, hput]) (by simp [lk]) (by simp [BClo, lk]) (by simp [lk])
   have her := erF_no (ueB w1) r k hlt q3
   apply WP.skip; show WP ..
   refine WP.sm [2, 4, 5, 6, 7, 9, 11, 27, 28, 29] 8 (.bool (anW (r.take k) || ((rdN r[k]).2 == 27))) (by kernel_rfl) (fun K hK => ?_) ?_
   ·refine runOps.take 2 fun J hJ => ?_
    simp +decide only [TF, q3, ↓reduceIte]
    refine hJ _ _ ?_; clear hJ J
    refine runOps.part 43 rfl (fun q5 => ?_) (fun q5 => ?_)
    ·simp +decide only [TF, q5, ↓reduceIte]
     exact hK _ _ (by simp [St.get, lk, W]) rfl (Le.of_eq (by simp [St.get, lk, q5]))
    simp +decide only [TF, q5, ↓reduceIte]
    exact hK _ _ (by simp [St.get, lk, W]) rfl (Le.of_eq (by simp [St.get, lk, q5]))
   iterate 2 first | (refine WP.R fun _ z => ?_; simp +decide only [TF, hk4, hk5, hal, q3, Nat.mul_one, ↓reduceIte]; apply z; clear z; show WP ..) | (refine WP.R fun _ z => ?_; simp +decide only [TF, ↓reduceIte]; apply z; clear z)
   show ∃ y, _ ∧ Weak _ _ _
   refine ⟨⟨k + 1, ?_⟩, ?_, ?_⟩
   ·omega
   ·dsimp only; omega
   exact Weak.store (by simp [St.get, lk, Le.refl, her, hwn, wrapS hlt (show r.length ≤ 140737488355328 by omega)]) (by simp [lk, hput]) (by simp [lk]) (by simp [BClo, lk]) (by simp [lk])
  have hge := ge_of_q q2
  have htk : r.take k = r := List.take_of_length_le hge
  iterate 2 first | (apply WP.exit; show WP ..) | apply WP.seq
  refine WP.sm [2, 4, 5, 6, 7] 55 (.bool (erF (ueB w1) (r.take k) == 0 && anW (r.take k))) (by kernel_rfl) (fun K hK => ?_) ?_
  ·refine runOps.take 3 fun J hJ => ?_
   simp +decide only [TF, q2, ↓reduceIte]
   refine hJ _ _ ?_; clear hJ J
   refine runOps.part 53 rfl (fun q6 => ?_) (fun q6 => ?_)
   ·simp +decide only [TF, q6, ↓reduceIte]
    exact hK _ _ (by simp [St.get, lk, W]) rfl (Le.of_eq (by simp [St.get, lk, q6]))
   simp +decide only [TF, q6, ↓reduceIte]
   exact hK _ _ (by simp [St.get, lk, W]) rfl (Le.of_eq (by simp [St.get, lk, q6]))
  refine WP.cond rfl (fun q7 => ?_) (fun q7 => ?_)
  ·rw [htk] at q7
   have hR := rdK_e w0 w1 hr (show erK (ueB w1) r = 27 by rw [erK, if_pos q7]) (by decide)
   iterate 3 first | (refine WP.S s_read fun _ z => ?_; simp +decide only [TF, ↓reduceIte]; apply z; clear z) | (refine WP.R fun _ z => ?_; simp +decide only [TF, q2, ↓reduceIte]; apply z; clear z; show WP ..) | apply WP.seq
   refine WP.cond rfl (fun q8 => ?_) (fun q8 => ?_)
   ·refine WP.S s_read fun _ z => ?_; simp +decide only [TF, q8, ↓reduceIte]; apply z; clear z
    apply WP.ret
    exact Ends.P (d := .tup [_, _]) rfl (Le.of_eq (by rw [hR]; simp [rdD6, Key.cs, zeroK, zK, St.get, W, Pr_prog]))
   exact absurd q8 (by decide)
  rw [htk] at q7
  have hz : erK (ueB w1) r = erF (ueB w1) r := by rw [erK, if_neg (by rw [q7]; decide)]
  iterate 3 first | (refine WP.S s_read fun _ z => ?_; simp +decide only [TF, q2, ↓reduceIte]; apply z; clear z) | (apply WP.skip; show WP ..) | apply WP.seq
  refine WP.cond rfl (fun q9 => ?_) (fun q9 => ?_)
  ·rw [htk] at q9
   have hR := rdK_e w0 w1 hr hz (by simpa using q9)
   refine WP.S s_read fun _ z => ?_; simp +decide only [TF, q7, q9, htk, ↓reduceIte]; apply z; clear z
   apply WP.ret
   exact Ends.P (d := .tup [_, _]) rfl (Le.of_eq (by rw [hR]; simp [rdD6, Key.cs, zeroK, zK, St.get, W, Pr_prog]))
  rw [htk] at q9
  have hR := rdK_s w0 w1 hr (hz.trans (by simpa using q9))
  obtain rfl : k = 4 := by omega
  obtain ⟨a, b, c, d, rfl⟩ := len4 hr
  have har : arK [a, b, c, d] 4 = [D.int .i64 (rdN a).1, D.int .i64 (rdN b).1, D.int .i64 (rdN c).1, D.int .i64 (rdN d).1] := rfl
  have hw0 : wdAt [a, b, c, d] 0 = a := rfl
  have hw1 : wdAt [a, b, c, d] 1 = b := rfl
  have hw2 : wdAt [a, b, c, d] 2 = c := rfl
  have hw3 : wdAt [a, b, c, d] 3 = d := rfl
  iterate 2 first | (refine WP.D s_read fun _ z => ?_; simp +decide only [TF, q7, q9, har, Nat.mul_one, ↓reduceIte]; refine z _ _ (by kernel_rfl) ?_; clear z) | (apply WP.skip; show WP ..)
  apply WP.ret
  exact Ends.P (d := .tup [_, _]) rfl (Le.of_eq (by rw [hR]; simp [rdD6, keyR, Key.cs, zK, St.get, W, Pr_prog, hw0, hw1, hw2, hw3, hget]))
 have hue : ueB w1 = 4 := by simp [ueB, hub]
 have hget : (unB w1).getD [] = [] := by simp [hub]
 refine WP.S s_read fun _ z => ?_
 simp +decide only [TF, ↓reduceIte]
 refine CallK.P (c_unescape w1 (by omega)) rfl rfl ?_
 simp +decide only [TF, hu, ↓reduceIte]
 apply z; clear z
 iterate 3 first | (refine WP.S s_read fun _ z => ?_; simp +decide only [TF, ↓reduceIte]; apply z; clear z) | apply WP.seq
 refine WP.S [2, 4, 5, 6, 7, 8, 27, 28, 29] fun _ z => ?_; simp +decide only [TF, htm, h2l, ↓reduceIte]; apply z; clear z
 apply WP.block
 refine WP.lp [2, 4, 5, 7, 27, 28] (X := {k : Nat // k ≤ r.length}) (fun x => match x with | ⟨(k), _⟩ => [(6, .int .i64 (erF (ueB w1) (r.take k))), (8, .bool (anW (r.take k))), (29, .int .i64 k)]) (fun x => match x with | ⟨(k), _⟩ => [(0, .box 39 [.str [], .str [], .int .i64 0, .int .i64 0, .int .i64 0, .int .i64 0]), (1, .box 169 (arK r k))]) (fun x => match x with | ⟨(k), _⟩ => r.length - k) (by simp +decide only [W, ↓reduceIte]; rfl) ?_ ⟨(0), Nat.zero_le _⟩ ?_
 rotate_left
 ·exact Weak.store (by simp [St.get, lk, W, Le.refl, erF, anF, anW, hue]) (by simp [lk, arK_0]) (by simp [lk]) (by simp [BClo, lk]) (by simp [lk])
 rintro ⟨k, hk⟩
 dsimp only
 simp only [List.cons_append, List.nil_append]
 iterate 2 first | (refine WP.S s_read fun _ z => ?_; simp +decide only [TF, ↓reduceIte]; apply z; clear z) | apply WP.seq
 refine WP.cond rfl (fun q10 => ?_) (fun q10 => ?_)
 ·have hlt := lt_of_q q10
  have hg : (r.map fun x => [D.str x])[k]? = some [.str r[k]] := getM hlt
  have hvk := hvr _ (List.getElem_mem hlt)
  have hk4 : k < 4 := by omega
  have hk5 : (k + 1 ≤ 4) = True := by simp; omega
  have hal := arK_len r k (by omega) hr
  have hput := arK_put r k hlt hr
  have hwn := anW_next r k hlt
  iterate 4 first | (refine WP.S s_read fun _ z => ?_; simp +decide only [TF, q10, hg, ↓reduceIte]; apply z; clear z) | (apply WP.skip; show WP ..) | apply WP.block | apply WP.seq
  refine WP.S s_read fun _ z => ?_
  simp +decide only [TF, ↓reduceIte]
  refine CallK.P (c_readint r[k] (by omega)) rfl rfl ?_
  simp +decide only [TF, rdD, ↓reduceIte]
  apply z; clear z
  iterate 2 first | (refine WP.S s_read fun _ z => ?_; simp +decide only [TF, ↓reduceIte]; apply z; clear z) | apply WP.seq
  refine WP.cond rfl (fun q11 => ?_) (fun q11 => ?_)
  ·have h4 : (rdN r[k]).2 = 4 := by simpa using q11
   have her := erF_yes (ueB w1) r k hlt h4
   refine WP.R fun _ z => ?_; simp +decide only [TF, h4, ↓reduceIte]; apply z; clear z; show WP ..
   refine WP.sm [2, 4, 5, 6, 7, 9, 11, 27, 28, 29] 8 (.bool (anW (r.take k) || ((rdN r[k]).2 == 27))) (by kernel_rfl) (fun K hK => ?_) ?_
   ·refine runOps.take 2 fun J hJ => ?_
    simp +decide only [TF, ↓reduceIte]
    refine hJ _ _ ?_; clear hJ J
    refine runOps.part 43 rfl (fun q12 => ?_) (fun q12 => ?_)
    ·simp +decide only [TF, q12, ↓reduceIte]
     exact hK _ _ (by simp [St.get, lk]) rfl (Le.of_eq (by simp [St.get, lk, h4, q12]))
    simp +decide only [TF, q12, ↓reduceIte]
    exact hK _ _ (by simp [St.get, lk]) rfl (Le.of_eq (by simp [St.get, lk, h4, q12]))
   iterate 2 first | (refine WP.R fun _ z => ?_; simp +decide only [TF, hk4, hk5, hal, h4, Nat.mul_one, ↓reduceIte]; apply z; clear z; show WP ..) | (refine WP.R fun _ z => ?_; simp +decide only [TF, ↓reduceIte]; apply z; clear z)
   show ∃ y, _ ∧ Weak _ _ _
   refine ⟨⟨k + 1, ?_⟩, ?_, ?_⟩
   ·omega
   ·dsimp only; omega
   exact Weak.store (by simp [St.get, lk, Le.refl, h4, her, hwn, wrapS hlt (show r.length ≤ 140737488355328 by omega)]) (by simp [lk, hput]) (by simp [lk]) (by simp [BClo, lk]) (by simp [lk])
  have her := erF_no (ueB w1) r k hlt q11
  apply WP.skip; show WP ..
  refine WP.sm [2, 4, 5, 6, 7, 9, 11, 27, 28, 29] 8 (.bool (anW (r.take k) || ((rdN r[k]).2 == 27))) (by kernel_rfl) (fun K hK => ?_) ?_
  ·refine runOps.take 2 fun J hJ => ?_
   simp +decide only [TF, q11, ↓reduceIte]
   refine hJ _ _ ?_; clear hJ J
   refine runOps.part 43 rfl (fun q13 => ?_) (fun q13 => ?_)
   ·simp +decide only [TF, q13, ↓reduceIte]
    exact hK _ _ (by simp [St.get, lk, W]) rfl (Le.of_eq (by simp [St.get, lk, q13]))
   simp +decide only [TF, q13, ↓reduceIte]
   exact hK _ _ (by simp [St.get, lk, W]) rfl (Le.of_eq (by simp [St.get, lk, q13]))
  iterate 2 first | (refine WP.R fun _ z => ?_; simp +decide only [TF, hk4, hk5, hal, q11, Nat.mul_one, ↓reduceIte]; apply z; clear z; show WP ..) | (refine WP.R fun _ z => ?_; simp +decide only [TF, ↓reduceIte]; apply z; clear z)
  show ∃ y, _ ∧ Weak _ _ _
  refine ⟨⟨k + 1, ?_⟩, ?_, ?_⟩
  ·omega
  ·dsimp only; omega
  exact Weak.store (by simp [St.get, lk, Le.refl, her, hwn, wrapS hlt (show r.length ≤ 140737488355328 by omega)]) (by simp [lk, hput]) (by simp [lk]) (by simp [BClo, lk]) (by simp [lk])
 have hge := ge_of_q q10
 have htk : r.take k = r := List.take_of_length_le hge
 iterate 2 first | (apply WP.exit; show WP ..) | apply WP.seq
 refine WP.sm [2, 4, 5, 6, 7] 55 (.bool (erF (ueB w1) (r.take k) == 0 && anW (r.take k))) (by kernel_rfl) (fun K hK => ?_) ?_
 ·refine runOps.take 3 fun J hJ => ?_
  simp +decide only [TF, q10, ↓reduceIte]
  refine hJ _ _ ?_; clear hJ J
  refine runOps.part 53 rfl (fun q14 => ?_) (fun q14 => ?_)
  ·simp +decide only [TF, q14, ↓reduceIte]
   exact hK _ _ (by simp [St.get, lk, W]) rfl (Le.of_eq (by simp [St.get, lk, q14]))
  simp +decide only [TF, q14, ↓reduceIte]
  exact hK _ _ (by simp [St.get, lk, W]) rfl (Le.of_eq (by simp [St.get, lk, q14]))
 refine WP.cond rfl (fun q15 => ?_) (fun q15 => ?_)
 ·rw [htk] at q15
  have hR := rdK_e w0 w1 hr (show erK (ueB w1) r = 27 by rw [erK, if_pos q15]) (by decide)
  iterate 3 first | (refine WP.S s_read fun _ z => ?_; simp +decide only [TF, ↓reduceIte]; apply z; clear z) | (refine WP.R fun _ z => ?_; simp +decide only [TF, q10, ↓reduceIte]; apply z; clear z; show WP ..) | apply WP.seq
  refine WP.cond rfl (fun q16 => ?_) (fun q16 => ?_)
  ·refine WP.S s_read fun _ z => ?_; simp +decide only [TF, q16, ↓reduceIte]; apply z; clear z
   apply WP.ret
   exact Ends.P (d := .tup [_, _]) rfl (Le.of_eq (by rw [hR]; simp [rdD6, Key.cs, zeroK, zK, St.get, W, Pr_prog]))
  exact absurd q16 (by decide)
 rw [htk] at q15
 have hz : erK (ueB w1) r = erF (ueB w1) r := by rw [erK, if_neg (by rw [q15]; decide)]
 iterate 3 first | (refine WP.S s_read fun _ z => ?_; simp +decide only [TF, q10, ↓reduceIte]; apply z; clear z) | (apply WP.skip; show WP ..) | apply WP.seq
 refine WP.cond rfl (fun q17 => ?_) (fun q17 => ?_)
 ·rw [htk] at q17
  have hR := rdK_e w0 w1 hr hz (by simpa using q17)
  refine WP.S s_read fun _ z => ?_; simp +decide only [TF, q15, q17, htk, ↓reduceIte]; apply z; clear z
  apply WP.ret
  exact Ends.P (d := .tup [_, _]) rfl (Le.of_eq (by rw [hR]; simp [rdD6, Key.cs, zeroK, zK, St.get, W, Pr_prog]))
 rw [htk] at q17
 have hR := rdK_s w0 w1 hr (hz.trans (by simpa using q17))
 obtain rfl : k = 4 := by omega
 obtain ⟨a, b, c, d, rfl⟩ := len4 hr
 have har : arK [a, b, c, d] 4 = [D.int .i64 (rdN a).1, D.int .i64 (rdN b).1, D.int .i64 (rdN c).1, D.int .i64 (rdN d).1] := rfl
 have hw0 : wdAt [a, b, c, d] 0 = a := rfl
 have hw1 : wdAt [a, b, c, d] 1 = b := rfl
 have hw2 : wdAt [a, b, c, d] 2 = c := rfl
 have hw3 : wdAt [a, b, c, d] 3 = d := rfl
 iterate 2 first | (refine WP.D s_read fun _ z => ?_; simp +decide only [TF, q15, q17, har, Nat.mul_one, ↓reduceIte]; refine z _ _ (by kernel_rfl) ?_; clear z) | (apply WP.skip; show WP ..)
 apply WP.ret
 exact Ends.P (d := .tup [_, _]) rfl (Le.of_eq (by rw [hR]; simp [rdD6, keyR, Key.cs, zK, St.get, W, Pr_prog, hw0, hw1, hw2, hw3, hget]))
theorem erK_4 {w : List UInt8} (r : Wds) (h : ueB w = 4) : erK (ueB w) r = 4 := by
 have : erF (ueB w) r = 4 := by unfold erF; split <;> simp [h]
 rw [erK, this]; simp
theorem anF_mem (r : Wds) (k : Nat) (h : k < r.length) (h4 : (rdN r[k]).2 = 4) : anF r = true := by
 rw [anF, List.any_eq_true]
 exact ⟨r[k], List.getElem_mem h, by simp [h4]⟩
theorem erK_4y (e : Int) (r : Wds) (k : Nat) (h : k < r.length) (h4 : (rdN r[k]).2 = 4) : erK e r = 4 := by
 have : erF e r = 4 := by unfold erF; rw [anF_mem r k h h4]; rfl
 rw [erK, this]; simp
theorem erK_27 {w : List UInt8} (r : Wds) (h : ueB w = 0) (hf : anF r = false) (hw : anW r = true) : erK (ueB w) r = 27 := by
 simp [erK, erF, h, hf, hw]
theorem erK_0 {w : List UInt8} (r : Wds) (h : ueB w = 0) (hf : anF r = false) (hw : anW r = false) : erK (ueB w) r = 0 := by
 simp [erK, erF, h, hf, hw]
def nsK (r : Wds) (k : Nat) : List (List D) := (r.take k).map fun x => [D.int .i64 (rdN x).1]
theorem nsK_0 (r : Wds) : nsK r 0 = [] := rfl
theorem nsK_len (r : Wds) (k : Nat) (h : k ≤ r.length) : (nsK r k).length = k := by
 simp [nsK, List.length_take]; omega
theorem nsK_next (r : Wds) (k : Nat) (h : k < r.length) : nsK r k ++ [[D.int .i64 (rdN r[k]).1]] = nsK r (k + 1) := by
 rw [nsK, nsK, List.take_succ_eq_append_getElem h, List.map_append]; rfl
theorem nsK_4 (a b c d : List UInt8) : nsK [a, b, c, d] 4 = [[D.int .i64 (rdN a).1], [D.int .i64 (rdN b).1], [D.int .i64 (rdN c).1], [D.int .i64 (rdN d).1]] := rfl
@[simp] theorem clo_nsK {S : Nat → Prop} (r : Wds) (k : Nat) : (∀ e ∈ nsK r k, ∀ d ∈ e, Clo S d) ↔ True := by
 simp only [iff_true, nsK, List.mem_map]
 rintro e ⟨x, _, rfl⟩ d hd
 simp only [List.mem_singleton] at hd
 subst hd; simp
abbrev s_r_read : List Nat := [0, 2, 3, 4, 5, 6, 7, 8, 9, 10, 11, 16, 26, 30, 42, 45, 52]
theorem c_r_read (s : List UInt8) (hs : s.length ≤ 4096) : CallP Pr 136 [.str s] (rdD6 (rdK (cutA 32 [] s))) := by
 obtain ⟨ws, hws⟩ : ∃ ws, cutA 32 [] s = ws := ⟨_, rfl⟩
 have hv : ∀ x ∈ ws, x.length ≤ 4096 := fun x hx => by rw [← hws] at hx; have := cutA_mem 32 s [] x hx; simp at this; omega
 rw [hws]
 refine CallP.W Tryz.func136 Tryz.ntmps136 ?_
 simp only [frameOf, Nat.reduceAdd, Nat.zero_add]
 refine WP.S s_r_read fun _ z => ?_; simp +decide only [TF, rdD, ↓reduceIte]; apply z; clear z
 refine WP.S s_r_read fun _ z => ?_
 simp +decide only [TF, rdD, ↓reduceIte]
 refine CallK.P (show CallP Pr 134 [.str s, .int .u8 32] (.slice 1 false (ws.map fun x => [D.str x]) none) from by rw [← hws]; exact c_r_cut s 32 (by omega)) rfl rfl ?_
 simp +decide only [TF, rdD, ↓reduceIte]
 apply z; clear z
 iterate 2 first | (refine WP.S s_r_read fun _ z => ?_; simp +decide only [TF, rdD, ↓reduceIte]; apply z; clear z) | apply WP.seq
 refine WP.cond rfl (fun q1 => ?_) (fun q1 => ?_)
 ·have h6 : ws.length ≠ 6 := by intro e; rw [e] at q1; simp at q1
  have hR := rdK_n h6
  refine WP.S s_r_read fun _ z => ?_; simp +decide only [TF, q1, hR, rdD, ↓reduceIte]; apply z; clear z
  apply WP.ret
  exact Ends.P (d := .tup [_, _]) rfl (Le.of_eq (by rw [hR]; simp [rdD6, keyR, Key.cs, zeroK, zK, St.get, lk, W, Pr_prog, q1, hR]))
 have h6 : ws.length = 6 := by have := q1; simp at this; omega
 obtain ⟨w0, w1, r, rfl, hr⟩ := len6 h6
 have hvr : ∀ x ∈ r, x.length ≤ 4096 := fun x hx => hv x (by simp [hx])
 have hv1 : w1.length ≤ 4096 := hv w1 (by simp)
 have htm := takeMap (fun x => [D.str x]) r
 have h2l : (2 ≤ r.length + 1 + 1) = True := by simp
 apply WP.skip; show WP ..
 rcases un_cases w1 with ⟨u, hu, hub⟩ | ⟨hu, hub⟩
 ·have hue : ueB w1 = 0 := by simp [ueB, hub]
  have hget : (unB w1).getD [] = u := by simp [hub]
  refine WP.S s_r_read fun _ z => ?_
  simp +decide only [TF, q1, htm, h2l, hu, rdD, ↓reduceIte]
  refine CallK.P (c_r_unescape w1 (by omega)) rfl rfl ?_
  simp +decide only [TF, q1, htm, h2l, hu, rdD, ↓reduceIte]
  apply z; clear z
  iterate 7 first | (refine WP.S s_r_read fun _ z => ?_; simp +decide only [TF, q1, htm, h2l, hu, rdD, ↓reduceIte]; apply z; clear z) | (apply WP.skip; show WP ..) | refine WP.cF ?_ | apply WP.seq
  refine WP.S [2, 4, 5, 7, 8, 9] fun _ z => ?_; simp +decide only [TF, q1, htm, h2l, hu, rdD, ↓reduceIte]; apply z; clear z
  apply WP.block
  refine WP.lp [2, 4, 5] (X := {k : Nat // k ≤ 4 ∧ anF (r.take k) = false}) (fun x => match x with | ⟨(k), _⟩ => [(7, .slice 1 false (nsK r k) (some 1)), (8, .int .i64 (if anW (r.take k) = true then 27 else 0)), (9, .int .i64 ((k + 2 : Nat) : Int))]) (fun x => match x with | ⟨(k), _⟩ => [(0, .box 39 [.str [], .str [], .int .i64 0, .int .i64 0, .int .i64 0, .int .i64 0]), (1, .tip 3 1 k)]) (fun x => match x with | ⟨(k), _⟩ => 4 - k) (by simp +decide only [W, ↓reduceIte, Int.reduceToNat]; rfl) ?_ ⟨(0), ⟨Nat.zero_le _, rfl⟩⟩ ?_
  rotate_left
  ·exact Weak.store (by simp [St.get, lk, W, Le.refl, q1, htm, h2l, hu, anW, nsK_0]) (by simp [lk, W, q1, htm, h2l, hu, anW, nsK_0]) (by simp [lk, W]) (by simp [BClo, lk]) (by simp [lk])
  rintro ⟨k, hk, hI⟩
  dsimp only
  simp only [List.cons_append, List.nil_append]
  iterate 2 first | (refine WP.S s_r_read fun _ z => ?_; simp +decide only [TF, q1, htm, h2l, hu, rdD, ↓reduceIte]; apply z; clear z) | apply WP.seq
  refine WP.cond rfl (fun q2 => ?_) (fun q2 => ?_)
  ·have hlt : k < r.length := by have := of_decide_eq_true q2; omega
   have hg : (r.map fun x => [D.str x])[k]? = some [.str r[k]] := getM hlt
   have hvk := hvr _ (List.getElem_mem hlt)
   have hwn := anW_next r k hlt
   have hnx := nsK_next r k hlt
   have hln := nsK_len r k (by omega)
   have hln2 := nsK_len r (k + 1) (by omega)
   have hk12 : (k : Int) + 2 + 1 = (k : Int) + 1 + 2 := by omega
   iterate 3 first | (apply WP.skip; show WP ..) | apply WP.block | apply WP.seq
   refine WP.S s_r_read fun _ z => ?_
   simp +decide only [TF, q1, htm, h2l, hu, q2, hg, hln, rdD, ↓reduceIte]
   refine CallK.P (c_r_readint r[k] (by omega)) rfl rfl ?_
   simp +decide only [TF, q1, htm, h2l, hu, q2, hg, hln, rdD, ↓reduceIte]
   apply z; clear z
   iterate 2 first | (refine WP.S s_r_read fun _ z => ?_; simp +decide only [TF, q1, htm, h2l, hu, q2, hg, hln, rdD, ↓reduceIte]; apply z; clear z) | apply WP.seq
   refine WP.cond rfl (fun q3 => ?_) (fun q3 => ?_)
   ·have hR := rdK_e w0 w1 hr (erK_4y (ueB w1) r k hlt (by simpa using q3)) (by decide)
    refine WP.S s_r_read fun _ z => ?_; simp +decide only [TF, q1, htm, h2l, hu, q2, hg, hln, q3, hR, rdD, ↓reduceIte]; apply z; clear z
    apply WP.ret
    exact Ends.P (d := .tup [_, _]) rfl (Le.of_eq (by rw [hR]; simp [rdD6, keyR, Key.cs, zeroK, zK, St.get, lk, W, Pr_prog, q1, htm, h2l, hu, q2, hg, hln, q3, hR]))
   have h4 := q3
   have hIn : anF (r.take (k + 1)) = false := by rw [anF_next r k hlt, hI, h4]; rfl
   iterate 3 first | (refine WP.S s_r_read fun _ z => ?_; simp +decide only [TF, q1, htm, h2l, hu, q2, hg, hln, q3, rdD, ↓reduceIte]; apply z; clear z) | (apply WP.skip; show WP ..) | apply WP.seq
   refine WP.cond rfl (fun q4 => ?_) (fun q4 => ?_)
   ·have h27 : (rdN r[k]).2 = 27 := by rcases rdN_err r[k] with h | h | h <;> simp [h] at q4 h4 ⊢
    have hwy : anW (r.take (k + 1)) = true := by rw [hwn, h27]; simp
    refine WP.R fun _ z => ?_; simp +decide only [TF, q1, htm, h2l, hu, q2, hg, hln, q3, q4, h27, hwy, rdD, ↓reduceIte]; apply z; clear z; show WP ..
    refine WP.R fun _ z => ?_
    simp +decide only [TF, q1, htm, h2l, hu, q2, hg, hln, q3, q4, h27, hwy, rdD, ↓reduceIte]
    refine ⟨⟨by simp; omega, by simp; omega⟩, ?_⟩
    apply z; clear z
    show WP ..
    refine WP.R fun _ z => ?_; simp +decide only [TF, q1, htm, h2l, hu, q2, hg, hln, q3, q4, h27, hwy, rdD, ↓reduceIte]; apply z; clear z
    show ∃ y, _ ∧ Weak _ _ _
    refine ⟨⟨k + 1, ?_⟩, ?_, ?_⟩
    ·exact ⟨by omega, hIn⟩
    ·dsimp only; omega
    exact Weak.store (by simp [St.get, lk, W, Le.refl, q1, htm, h2l, hu, q2, hg, hln, q3, q4, h27, hwy, hnx, hk12, wrap_i64 (show (-9223372036854775808 : Int) ≤ (k : Int) + 2 + 1 by omega) (show (k : Int) + 2 + 1 ≤ 9223372036854775807 by omega), wrap_i64 (show (-9223372036854775808 : Int) ≤ (k : Int) + 1 + 2 by omega) (show (k : Int) + 1 + 2 ≤ 9223372036854775807 by omega)]) (by simp [lk, W, q1, htm, h2l, hu, q2, hg, hln, q3, q4, h27, hwy, hnx, hln2]) (by simp [lk, W, or_imp, forall_and]) (by simp [BClo, lk]) (by simp [lk])
   have h0 : (rdN r[k]).2 = 0 := by simpa using q4
   have hwy : anW (r.take (k + 1)) = anW (r.take k) := by rw [hwn, h0]; simp
   apply WP.skip; show WP ..
   refine WP.R fun _ z => ?_
   simp +decide only [TF, q1, htm, h2l, hu, q2, hg, hln, q3, q4, hwy, rdD, ↓reduceIte]
   refine ⟨⟨by simp; omega, by simp; omega⟩, ?_⟩
   apply z; clear z
   show WP ..
   refine WP.R fun _ z => ?_; simp +decide only [TF, q1, htm, h2l, hu, q2, hg, hln, q3, q4, hwy, rdD, ↓reduceIte]; apply z; clear z
   show ∃ y, _ ∧ Weak _ _ _
   refine ⟨⟨k + 1, ?_⟩, ?_, ?_⟩
   ·exact ⟨by omega, hIn⟩
   ·dsimp only; omega
   exact Weak.store (by simp [St.get, lk, W, Le.refl, q1, htm, h2l, hu, q2, hg, hln, q3, q4, hwy, hnx, hk12, wrap_i64 (show (-9223372036854775808 : Int) ≤ (k : Int) + 2 + 1 by omega) (show (k : Int) + 2 + 1 ≤ 9223372036854775807 by omega), wrap_i64 (show (-9223372036854775808 : Int) ≤ (k : Int) + 1 + 2 by omega) (show (k : Int) + 1 + 2 ≤ 9223372036854775807 by omega)]) (by simp [lk, W, q1, htm, h2l, hu, q2, hg, hln, q3, q4, hwy, hnx, hln2]) (by simp [lk, W, or_imp, forall_and]) (by simp [BClo, lk]) (by simp [lk])
  have hk4 : k = 4 := by have := of_decide_eq_false q2; omega
  have htk : r.take k = r := List.take_of_length_le (by omega)
  rw [htk] at hI
  iterate 3 first | (refine WP.S s_r_read fun _ z => ?_; simp +decide only [TF, q1, htm, h2l, hu, q2, rdD, ↓reduceIte]; apply z; clear z) | (apply WP.exit; show WP ..) | apply WP.seq
  refine WP.cond rfl (fun q5 => ?_) (fun q5 => ?_)
  ·have hw : anW r = true := by rw [htk] at q5; revert q5; cases anW r <;> simp
   have hR := rdK_e w0 w1 hr (erK_27 r hue hI hw) (by decide)
   refine WP.S s_r_read fun _ z => ?_; simp +decide only [TF, q1, htm, h2l, hu, q2, q5, hR, hw, htk, rdD, ↓reduceIte]; apply z; clear z
   apply WP.ret
   exact Ends.P (d := .tup [_, _]) rfl (Le.of_eq (by rw [hR]; simp [rdD6, keyR, Key.cs, zeroK, zK, St.get, lk, W, Pr_prog, q1, htm, h2l, hu, q2, q5, hR, hw, htk]))
  have hw : anW r = false := by rw [htk] at q5; revert q5; cases anW r <;> simp
  have hR := rdK_s w0 w1 hr (erK_0 r hue hI hw)
  subst hk4
  obtain ⟨a, b, c, d, rfl⟩ := len4 hr
  have hns := nsK_4 a b c d
  have hw0 : wdAt [a, b, c, d] 0 = a := rfl
  have hw1 : wdAt [a, b, c, d] 1 = b := rfl
  have hw2 : wdAt [a, b, c, d] 2 = c := rfl
  have hw3 : wdAt [a, b, c, d] 3 = d := rfl
  iterate 2 first | (refine WP.D s_r_read fun _ z => ?_; simp +decide only [TF, q1, htm, h2l, hu, q2, q5, hR, hns, hw0, hw1, hw2, hw3, hget, rdD, ↓reduceIte]; refine z _ _ (by kernel_rfl) ?_; clear z) | (apply WP.skip; show WP ..)
  apply WP.ret
  exact Ends.P (d := .tup [_, _]) rfl (Le.of_eq (by rw [hR]; simp [rdD6, keyR, Key.cs, zeroK, zK, St.get, lk, W, Pr_prog, q1, htm, h2l, hu, q2, q5, hR, hns, hw0, hw1, hw2, hw3, hget]))
 have hue : ueB w1 = 4 := by simp [ueB, hub]
 have hR := rdK_e w0 w1 hr (erK_4 r hue) (by decide)
 refine WP.S s_r_read fun _ z => ?_
 simp +decide only [TF, q1, htm, h2l, hu, hR, rdD, ↓reduceIte]
 refine CallK.P (c_r_unescape w1 (by omega)) rfl rfl ?_
 simp +decide only [TF, q1, htm, h2l, hu, hR, rdD, ↓reduceIte]
 apply z; clear z
 iterate 4 first | (refine WP.S s_r_read fun _ z => ?_; simp +decide only [TF, q1, htm, h2l, hu, hR, rdD, ↓reduceIte]; apply z; clear z) | refine WP.cT ?_ | apply WP.seq
 apply WP.ret
 exact Ends.P (d := .tup [_, _]) rfl (Le.of_eq (by rw [hR]; simp [rdD6, keyR, Key.cs, zeroK, zK, St.get, lk, W, Pr_prog, q1, htm, h2l, hu, hR]))
def parseK (n : Int) (rs : List Key) : Wds → List Key × Int × Int
 | [] => (rs, 0, 0)
 | [l] => if l = [] then (rs, 0, 0) else ([], n + 1, 4)
 | l :: m :: t =>
  if (rdK (cutA 32 [] l)).2 = 0 then (if checkK (rs ++ [(rdK (cutA 32 [] l)).1]) = 0 then parseK (n + 1) (rs ++ [(rdK (cutA 32 [] l)).1]) (m :: t) else ([], n + 1, checkK (rs ++ [(rdK (cutA 32 [] l)).1])))
  else ([], n + 1, (rdK (cutA 32 [] l)).2)
def pK (s : List UInt8) : List Key × Int × Int := if 4096 < s.length then ([], 0, 3) else parseK 0 [] (cutA 10 [] s)
def pKD (x : List Key × Int × Int) : D := .tup [.slice 6 x.1.isEmpty (x.1.map Key.cs) none, .int .i64 x.2.1, .int .i64 x.2.2]
@[simp] theorem clo_pKD {S : Nat → Prop} (x : List Key × Int × Int) : Clo S (pKD x) ↔ True := by
 simp only [iff_true, pKD, clo_tup, List.mem_cons, List.mem_nil_iff, or_false]
 rintro d (rfl | rfl | rfl)
 ·rw [clo_slice]; exact ⟨(clo_key _).2 trivial, by simp⟩
 ·simp
 ·simp
theorem pK_long {s : List UInt8} (h : 4096 < s.length) : pK s = ([], 0, 3) := by unfold pK; rw [if_pos h]
theorem pK_short {s : List UInt8} (h : s.length ≤ 4096) : pK s = parseK 0 [] (cutA 10 [] s) := by unfold pK; rw [if_neg (by omega)]
theorem parseK_e (n : Int) (rs : List Key) {l : List UInt8} (h : l = []) : parseK n rs [l] = (rs, 0, 0) := by rw [parseK, if_pos h]
theorem parseK_l (n : Int) (rs : List Key) {l : List UInt8} (h : ¬ l = []) : parseK n rs [l] = ([], n + 1, 4) := by rw [parseK, if_neg h]
theorem parseK_n (n : Int) (rs : List Key) {l m : List UInt8} {t : Wds} {k : Key} {e : Int} (h : rdK (cutA 32 [] l) = (k, e)) (he : ¬ e = 0) : parseK n rs (l :: m :: t) = ([], n + 1, e) := by rw [parseK, h]; simp only; rw [if_neg he]
theorem parseK_b (n : Int) (rs : List Key) {l m : List UInt8} {t : Wds} {k : Key} (h : rdK (cutA 32 [] l) = (k, 0)) (hk : ¬ checkK (rs ++ [k]) = 0) : parseK n rs (l :: m :: t) = ([], n + 1, checkK (rs ++ [k])) := by rw [parseK, h]; simp only; rw [if_pos trivial, if_neg hk]
theorem parseK_s (n : Int) (rs : List Key) {l m : List UInt8} {t : Wds} {k : Key} (h : rdK (cutA 32 [] l) = (k, 0)) (hk : checkK (rs ++ [k]) = 0) : parseK n rs (l :: m :: t) = parseK (n + 1) (rs ++ [k]) (m :: t) := by rw [parseK, h]; simp only; rw [if_pos trivial, if_pos hk]
theorem zeroK_ok : zeroK.ok := by simp [Key.ok, zeroK]
theorem rdK_ok {ws : Wds} (h : ∀ x ∈ ws, x.length ≤ 4096) : (rdK ws).1.ok := by
 match ws, h with
 | [], _ => exact zeroK_ok
 | [_], _ => exact zeroK_ok
 | w0 :: w1 :: r, h =>
  rw [rdK]
  split
  ·split
   ·have h0 := h w0 (by simp)
    have h1 := h w1 (by simp)
    have h2 := unB_get w1
    exact ⟨by simp only [keyR]; omega, by simp only [keyR]; omega⟩
   ·exact zeroK_ok
  ·exact zeroK_ok
theorem key_cases {l : List UInt8} (hl : l.length ≤ 4096) : ∃ (k : Key) (e : Int), rdK (cutA 32 [] l) = (k, e) ∧ rdD6 (rdK (cutA 32 [] l)) = .tup [.agg [.str k.id, .str k.sec, .int .i64 k.sf, .int .i64 k.su, .int .i64 k.af, .int .i64 k.au], .int .i64 e] ∧ k.ok :=
 ⟨_, _, rfl, rfl, rdK_ok (fun x hx => by have := cutA_mem 32 l [] x hx; simp at this; omega)⟩
theorem mapK (rs : List Key) (k : Key) : rs.map Key.cs ++ [[.str k.id, .str k.sec, .int .i64 k.sf, .int .i64 k.su, .int .i64 k.af, .int .i64 k.au]] = (rs ++ [k]).map Key.cs := by simp [Key.cs]
theorem fx_cases (r : List UInt8) : (∃ j : Nat, fxB 10 r 0 = j ∧ j < r.length ∧ cutA 10 [] r = r.take j :: cutA 10 [] (r.drop (j + 1))) ∨ (fxB 10 r 0 = -1 ∧ cutA 10 [] r = [r]) := by
 rcases fx_cut 10 r 0 with ⟨h1, h2⟩ | ⟨j, h1, h2, h3⟩
 ·exact .inr ⟨h1, h2 []⟩
 ·exact .inl ⟨j, by omega, h2, by simpa using h3 []⟩
abbrev s_parse : List Nat := [0, 2, 3, 4, 5, 6, 7, 8, 9, 10, 11, 12, 15, 17, 28, 36, 46]
theorem c_parse (s : List UInt8) (hs40 : s.length ≤ 1099511627776) : CallP Pr 98 [.str s] (pKD (pK s)) := by
 refine CallP.W Tryz.func98 Tryz.ntmps98 ?_
 simp only [frameOf]
 iterate 3 first | (refine WP.S s_parse fun _ z => ?_; simp +decide only [TF, ↓reduceIte]; apply z; clear z) | apply WP.seq
 refine WP.cond rfl (fun q1 => ?_) (fun q1 => ?_)
 ·have hR := pK_long (s := s) (by have := of_decide_eq_true q1; omega)
  refine WP.S s_parse fun _ z => ?_; simp +decide only [TF, q1, ↓reduceIte]; apply z; clear z
  apply WP.ret
  exact Ends.P (d := .tup [_, _, _]) rfl ((by rw [hR]; simp +decide only [pKD, St.get, lk, W, ↓reduceIte]; first | exact Le.nil3 | exact Le.fg _))
 have hs : s.length ≤ 4096 := by have := of_decide_eq_false q1; omega
 have hP := pK_short hs
 apply WP.skip; show WP ..
 refine WP.S [0, 5] fun _ z => ?_; simp +decide only [TF, q1, ↓reduceIte]; apply z; clear z
 iterate 2 first | apply WP.block | apply WP.seq
 refine WP.lp [] (X := {x : (List Key) × (List UInt8) // match x with | (rs, r) => rs.length + r.length ≤ s.length ∧ (∀ q ∈ rs, q.ok) ∧ pK s = parseK rs.length rs (cutA 10 [] r)}) (fun x => match x with | ⟨(rs, r), _⟩ => [(0, .str r), (5, .slice 6 rs.isEmpty (rs.map Key.cs) (some 0))]) (fun x => match x with | ⟨(rs, r), _⟩ => [(0, .tip 39 6 rs.length)]) (fun x => match x with | ⟨(rs, r), _⟩ => r.length) (by simp +decide only [W, ↓reduceIte]; rfl) ?_ ⟨([], s), ⟨by simp, by simp, hP⟩⟩ ?_
 rotate_left
 ·refine Weak.trans (Weak.ghost 0 39 6 (F' := [(5, .slice 6 true [] (some 0)), (0, .str s)]) (σ' := []) (by simp [lk]) (by simp [keep, ins, UpF, UpD]) (by simp [UpS])) ?_; exact Weak.store (by simp [St.get, lk, Le.refl]) (by simp [lk]) (by simp [lk]) (by simp [BClo, lk]) (by simp [lk])
 rintro ⟨⟨rs, r⟩, hI⟩
 dsimp only
 simp only [List.cons_append, List.nil_append]
 dsimp only at hI
 clear hP
 obtain ⟨hn, hok, hP⟩ := hI
 have hw1 : IntKind.wrap .i64 ((rs.length : Int) + 1) = (rs.length : Int) + 1 := wrap_i64 (by omega) (by omega)
 iterate 2 first | (refine WP.S s_parse fun _ z => ?_; simp +decide only [TF, ↓reduceIte]; apply z; clear z) | apply WP.seq
 refine WP.cond rfl (fun q2 => ?_) (fun q2 => ?_)
 ·have hr0 : ¬ r = [] := by simpa using q2
  iterate 2 first | (apply WP.skip; show WP ..) | apply WP.block
  rcases cut_cases r with ⟨a, b, hc, hcb, hab⟩ | ⟨hc, hcb⟩
  ·refine WP.S s_parse fun _ z => ?_
   simp +decide only [TF, q2, ↓reduceIte]
   refine CallK.P (lib_cut r [10] (by omega)) rfl rfl ?_
   simp +decide only [TF, hc, ↓reduceIte]
   apply z; clear z
   iterate 5 first | (refine WP.S s_parse fun _ z => ?_; simp +decide only [TF, hw1, ↓reduceIte]; apply z; clear z) | (apply WP.skip; show WP ..) | refine WP.cF ?_ | apply WP.seq
   rcases key_cases (l := a) (by (try simp only [List.length_take]); omega) with ⟨k, e, hx, hrd, hkok⟩
   ·refine WP.S s_parse fun _ z => ?_
    simp +decide only [TF, ↓reduceIte]
    refine CallK.P (c_read a (by omega)) rfl rfl ?_
    simp +decide only [TF, hrd, ↓reduceIte]
    apply z; clear z
    iterate 2 first | (refine WP.S s_parse fun _ z => ?_; simp +decide only [TF, ↓reduceIte]; apply z; clear z) | apply WP.seq
    refine WP.cond rfl (fun q3 => ?_) (fun q3 => ?_)
    ·have hR : pK s = ([], (rs.length : Int) + 1, e) := by obtain ⟨m, t, e0⟩ := cutA_ne 10 b; rw [hP, hcb, e0, parseK_n _ _ hx (by simpa using q3)]
     refine WP.S s_parse fun _ z => ?_; simp +decide only [TF, q3, ↓reduceIte]; apply z; clear z
     apply WP.ret
     exact Ends.P (d := .tup [_, _, _]) rfl ((by rw [hR]; simp +decide only [pKD, St.get, lk, W, ↓reduceIte]; first | exact Le.nil3 | exact Le.fg _))
    obtain rfl : e = 0 := by simpa using q3
    apply WP.skip; show WP ..
    refine WP.S s_parse fun _ z => ?_
    simp +decide only [TF, mapK, ↓reduceIte]
    refine ⟨⟨by simp only [List.length_append, List.length_cons, List.length_nil]; omega, by simp only [List.length_append, List.length_cons, List.length_nil]; omega⟩, ?_⟩
    apply z; clear z
    apply WP.seq
    refine WP.S s_parse fun _ z => ?_
    simp +decide only [TF, ↓reduceIte]
    refine CallK.pure (c_k_check (rs ++ [k]) false (by simp; omega) nofun (fun q hq => by rcases List.mem_append.1 hq with h | h; exact hok q h; rw [List.mem_singleton.1 h]; exact hkok)) rfl rfl (by simp [-List.map_append, -List.mem_append]) ?_
    simp +decide only [TF, ↓reduceIte]
    apply z; clear z
    refine WP.S s_parse fun _ z => ?_; simp +decide only [TF, ↓reduceIte]; apply z; clear z
    refine WP.cond rfl (fun q4 => ?_) (fun q4 => ?_)
    ·have hR : pK s = ([], (rs.length : Int) + 1, checkK (rs ++ [k])) := by obtain ⟨m, t, e0⟩ := cutA_ne 10 b; rw [hP, hcb, e0, parseK_b _ _ hx (by simpa using q4)]
     refine WP.S s_parse fun _ z => ?_; simp +decide only [TF, q4, ↓reduceIte]; apply z; clear z
     apply WP.ret
     exact Ends.P (d := .tup [_, _, _]) rfl ((by rw [hR]; simp +decide only [pKD, St.get, lk, W, ↓reduceIte]; first | exact Le.nil3 | exact Le.fg _))
    have hP2 : pK s = parseK ((rs ++ [k]).length : Nat) (rs ++ [k]) (cutA 10 [] b) := by obtain ⟨m, t, e0⟩ := cutA_ne 10 b; rw [hP, hcb, e0, parseK_s _ _ hx (by simpa using q4)]; simp
    iterate 2 first | (refine WP.R fun _ z => ?_; simp +decide only [TF, q4, ↓reduceIte]; apply z; clear z) | (apply WP.skip; show WP ..)
    show ∃ y, _ ∧ Weak _ _ _
    refine ⟨⟨(rs ++ [k], b), ?_⟩, ?_, ?_⟩
    ·exact ⟨by simp; omega, fun q hq => by rcases List.mem_append.1 hq with h | h; exact hok q h; rw [List.mem_singleton.1 h]; exact hkok, hP2⟩
    ·dsimp only; omega
    exact Weak.store (by simp [St.get, lk, Le.refl, isE2]) (by simp [lk]) (by simp [lk, -List.map_append, -List.mem_append]) (by simp [BClo, lk]) (by simp [lk])
  have hR : pK s = ([], (rs.length : Int) + 1, 4) := by rw [hP, hcb, parseK_l _ _ hr0]
  refine WP.S s_parse fun _ z => ?_
  simp +decide only [TF, q2, ↓reduceIte]
  refine CallK.P (lib_cut r [10] (by omega)) rfl rfl ?_
  simp +decide only [TF, hc, ↓reduceIte]
  apply z; clear z
  iterate 5 first | (refine WP.S s_parse fun _ z => ?_; simp +decide only [TF, hw1, ↓reduceIte]; apply z; clear z) | refine WP.cT ?_ | apply WP.seq
  apply WP.ret
  exact Ends.P (d := .tup [_, _, _]) rfl ((by rw [hR]; simp +decide only [pKD, St.get, lk, W, ↓reduceIte]; first | exact Le.nil3 | exact Le.fg _))
 have hr0 : r = [] := by simpa using q2
 have hR : pK s = (rs, 0, 0) := by rw [hP, hr0]; exact parseK_e _ _ rfl
 iterate 2 first | (refine WP.S s_parse fun _ z => ?_; simp +decide only [TF, q2, ↓reduceIte]; apply z; clear z) | (apply WP.exit; show WP ..)
 apply WP.ret
 exact Ends.P (d := .tup [_, _, _]) rfl ((by rw [hR]; simp +decide only [pKD, St.get, lk, W, ↓reduceIte]; first | exact Le.nil3 | exact Le.fg _))
theorem dig_nat (d : Nat) (h : d < 10) : (UInt8.ofNat (48 + d)).toNat = 48 + d := by
 simp only [UInt8.toNat_ofNat']; omega
theorem decV_dec (u : Nat) : decV (Lib.decDigits u) = u := by
 induction u using Nat.strongRecOn with
 | ind u ih =>
  by_cases h : u < 10
  ·rw [decDigits_small u h]
   have := dig_nat u h
   simp only [decV, List.foldl_cons, List.foldl_nil]
   omega
  ·rw [decDigits_step u (by omega), decV_snoc, ih (u / 10) (by omega), dig_nat (u % 10) (by omega)]
   omega
theorem dgB_dig (d : Nat) (h : d < 10) : dgB ((UInt8.ofNat (48 + d)).toNat : Int) = true := by
 rw [dig_nat d h]; simp [dgB]; omega
theorem dec_all (u : Nat) : (Lib.decDigits u).all (fun c => dgB c.toNat) = true := by
 induction u using Nat.strongRecOn with
 | ind u ih =>
  by_cases h : u < 10
  ·rw [decDigits_small u h, List.all_cons, dgB_dig u h]; rfl
  ·rw [decDigits_step u (by omega), List.all_append, ih (u / 10) (by omega), List.all_cons, dgB_dig _ (by omega)]; rfl
theorem dec_ne (u : Nat) : ∃ c t, Lib.decDigits u = c :: t ∧ 48 ≤ c.toNat ∧ c.toNat ≤ 57 ∧ (0 < u → c.toNat ≠ 48) := by
 induction u using Nat.strongRecOn with
 | ind u ih =>
  by_cases h : u < 10
  ·rw [decDigits_small u h]
   have := dig_nat u h
   exact ⟨_, _, rfl, by omega, by omega, by omega⟩
  ·obtain ⟨c, t, h1, h2, h3, h4⟩ := ih (u / 10) (by omega)
   rw [decDigits_step u (by omega), h1]
   exact ⟨c, _, rfl, h2, h3, fun _ => h4 (by omega)⟩
theorem chAt_cons (c : UInt8) (t : List UInt8) : chAt (c :: t) 0 = c.toNat := rfl
theorem decOk_dec (u : Nat) (z : Bool) (h : 0 < u ∨ z = true) : decOk (Lib.decDigits u) z = true := by
 have ha := dec_all u
 obtain ⟨c, t, h1, h2, h3, h4⟩ := dec_ne u
 unfold decOk
 rw [ha, h1, chAt_cons]
 by_cases h0 : 0 < u
 ·have : ((c.toNat : Int) == 48) = false := by simp; have := h4 h0; omega
  simp [this]
 ·have hz : z = true := h.elim (fun h => absurd h h0) id
  obtain rfl : u = 0 := by omega
  rw [decDigits_small 0 (by omega)] at h1
  cases h1
  subst hz
  simp
theorem rdN_itoa (n : Int) (h0 : -9223372036854775808 ≤ n) (h1 : n ≤ 9223372036854775807) : rdN (Lib.itoa n) = (n, 0) := by
 by_cases h : n < 0
 ·rw [itoa_neg n h]
  have hu : decV (Lib.decDigits n.natAbs) = n.natAbs := decV_dec _
  simp only [rdN, ↓reduceIte, decOk_dec n.natAbs false (.inl (by omega)), hu]
  rw [if_pos (by omega)]
  congr 1; omega
 ·rw [itoa_pos n h]
  have hu : decV (Lib.decDigits n.natAbs) = n.natAbs := decV_dec _
  have hd := decOk_dec n.natAbs true (.inr rfl)
  obtain ⟨c, t, e1, e2, e3, e4⟩ := dec_ne n.natAbs
  rw [e1] at hu hd ⊢
  have hc : ¬ c = 45 := by intro hc; subst hc; simp at e2
  simp only [rdN, hc, ↓reduceIte, hd, hu]
  rw [if_pos (by omega)]
  congr 1; omega
theorem dgB_iff (c : UInt8) (h : dgB c.toNat = true) : 48 ≤ c.toNat ∧ c.toNat ≤ 57 ∧ UInt8.ofNat (48 + (c.toNat - 48)) = c := by
 simp only [dgB, Bool.and_eq_true, decide_eq_true_eq] at h
 refine ⟨by omega, by omega, ?_⟩
 rw [show 48 + (c.toNat - 48) = c.toNat by omega]
 exact UInt8.ofNat_toNat
theorem dec_decV : ∀ (n : Nat) (t : List UInt8), t.length = n + 1 → t.all (fun c => dgB c.toNat) = true → (chAt t 0 ≠ 48 ∨ n = 0) → Lib.decDigits (decV t) = t
 | 0, t, hl, ha, _ => by
  match t, hl with
  | [c], _ =>
   simp only [List.all_cons, List.all_nil, Bool.and_true] at ha
   obtain ⟨h1, h2, h3⟩ := dgB_iff c ha
   have : decV [c] = c.toNat - 48 := by simp [decV]
   rw [this, decDigits_small _ (by omega), h3]
 | n + 1, t, hl, ha, hh => by
  have hne : t ≠ [] := by rintro rfl; simp at hl
  obtain ⟨a, c, rfl⟩ : ∃ a c, t = a ++ [c] := ⟨t.dropLast, t.getLast hne, (List.dropLast_concat_getLast hne).symm⟩
  have hal : a.length = n + 1 := by simpa using hl
  simp only [List.all_append, List.all_cons, List.all_nil, Bool.and_true, Bool.and_eq_true] at ha
  obtain ⟨h1, h2, h3⟩ := dgB_iff c ha.2
  have hch : chAt (a ++ [c]) 0 = chAt a 0 := by
   match a, hal with
   | x :: a, _ => rfl
  rw [hch] at hh
  have hh : chAt a 0 ≠ 48 := hh.elim id (fun h => by omega)
  have ih := dec_decV n a hal ha.1 (.inl hh)
  have hp : decV a ≠ 0 := by
   intro h0
   rw [h0, decDigits_small 0 (by omega)] at ih
   rw [← ih] at hh
   exact hh rfl
  rw [decV_snoc, decDigits_step _ (by omega), show (decV a * 10 + (c.toNat - 48)) / 10 = decV a by omega, show (decV a * 10 + (c.toNat - 48)) % 10 = c.toNat - 48 by omega, ih, h3]
theorem decOk_dec' {t : List UInt8} {z : Bool} (h : decOk t z = true) : Lib.decDigits (decV t) = t ∧ (z = false → 0 < decV t) := by
 simp only [decOk, Bool.and_eq_true, Bool.not_eq_true', beq_eq_false_iff_ne, Bool.and_eq_false_iff, Bool.or_eq_false_iff, decide_eq_false_iff_not] at h
 obtain ⟨⟨h1, h2⟩, h3⟩ := h
 have hl : t.length = (t.length - 1) + 1 := by
  have := List.length_pos_iff.2 h1
  omega
 have key := dec_decV (t.length - 1) t hl h3 (by
  rcases h2 with h2 | ⟨h2, _⟩
  ·exact .inl h2
  ·right; omega)
 refine ⟨key, fun hz => ?_⟩
 have h48 : chAt t 0 ≠ 48 := by
  rcases h2 with h2 | ⟨_, h2⟩
  ·exact h2
  ·simp [hz] at h2
 rcases Nat.eq_zero_or_pos (decV t) with h0 | h0
 ·rw [h0, decDigits_small 0 (by omega)] at key
  rw [← key] at h48
  exact absurd rfl h48
 ·exact h0
theorem itoa_rdN {s : List UInt8} (h : (rdN s).2 = 0) : Lib.itoa (rdN s).1 = s := by
 match s with
 | [] => simp [rdN] at h
 | c :: t =>
  by_cases hc : c = 45
  ·subst hc
   cases hd : decOk t false with
   | false => simp [rdN, hd] at h
   | true =>
    by_cases hv : decV t ≤ 9223372036854775808
    ·obtain ⟨h1, h2⟩ := decOk_dec' hd
     have h2 := h2 rfl
     simp only [rdN, ↓reduceIte, hd, if_pos hv]
     rw [itoa_neg _ (by omega), show (-(decV t : Int)).natAbs = decV t by omega, h1]
    ·simp [rdN, hd, if_neg hv] at h
  ·cases hd : decOk (c :: t) true with
   | false => simp [rdN, hd, hc] at h
   | true =>
    by_cases hv : decV (c :: t) < 9223372036854775808
    ·obtain ⟨h1, h2⟩ := decOk_dec' hd
     simp only [rdN, hc, ↓reduceIte, hd, if_pos hv]
     rw [itoa_pos _ (by omega), show ((decV (c :: t) : Int)).natAbs = decV (c :: t) by omega, h1]
    ·simp [rdN, hd, hc, if_neg hv] at h
theorem escB_unB {v x : List UInt8} (h : unB v = some x) : escB x = v := ((unB_unR v.length v (Nat.le_refl _) x).1 h).2
theorem unB_escC (c : UInt8) (t : List UInt8) : unB (escC c ++ t) = (unB t).map (c :: ·) := by
 unfold escC
 cases hp : plainB c.toNat with
 | true => simp only [if_true, List.cons_append, List.nil_append]; rw [unB_cons, hp, if_pos rfl]
 | false =>
  have hb : hexB (hexD (c.toNat / 16)) (hexD (c.toNat % 16)) = c := by
   have hq : c.toNat / 16 < 16 := by have := c.toNat_lt; omega
   unfold hexB
   rw [hexv_hexD _ hq, hexv_hexD _ (by omega)]
   simp only [Int.toNat_natCast]
   rw [show c.toNat / 16 * 16 + c.toNat % 16 = c.toNat by omega]
   exact UInt8.ofNat_toNat
  have hq : ¬ hexv (hexD (c.toNat / 16)) < 0 := by rw [hexv_hexD _ (by have := c.toNat_lt; omega)]; omega
  have hr : ¬ hexv (hexD (c.toNat % 16)) < 0 := by rw [hexv_hexD _ (by omega)]; omega
  simp only [Bool.false_eq_true, if_false, List.cons_append, List.nil_append]
  rw [unB_cons, not37, if_neg (by simp), if_pos rfl]
  simp only [unHex, hb, hp, hq, hr, or_self, Bool.false_eq_true, if_false]
theorem unB_escB : ∀ s : List UInt8, unB (escB s) = some s
 | [] => by simp [escB, unB]
 | c :: t => by
  show unB (escC c ++ escB t) = _
  rw [unB_escC, unB_escB t]; rfl
def wfW (w : List UInt8) : Prop := w ≠ [] ∧ (32 : UInt8) ∉ w ∧ (10 : UInt8) ∉ w
theorem hexD_32 : ∀ n, n < 16 → hexD n ≠ 32 ∧ hexD n ≠ 10 := by decide +kernel
theorem escC_w (c : UInt8) : (32 : UInt8) ∉ escC c ∧ (10 : UInt8) ∉ escC c := by
 unfold escC
 cases hp : plainB c.toNat with
 | true =>
  simp only [if_true, List.mem_singleton]
  constructor <;> (rintro rfl; revert hp; decide)
 | false =>
  have h1 := hexD_32 (c.toNat / 16) (by have := c.toNat_lt; omega)
  have h2 := hexD_32 (c.toNat % 16) (by omega)
  simp only [Bool.false_eq_true, if_false, List.mem_cons, List.not_mem_nil, or_false, not_or]
  exact ⟨⟨by decide, h1.1.symm, h2.1.symm⟩, ⟨by decide, h1.2.symm, h2.2.symm⟩⟩
theorem escB_w {s : List UInt8} (h : s ≠ []) : wfW (escB s) := by
 refine ⟨fun h0 => ?_, ?_, ?_⟩
 ·have := escB_ge s
  rw [h0] at this
  exact h (List.eq_nil_of_length_eq_zero (by simpa using this))
 all_goals
  intro hm
  obtain ⟨c, _, hc⟩ := List.mem_flatMap.1 hm
  first | exact (escC_w c).1 hc | exact (escC_w c).2 hc
theorem wordc_w (c : UInt8) (h : wordcB c.toNat = true) : c ≠ 32 ∧ c ≠ 10 := by
 constructor <;> (rintro rfl; revert h; decide)
theorem wordB_w {s : List UInt8} (h : wordB s = true) : wfW s := by
 simp only [wordB, Bool.and_eq_true, List.all_eq_true, Bool.not_eq_true', beq_eq_false_iff_ne] at h
 exact ⟨h.1.2, fun hm => (wordc_w _ (h.1.1 _ hm)).1 rfl, fun hm => (wordc_w _ (h.1.1 _ hm)).2 rfl⟩
theorem dec_w (u : Nat) : (32 : UInt8) ∉ Lib.decDigits u ∧ (10 : UInt8) ∉ Lib.decDigits u := by
 have := dec_all u
 simp only [List.all_eq_true] at this
 constructor <;> (intro hm; have := this _ hm; revert this; decide)
theorem itoa_w (n : Int) : wfW (Lib.itoa n) := by
 obtain ⟨c, t, h1, _⟩ := dec_ne n.natAbs
 by_cases h : n < 0
 ·rw [itoa_neg n h]
  have := dec_w n.natAbs
  refine ⟨by simp, ?_, ?_⟩ <;> simp [this]
 ·rw [itoa_pos n h]
  exact ⟨by rw [h1]; simp, dec_w _⟩
theorem cutA_app (c : UInt8) : ∀ (w acc r : List UInt8), c ∉ w → cutA c acc (w ++ r) = cutA c (acc ++ w) r
 | [], acc, r, _ => by simp
 | x :: w, acc, r, h => by
  have hx : ((x.toNat : Int) == (c.toNat : Int)) = false := by
   rw [u8_beq]; simp; rintro rfl; exact h (by simp)
  rw [List.cons_append, cutA, hx]
  simp only [Bool.false_eq_true, if_false]
  rw [cutA_app c w _ r (fun hm => h (List.mem_cons_of_mem _ hm))]
  simp
theorem cutA_sep (c : UInt8) (acc r : List UInt8) : cutA c acc (c :: r) = acc :: cutA c [] r := by
 rw [cutA, u8_beq]; simp
theorem cutA_word (c : UInt8) (w : List UInt8) (h : c ∉ w) : cutA c [] w = [w] := by
 have := cutA_app c w [] [] h
 simpa [cutA] using this
theorem joinT (c : UInt8) (x y : List UInt8) (r : Wds) : Lib.join (x :: y :: r) [c] = x ++ c :: Lib.join (y :: r) [c] := by
 simp [Lib.join, List.intercalate]
theorem cut_join (c : UInt8) : ∀ (ws : Wds), ws ≠ [] → (∀ w ∈ ws, c ∉ w) → cutA c [] (Lib.join ws [c]) = ws
 | [], h, _ => absurd rfl h
 | [x], _, h => by rw [Lib.join_one]; exact cutA_word c x (h x (by simp))
 | x :: y :: r, _, h => by
  rw [joinT, cutA_app c x _ _ (h x (by simp)), cutA_sep, cut_join c (y :: r) (by simp) (fun w hw => h w (List.mem_cons_of_mem _ hw))]
  rfl
theorem join_cut (c : UInt8) : ∀ (s acc : List UInt8), Lib.join (cutA c acc s) [c] = acc ++ s
 | [], acc => by rw [cutA, Lib.join_one]; simp
 | x :: s, acc => by
  rw [cutA, u8_beq]
  by_cases h : x = c
  ·subst h
   simp only [beq_self_eq_true, if_true]
   obtain ⟨a, t, e⟩ := cutA_ne x s
   have ih := join_cut x s []
   rw [e] at ih ⊢
   rw [joinT, ih]; simp
  ·have : (x == c) = false := by simpa using h
   simp only [this, Bool.false_eq_true, if_false]
   rw [join_cut c s]; simp
theorem cutA_no (c : UInt8) : ∀ (s acc : List UInt8), c ∉ acc → ∀ w ∈ cutA c acc s, c ∉ w
 | [], acc, h, w, hw => by rw [cutA, List.mem_singleton] at hw; subst hw; exact h
 | x :: s, acc, h, w, hw => by
  rw [cutA, u8_beq] at hw
  by_cases hx : x = c
  ·simp only [hx, beq_self_eq_true, if_true, List.mem_cons] at hw
   rcases hw with rfl | hw
   ·exact h
   ·exact cutA_no c s [] (by simp) w hw
  ·have : (x == c) = false := by simpa using hx
   simp only [this, Bool.false_eq_true, if_false] at hw
   exact cutA_no c s _ (by simp [h]; exact fun e => hx e.symm) w hw
def Key.good (k : Key) : Prop := wordB k.id = true ∧ cleanB k.sec = true ∧ windowsB k = true
theorem keyE_iff (seen : List Key) (k : Key) : keyE seen k = 0 ↔ k.good ∧ ∀ q ∈ seen, q.id ≠ k.id := by
 have ha : seen.any (fun q => q.id == k.id) = false ↔ ∀ q ∈ seen, q.id ≠ k.id := by simp
 rw [← ha]
 unfold keyE Key.good
 cases h1 : wordB k.id <;> cases h2 : cleanB k.sec <;> cases h3 : windowsB k <;> cases h4 : seen.any (fun q => q.id == k.id) <;> simp
theorem chkK_iff : ∀ (l seen : List Key), chkK seen l = 0 ↔ (∀ k ∈ l, k.good) ∧ (∀ k ∈ l, ∀ q ∈ seen, q.id ≠ k.id) ∧ l.Pairwise (fun a b => a.id ≠ b.id)
 | [], seen => by simp [chkK]
 | k :: t, seen => by
  rw [chkK]
  split
  ·rename_i h
   have h0 : ¬ keyE seen k = 0 := by simpa using h
   constructor
   ·intro e; exact absurd e h0
   ·rintro ⟨a, b, _⟩
    exact absurd ((keyE_iff seen k).2 ⟨a k (by simp), fun q hq => b k (by simp) q hq⟩) h0
  ·rename_i h
   have h0 : keyE seen k = 0 := by simpa using h
   obtain ⟨g, u⟩ := (keyE_iff seen k).1 h0
   rw [chkK_iff t (seen ++ [k])]
   simp only [List.mem_cons, forall_eq_or_imp, List.mem_append, List.not_mem_nil, or_false, List.pairwise_cons]
   constructor
   ·rintro ⟨a, b, c⟩
    exact ⟨⟨g, a⟩, ⟨u, fun x hx q hq => b x hx q (.inl hq)⟩, fun x hx => b x hx k (.inr rfl), c⟩
   ·rintro ⟨⟨_, a⟩, ⟨_, b⟩, d, c⟩
    refine ⟨a, fun x hx q hq => ?_, c⟩
    rcases hq with hq | rfl
    ·exact b x hx q hq
    ·exact d x hx
theorem checkK_iff (l : List Key) : checkK l = 0 ↔ l.length ≤ 16 ∧ (∀ k ∈ l, k.good) ∧ l.Pairwise (fun a b => a.id ≠ b.id) := by
 rw [checkK]
 split
 ·rename_i h
  have : ¬ l.length ≤ 16 := by simp at h; omega
  simp [this]
 ·rename_i h
  have : l.length ≤ 16 := by simp at h; omega
  rw [chkK_iff]
  simp [this]
theorem sgL_mem (now : Int) : ∀ (l : List Key) (b : Key), sgL now b l = b ∨ (sgL now b l ∈ l ∧ inB (sgL now b l).sf (sgL now b l).su now = true)
 | [], b => .inl rfl
 | k :: t, b => by
  rw [sgL_cons]
  split
  ·rename_i h
   rw [Bool.and_eq_true] at h
   rcases sgL_mem now t k with e | ⟨h1, h2⟩
   ·exact .inr (by rw [e]; exact ⟨by simp, h.1⟩)
   ·exact .inr ⟨by simp [h1], h2⟩
  ·rcases sgL_mem now t b with e | ⟨h1, h2⟩
   ·exact .inl e
   ·exact .inr ⟨by simp [h1], h2⟩
theorem sgK_some {l : List Key} {now : Int} (h : eqK (sgK l now) zeroK = false) : checkK l = 0 ∧ sgK l now ∈ l ∧ inB (sgK l now).sf (sgK l now).su now = true := by
 unfold sgK at h ⊢
 split at h
 ·rw [(eqK_iff _ _).2 rfl] at h; cases h
 ·rename_i hc
  have hc0 : checkK l = 0 := by simpa using hc
  rw [if_neg hc]
  rcases sgL_mem now l zeroK with e | h1
  ·rw [e, (eqK_iff _ _).2 rfl] at h; cases h
  ·exact ⟨hc0, h1⟩
theorem clean_ne {s : List UInt8} (h : cleanB s = true) : s ≠ [] := by
 intro e; rw [e] at h; simp [cleanB] at h
theorem lineW_w {k : Key} (h : k.good) : ∀ w ∈ lineW k, wfW w := by
 intro w hw
 simp only [lineW, List.mem_cons, List.not_mem_nil, or_false] at hw
 rcases hw with rfl | rfl | rfl | rfl | rfl | rfl
 ·exact wordB_w h.1
 ·exact escB_w (clean_ne h.2.1)
 all_goals exact itoa_w _
theorem join_mem (c x : UInt8) : ∀ ws : Wds, x ∈ Lib.join ws [c] → x = c ∨ ∃ w ∈ ws, x ∈ w
 | [], h => by simp [Lib.join, List.intercalate] at h
 | [w], h => by rw [Lib.join_one] at h; exact .inr ⟨w, by simp, h⟩
 | a :: b :: r, h => by
  rw [joinT] at h
  rcases List.mem_append.1 h with h | h
  ·exact .inr ⟨a, by simp, h⟩
  ·rcases List.mem_cons.1 h with h | h
   ·exact .inl h
   ·rcases join_mem c x (b :: r) h with h | ⟨w, hw, h⟩
    ·exact .inl h
    ·exact .inr ⟨w, List.mem_cons_of_mem _ hw, h⟩
theorem lineB_10 {k : Key} (h : k.good) : (10 : UInt8) ∉ lineB k := by
 intro hm
 rcases join_mem 32 10 _ hm with e | ⟨w, hw, hx⟩
 ·revert e; decide
 ·exact (lineW_w h w hw).2.2 hx
theorem cut_line {k : Key} (h : k.good) : cutA 32 [] (lineB k) = lineW k :=
 cut_join 32 (lineW k) (by simp [lineW]) fun w hw => (lineW_w h w hw).2.1
theorem rd_itoa {n : Int} (h : 0 ≤ n ∧ n ≤ 1099511627776) : rdN (Lib.itoa n) = (n, 0) := rdN_itoa n (by omega) (by omega)
theorem rdK_line {k : Key} (h : k.good) : rdK (cutA 32 [] (lineB k)) = (k, 0) := by
 rw [cut_line h]
 obtain ⟨a, b, c, d⟩ := win_rng h.2.2
 have e1 := rd_itoa a; have e2 := rd_itoa b; have e3 := rd_itoa c; have e4 := rd_itoa d
 have hu := unB_escB k.sec
 have h0 : erK (ueB (escB k.sec)) [Lib.itoa k.sf, Lib.itoa k.su, Lib.itoa k.af, Lib.itoa k.au] = 0 := by
  refine erK_0 _ (by simp [ueB, hu]) ?_ ?_
  ·simp [anF, e1, e2, e3, e4]
  ·simp [anW, e1, e2, e3, e4]
 have := rdK_s k.id (escB k.sec) (r := [Lib.itoa k.sf, Lib.itoa k.su, Lib.itoa k.af, Lib.itoa k.au]) rfl h0
 rw [lineW, this]
 simp [keyR, hu, wdAt, e1, e2, e3, e4]
theorem rdN_ok {r : Wds} (hf : anF r = false) (hw : anW r = false) : ∀ x ∈ r, Lib.itoa (rdN x).1 = x := by
 intro x hx
 refine itoa_rdN ?_
 simp only [anF, anW, List.any_eq_false, beq_iff_eq] at hf hw
 rcases rdN_err x with e | e | e
 ·exact e
 ·exact absurd e (hf x hx)
 ·exact absurd e (hw x hx)
theorem line_rdK {s : List UInt8} {k : Key} (h : rdK (cutA 32 [] s) = (k, 0)) : lineB k = s := by
 have hj := join_cut 32 s []
 rw [List.nil_append] at hj
 generalize cutA 32 [] s = ws at h hj
 by_cases hl : ws.length = 6
 ·obtain ⟨w0, w1, r, rfl, hr⟩ := len6 hl
  by_cases he : erK (ueB w1) r = 0
  ·rw [rdK_s w0 w1 hr he] at h
   simp only [Prod.mk.injEq, and_true] at h
   have hu : ueB w1 = 0 := by
    rcases Classical.em (ueB w1 = 0) with e | e
    ·exact e
    ·have e4 : ueB w1 = 4 := by unfold ueB at e ⊢; split <;> simp_all
     rw [erK_4 r e4] at he; cases he
   have hf : anF r = false := by
    cases hq : anF r with
    | false => rfl
    | true => unfold erK erF at he; rw [hq] at he; simp at he
   have hw : anW r = false := by
    cases hq : anW r with
    | false => rfl
    | true => rw [erK_27 r hu hf hq] at he; cases he
   obtain ⟨a, b, c, d, rfl⟩ := len4 hr
   have hn := rdN_ok hf hw
   have hs : ∃ x, unB w1 = some x := by
    unfold ueB at hu
    cases hq : unB w1 with
    | none => rw [hq] at hu; simp at hu
    | some x => exact ⟨x, rfl⟩
   obtain ⟨x, hx⟩ := hs
   rw [← hj, ← h]
   have e1 := hn a (by simp); have e2 := hn b (by simp); have e3 := hn c (by simp); have e4 := hn d (by simp)
   simp only [lineB, lineW, keyR, hx, Option.getD_some, escB_unB hx, wdAt, List.getElem?_cons_zero, List.getElem?_cons_succ, e1, e2, e3, e4]
  ·rw [rdK_e w0 w1 hr rfl he] at h
   simp only [Prod.mk.injEq] at h
   exact absurd h.2 he
 ·rw [rdK_n hl] at h; simp at h
theorem check_pre {a b : List Key} (h : checkK (a ++ b) = 0) : checkK a = 0 := by
 obtain ⟨h1, h2, h3⟩ := (checkK_iff _).1 h
 refine (checkK_iff _).2 ⟨?_, fun k hk => h2 k (by simp [hk]), (List.pairwise_append.1 h3).1⟩
 rw [List.length_append] at h1; omega
end Go.Proofs
