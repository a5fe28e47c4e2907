import Derived.Test.YthepmnlpfhmddaaGreatDoorG07
import Derived.Test.YthepmnlpfhmddaaGreatDoorG06
import Derived.Test.YthepmnlpfhmddaaGreatDoorG03
import Derived.Test.YthepmnlpfhmddaaGreatDoorG02
set_option linter.unusedVariables false
set_option linter.unusedSimpArgs false
set_option linter.unnecessarySimpa false
namespace Go.Proofs
open Go Go.Id
structure Par where
 id : List UInt8
 addr : List UInt8
 keys : List Key
 nk : Bool
 f : Int
 u : Int
def Par.cs (p : Par) : List D := [.str p.id, .str p.addr, .slice 6 p.nk (p.keys.map Key.cs) none, .int .i64 p.f, .int .i64 p.u]
def zeroP : Par := ⟨[], [], [], true, 0, 0⟩
def httpsL : List UInt8 := [104, 116, 116, 112, 115, 58, 47, 47]
def addrB (s : List UInt8) : Bool := cleanB s && httpsL.isPrefixOf s
def winB (f u : Int) : Bool := decide (f ≥ 0) && decide (f < u) && decide (u ≤ 1099511627776)
def checkP (p : Par) : Int := if wordB p.id = false then 5 else if addrB p.addr = false then 4 else if winB p.f p.u = false then 2 else if p.keys.isEmpty = true then 6 else checkK p.keys
def keyL (k : Key) : List UInt8 := [107, 101, 121, 32] ++ lineB k ++ [10]
def headP (p : Par) : List UInt8 := [105, 100, 32] ++ p.id ++ [10, 97, 100, 100, 114, 101, 115, 115, 32] ++ escB p.addr ++ [10, 118, 97, 108, 105, 100, 32] ++ Lib.itoa p.f ++ [32] ++ Lib.itoa p.u ++ [10]
def linesP (p : Par) : List UInt8 := headP p ++ p.keys.flatMap keyL
def textP (p : Par) : List UInt8 × Int := if (checkP p != 0) = true then ([], checkP p) else if decide (((linesP p).length : Int) > 4096) = true then ([], 3) else (linesP p, 0)
def sp (c : UInt8) : List UInt8 → Option (List UInt8 × List UInt8)
 | [] => none
 | b :: s => if b = c then some ([], s) else (sp c s).map fun q => (b :: q.1, q.2)
theorem sp_none {c : UInt8} : ∀ {s : List UInt8}, sp c s = none → c ∉ s
 | [], _ => by simp
 | b :: s, h => by
  unfold sp at h
  split at h
  ·cases h
  ·rename_i hb
   have := sp_none (Option.map_eq_none_iff.1 h)
   simp only [List.mem_cons, not_or]
   exact ⟨fun e => hb e.symm, this⟩
theorem sp_some {c : UInt8} : ∀ {s l r : List UInt8}, sp c s = some (l, r) → s = l ++ c :: r ∧ c ∉ l
 | [], l, r, h => by cases h
 | b :: s, l, r, h => by
  unfold sp at h
  split at h
  ·rename_i hb; cases h; subst hb; simp
  ·rename_i hb
   obtain ⟨⟨l', r'⟩, h1, h2⟩ := Option.map_eq_some_iff.1 h
   obtain ⟨h3, h4⟩ := sp_some h1
   cases h2
   refine ⟨by rw [h3]; rfl, ?_⟩
   simp only [List.mem_cons, not_or]
   exact ⟨fun e => hb e.symm, h4⟩
theorem sp_of {c : UInt8} {r : List UInt8} : ∀ {l : List UInt8}, c ∉ l → sp c (l ++ c :: r) = some (l, r)
 | [], _ => by simp [sp]
 | b :: l, h => by
  simp only [List.mem_cons, not_or] at h
  rw [List.cons_append, sp, if_neg (fun e => h.1 e.symm), sp_of h.2]; rfl
theorem index_no (c : UInt8) : ∀ s : List UInt8, c ∉ s → Lib.index s [c] = -1
 | [], _ => rfl
 | b :: l, h => by
  simp only [List.mem_cons, not_or] at h
  unfold Lib.index
  rw [if_neg (by simp [List.isPrefixOf, h.1]), index_no c l h.2]; rfl
theorem index_at (c : UInt8) (r : List UInt8) : ∀ l : List UInt8, c ∉ l → Lib.index (l ++ c :: r) [c] = l.length
 | [], _ => by simp [Lib.index, List.isPrefixOf]
 | b :: l, h => by
  simp only [List.mem_cons, not_or] at h
  rw [List.cons_append]
  unfold Lib.index
  rw [if_neg (by simp [List.isPrefixOf, h.1]), index_at c r l h.2, if_neg (by simp)]
  simp
theorem cut_no {c : UInt8} {s : List UInt8} (h : sp c s = none) : Lib.cut s [c] = (s, [], false) := by
 unfold Lib.cut
 rw [index_no c s (sp_none h), if_neg (by omega)]
theorem cut_at {c : UInt8} {s l r : List UInt8} (h : sp c s = some (l, r)) : Lib.cut s [c] = (l, r, true) := by
 obtain ⟨rfl, h2⟩ := sp_some h
 unfold Lib.cut
 rw [index_at c r l h2, if_pos (by omega)]
 simp
theorem cutA_at {c : UInt8} {s l r : List UInt8} (h : sp c s = some (l, r)) : cutA c [] s = l :: cutA c [] r := by
 obtain ⟨rfl, h2⟩ := sp_some h
 rw [cutA_app c l [] _ h2, cutA_sep]
 simp
theorem cutA_none {c : UInt8} {s : List UInt8} (h : sp c s = none) : cutA c [] s = [s] := cutA_word c s (sp_none h)
theorem cutA_cons (c : UInt8) (s : List UInt8) : ∃ l t, cutA c [] s = l :: t := by
 cases h : sp c s with
 | none => exact ⟨_, _, cutA_none h⟩
 | some q => exact ⟨_, _, cutA_at (l := q.1) (r := q.2) h⟩
def rmW (w l : List UInt8) : Option (List UInt8) := if (w ++ [32]).isPrefixOf l = true then some (l.drop (w.length + 1)) else none
def idW : List UInt8 := [105, 100]
def adW : List UInt8 := [97, 100, 100, 114, 101, 115, 115]
def vaW : List UInt8 := [118, 97, 108, 105, 100]
def keW : List UInt8 := [107, 101, 121]
def numE (x : List UInt8) : Int :=
 if (!((Lib.cut x [32]).2.2) || (rdN (Lib.cut x [32]).1).2 == 4 || (rdN (Lib.cut x [32]).2.1).2 == 4) = true then 4
 else if ((rdN (Lib.cut x [32]).1).2 != 0 || (rdN (Lib.cut x [32]).2.1).2 != 0) = true then 27 else 0
def numF (x : List UInt8) : Int := (rdN (Lib.cut x [32]).1).1
def numU (x : List UInt8) : Int := (rdN (Lib.cut x [32]).2.1).1
def idE (x : List UInt8) : Int := if x.contains 32 = true then 4 else if wordB x = true then 0 else 5
def adE (x : List UInt8) : Int := match unB x with | none => 4 | some a => if addrB a = true then 0 else 4
def adV (x : List UInt8) : List UInt8 := (unB x).getD []
def vaE (x : List UInt8) : Int := if (numE x != 0) = true then numE x else if winB (numF x) (numU x) = true then 0 else 2
def keR (x : List UInt8) : Key := (rdK (cutA 32 [] x)).1
def keE (l : List Key) (x : List UInt8) : Int := if ((rdK (cutA 32 [] x)).2 != 0) = true then (rdK (cutA 32 [] x)).2 else checkK (l ++ [keR x])
def woP (n : Nat) : List UInt8 := if n = 1 then idW else if n = 2 then adW else if n = 3 then vaW else keW
def stE (n : Nat) (p : Par) (l : List UInt8) : Int :=
 match rmW (woP n) l with
 | none => 4
 | some x => if n = 1 then idE x else if n = 2 then adE x else if n = 3 then vaE x else keE p.keys x
def stP (n : Nat) (p : Par) (l : List UInt8) : Par :=
 match rmW (woP n) l with
 | none => p
 | some x => if n = 1 then { p with id := x } else if n = 2 then { p with addr := adV x } else if n = 3 then { p with f := numF x, u := numU x } else { p with keys := p.keys ++ [keR x], nk := false }
def finP (n : Nat) (p : Par) : Par × Int × Int := if n < 4 then (zeroP, n, 4) else if n = 4 then (zeroP, 4, 6) else (p, 0, 0)
def loopP (n : Nat) (p : Par) : Wds → Par × Int × Int
 | [] => finP n p
 | [l] => if l = [] then finP n p else (zeroP, n, 4)
 | l :: m :: t => if stE n p l = 0 then loopP (n + 1) (stP n p l) (m :: t) else (zeroP, n, stE n p l)
def pP (s : List UInt8) : Par × Int × Int := if 4096 < s.length then (zeroP, 0, 3) else loopP 1 zeroP (cutA 10 [] s)
def pPD (x : Par × Int × Int) : D := .tup [.agg x.1.cs, .int .i64 x.2.1, .int .i64 x.2.2]
theorem loopP_next {n : Nat} {p : Par} {s l r : List UInt8} (h : sp 10 s = some (l, r)) (he : stE n p l = 0) : loopP n p (cutA 10 [] s) = loopP (n + 1) (stP n p l) (cutA 10 [] r) := by
 rw [cutA_at h]
 obtain ⟨m, t, hm⟩ := cutA_cons 10 r
 rw [hm, loopP, if_pos he]
theorem loopP_err {n : Nat} {p : Par} {s l r : List UInt8} (h : sp 10 s = some (l, r)) (he : ¬ stE n p l = 0) : loopP n p (cutA 10 [] s) = (zeroP, (n : Int), stE n p l) := by
 rw [cutA_at h]
 obtain ⟨m, t, hm⟩ := cutA_cons 10 r
 rw [hm, loopP, if_neg he]
theorem loopP_nil {n : Nat} {p : Par} : loopP n p (cutA 10 [] []) = finP n p := by
 rw [cutA_none (s := []) rfl, loopP, if_pos rfl]
theorem loopP_cut {n : Nat} {p : Par} {s : List UInt8} (h : sp 10 s = none) (hs : s ≠ []) : loopP n p (cutA 10 [] s) = (zeroP, (n : Int), 4) := by
 rw [cutA_none h, loopP, if_neg hs]
theorem checkP_iff (p : Par) : checkP p = 0 ↔ wordB p.id = true ∧ addrB p.addr = true ∧ winB p.f p.u = true ∧ p.keys ≠ [] ∧ checkK p.keys = 0 := by
 unfold checkP
 cases h1 : wordB p.id <;> cases h2 : addrB p.addr <;> cases h3 : winB p.f p.u <;> cases h4 : p.keys <;> simp
theorem winB_iff (f u : Int) : winB f u = true ↔ 0 ≤ f ∧ f < u ∧ u ≤ 1099511627776 := by
 simp only [winB, Bool.and_eq_true, decide_eq_true_eq]; omega
theorem rmW_of (w x : List UInt8) : rmW w (w ++ 32 :: x) = some x := by
 have h : (w ++ [32]).isPrefixOf (w ++ 32 :: x) = true := by
  rw [List.isPrefixOf_iff_prefix]; exact ⟨x, by simp⟩
 rw [rmW, if_pos h]
 simp
theorem rmW_inv {w l x : List UInt8} (h : rmW w l = some x) : l = w ++ 32 :: x := by
 unfold rmW at h
 split at h
 ·rename_i hp
  obtain ⟨y, hy⟩ := List.isPrefixOf_iff_prefix.1 hp
  subst hy
  simp at h
  subst h; simp
 ·cases h
theorem addr_clean {s : List UInt8} (h : addrB s = true) : cleanB s = true := by
 unfold addrB at h; exact (Bool.and_eq_true_iff.1 h).1
theorem itoa32 (n : Int) : (32 : UInt8) ∉ Lib.itoa n := (itoa_w n).2.1
theorem num_of {f u : Int} (h : winB f u = true) : numE (Lib.itoa f ++ 32 :: Lib.itoa u) = 0 ∧ numF (Lib.itoa f ++ 32 :: Lib.itoa u) = f ∧ numU (Lib.itoa f ++ 32 :: Lib.itoa u) = u := by
 obtain ⟨h1, h2, h3⟩ := (winB_iff f u).1 h
 have hc := cut_at (sp_of (r := Lib.itoa u) (itoa32 f))
 have e1 := rd_itoa (n := f) ⟨h1, by omega⟩
 have e2 := rd_itoa (n := u) ⟨by omega, h3⟩
 simp only [numE, numF, numU, hc, e1, e2]
 exact ⟨by decide, trivial, trivial⟩
theorem num_inv {x : List UInt8} (h : numE x = 0) : x = Lib.itoa (numF x) ++ 32 :: Lib.itoa (numU x) := by
 unfold numE at h
 split at h
 ·cases h
 ·rename_i h1
  split at h
  ·cases h
  ·rename_i h2
   simp only [Bool.or_eq_true, Bool.not_eq_true', beq_iff_eq, bne_iff_ne, not_or, Bool.not_eq_false, ne_eq, Decidable.not_not] at h1 h2
   cases hs : sp 32 x with
   | none => rw [cut_no hs] at h1; simp at h1
   | some q =>
    obtain ⟨a, b⟩ := q
    have hc := cut_at hs
    rw [hc] at h2
    simp only [numF, numU, hc]
    rw [itoa_rdN h2.1, itoa_rdN h2.2]
    exact (sp_some hs).1
theorem idE_0 {x : List UInt8} : idE x = 0 ↔ wordB x = true := by
 unfold idE
 constructor
 ·intro h
  split at h
  ·cases h
  ·split at h
   ·assumption
   ·cases h
 ·intro h
  have : x.contains 32 = false := by
   have := (wordB_w h).2.1
   simpa using this
  rw [this, if_neg (by simp), if_pos h]
theorem adE_0 {x : List UInt8} : adE x = 0 ↔ ∃ a, unB x = some a ∧ addrB a = true := by
 unfold adE
 cases h : unB x with
 | none => simp
 | some a => cases h2 : addrB a <;> simp [h2]
theorem vaE_0 {x : List UInt8} : vaE x = 0 ↔ numE x = 0 ∧ winB (numF x) (numU x) = true := by
 unfold vaE
 by_cases h : numE x = 0
 ·cases h2 : winB (numF x) (numU x) <;> simp [h]
 ·simp [h]
theorem keE_0 {l : List Key} {x : List UInt8} : keE l x = 0 ↔ (rdK (cutA 32 [] x)).2 = 0 ∧ checkK (l ++ [keR x]) = 0 := by
 unfold keE
 by_cases h : (rdK (cutA 32 [] x)).2 = 0
 ·simp [h]
 ·simp [h]
theorem keR_line {k : Key} (h : k.good) : keR (lineB k) = k := by unfold keR; rw [rdK_line h]
theorem line_keR {x : List UInt8} (h : (rdK (cutA 32 [] x)).2 = 0) : lineB (keR x) = x := line_rdK (Prod.ext rfl h)
theorem loop_keys : ∀ (ks : List Key) (n : Nat) (p : Par), 4 ≤ n → (n = 4 → ks ≠ []) → checkK (p.keys ++ ks) = 0 → loopP n p (cutA 10 [] (ks.flatMap keyL)) = ({ p with keys := p.keys ++ ks, nk := if ks.isEmpty then p.nk else false }, 0, 0)
 | [], n, p, hn, h4, _ => by
  rw [List.flatMap_nil, loopP_nil, finP, if_neg (by omega), if_neg (fun e => h4 e rfl)]
  simp
 | k :: ks, n, p, hn, h4, hc => by
  have hg : k.good := ((checkK_iff _).1 hc).2.1 k (by simp)
  have hl : (10 : UInt8) ∉ keW ++ 32 :: lineB k := by
   have := lineB_10 hg
   intro hm
   rcases List.mem_append.1 hm with h | h
   ·revert h; decide
   ·rcases List.mem_cons.1 h with h | h
    ·revert h; decide
    ·exact this h
  have hs : sp 10 ((k :: ks).flatMap keyL) = some (keW ++ 32 :: lineB k, ks.flatMap keyL) := by
   have e : (k :: ks).flatMap keyL = (keW ++ 32 :: lineB k) ++ 10 :: ks.flatMap keyL := by simp [List.flatMap_cons, keyL, keW]
   rw [e]; exact sp_of hl
  have hw : woP n = keW := by unfold woP; rw [if_neg (by omega), if_neg (by omega), if_neg (by omega)]
  have hck : checkK (p.keys ++ [k]) = 0 := check_pre (b := ks) (by simpa using hc)
  have he : stE n p (keW ++ 32 :: lineB k) = 0 := by
   unfold stE
   rw [hw, rmW_of]
   simp only
   rw [if_neg (by omega), if_neg (by omega), if_neg (by omega), keE_0, keR_line hg, rdK_line hg]
   exact ⟨rfl, hck⟩
  have hp : stP n p (keW ++ 32 :: lineB k) = { p with keys := p.keys ++ [k], nk := false } := by
   unfold stP
   rw [hw, rmW_of]
   simp only
   rw [if_neg (by omega), if_neg (by omega), if_neg (by omega), keR_line hg]
  rw [loopP_next hs he, hp, loop_keys ks (n + 1) _ (by omega) (by omega) (by simpa using hc)]
  simp
theorem mem_cons2 {a b : UInt8} {w x : List UInt8} (hw : a ∉ w) (hb : a ≠ b) (hx : a ∉ x) : a ∉ w ++ b :: x := by
 intro hm
 rcases List.mem_append.1 hm with h | h
 ·exact hw h
 ·rcases List.mem_cons.1 h with h | h
  ·exact hb h
  ·exact hx h
theorem linesP_eq (p : Par) : linesP p = (idW ++ 32 :: p.id) ++ 10 :: ((adW ++ 32 :: escB p.addr) ++ 10 :: ((vaW ++ 32 :: (Lib.itoa p.f ++ 32 :: Lib.itoa p.u)) ++ 10 :: p.keys.flatMap keyL)) := by
 simp [linesP, headP, idW, adW, vaW]
theorem pP_lines {p : Par} (h : checkP p = 0) (hl : (linesP p).length ≤ 4096) : pP (linesP p) = ({ p with nk := false }, 0, 0) := by
 obtain ⟨h1, h2, h3, h4, h5⟩ := (checkP_iff p).1 h
 obtain ⟨n1, n2, n3⟩ := num_of h3
 have hne := clean_ne (addr_clean h2)
 unfold pP
 rw [if_neg (by omega), linesP_eq]
 rw [loopP_next (sp_of (mem_cons2 (by decide) (by decide) (wordB_w h1).2.2)) (by
  unfold stE; rw [show woP 1 = idW from rfl, rmW_of]; exact idE_0.2 h1)]
 rw [loopP_next (sp_of (mem_cons2 (by decide) (by decide) (escB_w hne).2.2)) (by
  unfold stE; rw [show woP (1 + 1) = adW from rfl, rmW_of]; exact adE_0.2 ⟨_, unB_escB _, h2⟩)]
 rw [loopP_next (sp_of (mem_cons2 (by decide) (by decide) (mem_cons2 (itoa_w _).2.2 (by decide) (itoa_w _).2.2))) (by
  unfold stE; rw [show woP (1 + 1 + 1) = vaW from rfl, rmW_of]; exact vaE_0.2 ⟨n1, by rw [n2, n3]; exact h3⟩)]
 have e1 : stP 1 zeroP (idW ++ 32 :: p.id) = { zeroP with id := p.id } := by unfold stP; rw [show woP 1 = idW from rfl, rmW_of]; rfl
 have e2 : ∀ q : Par, stP (1 + 1) q (adW ++ 32 :: escB p.addr) = { q with addr := p.addr } := by
  intro q; unfold stP; rw [show woP (1 + 1) = adW from rfl, rmW_of]
  show { q with addr := adV (escB p.addr) } = _
  rw [adV, unB_escB]; rfl
 have e3 : ∀ q : Par, stP (1 + 1 + 1) q (vaW ++ 32 :: (Lib.itoa p.f ++ 32 :: Lib.itoa p.u)) = { q with f := p.f, u := p.u } := by
  intro q; unfold stP; rw [show woP (1 + 1 + 1) = vaW from rfl, rmW_of]
  show { q with f := numF _, u := numU _ } = _
  rw [n2, n3]
 rw [e1, e2, e3, loop_keys p.keys _ _ (by omega) (fun _ => h4) (by simpa [zeroP] using h5)]
 have : p.keys.isEmpty = false := by cases hk : p.keys <;> simp_all
 simp [zeroP, this]
theorem loop_inv : ∀ (ws : Wds) (n : Nat) (p q : Par) (a : Int), 4 ≤ n → ws ≠ [] → checkK p.keys = 0 → (p.keys ≠ [] → p.nk = false) → (n = 4 ↔ p.keys = []) → loopP n p ws = (q, a, 0) →
  a = 0 ∧ checkK q.keys = 0 ∧ q.keys ≠ [] ∧ q.nk = false ∧ q.id = p.id ∧ q.addr = p.addr ∧ q.f = p.f ∧ q.u = p.u ∧ ∃ l, q.keys = p.keys ++ l ∧ ws = (l.map fun k => keW ++ 32 :: lineB k) ++ [[]]
 | [], _, _, _, _, _, h, _, _, _, _ => absurd rfl h
 | [l], n, p, q, a, hn, _, hc, hk, h4, h => by
  unfold loopP at h
  split at h
  ·rename_i e
   unfold finP at h
   rw [if_neg (by omega)] at h
   split at h
   ·cases h
   ·rename_i hne
    cases h
    have hk' : p.keys ≠ [] := fun e => hne (h4.2 e)
    exact ⟨rfl, hc, hk', hk hk', rfl, rfl, rfl, rfl, [], by simp, by simp [e]⟩
  ·cases h
 | l :: m :: t, n, p, q, a, hn, _, hc, hk, h4, h => by
  unfold loopP at h
  split at h
  rotate_left
  ·rename_i hne; exact absurd (congrArg (·.2.2) h) hne
  rename_i he
  have hw : woP n = keW := by unfold woP; rw [if_neg (by omega), if_neg (by omega), if_neg (by omega)]
  unfold stE at he
  rw [hw] at he
  unfold stP at h
  rw [hw] at h
  cases hr : rmW keW l with
  | none => rw [hr] at he; cases he
  | some x =>
   rw [hr] at he h
   simp only at he h
   rw [if_neg (by omega), if_neg (by omega), if_neg (by omega)] at he h
   obtain ⟨r1, r2⟩ := keE_0.1 he
   obtain ⟨i1, i2, i3, i4, i5, i6, i7, i8, l', i9, i10⟩ := loop_inv (m :: t) (n + 1) _ q a (by omega) (by simp) r2 (fun _ => rfl) (by simp; omega) h
   refine ⟨i1, i2, i3, i4, i5, i6, i7, i8, keR x :: l', by rw [i9]; simp, ?_⟩
   rw [i10, rmW_inv hr]
   simp only [List.map_cons, List.cons_append]
   rw [line_keR r1]
theorem join_keys : ∀ l : List Key, Lib.join ((l.map fun k => keW ++ 32 :: lineB k) ++ [[]]) [10] = l.flatMap keyL
 | [] => by simp [Lib.join, List.intercalate]
 | k :: l => by
  have : ∃ y r, (l.map fun k => keW ++ 32 :: lineB k) ++ [[]] = y :: r := by cases l <;> simp
  obtain ⟨y, r, hy⟩ := this
  rw [List.map_cons, List.cons_append, hy, joinT, ← hy, join_keys l]
  simp [List.flatMap_cons, keyL, keW]
theorem lines_pP {s : List UInt8} {q : Par} {a : Int} (h : pP s = (q, a, 0)) : a = 0 ∧ checkP q = 0 ∧ linesP q = s ∧ s.length ≤ 4096 ∧ q.nk = false := by
 unfold pP at h
 split at h
 ·cases h
 rename_i hlen
 have one : ∀ {n : Nat} {p : Par} {s : List UInt8}, n < 4 → loopP n p (cutA 10 [] s) = (q, a, 0) → ∃ l r, s = l ++ 10 :: r ∧ stE n p l = 0 ∧ loopP (n + 1) (stP n p l) (cutA 10 [] r) = (q, a, 0) := by
  intro n p s hn h
  cases hs : sp 10 s with
  | none =>
   rw [cutA_none hs] at h
   unfold loopP at h
   split at h
   ·unfold finP at h; rw [if_pos hn] at h; cases h
   ·cases h
  | some w =>
   obtain ⟨l, r⟩ := w
   by_cases he : stE n p l = 0
   ·rw [loopP_next hs he] at h
    exact ⟨l, r, (sp_some hs).1, he, h⟩
   ·rw [loopP_err hs he] at h
    exact absurd (congrArg (·.2.2) h) he
 obtain ⟨l1, r1, e1, s1, h⟩ := one (by omega) h
 obtain ⟨l2, r2, e2, s2, h⟩ := one (by omega) h
 obtain ⟨l3, r3, e3, s3, h⟩ := one (by omega) h
 unfold stE at s1 s2 s3
 rw [show woP 1 = idW from rfl] at s1
 rw [show woP (1 + 1) = adW from rfl] at s2
 rw [show woP (1 + 1 + 1) = vaW from rfl] at s3
 cases w1 : rmW idW l1 with
 | none => rw [w1] at s1; cases s1
 | some x1 =>
 cases w2 : rmW adW l2 with
 | none => rw [w2] at s2; cases s2
 | some x2 =>
 cases w3 : rmW vaW l3 with
 | none => rw [w3] at s3; cases s3
 | some x3 =>
 rw [w1] at s1; rw [w2] at s2; rw [w3] at s3
 have s1' := idE_0.1 s1
 obtain ⟨ad, s2', s2''⟩ := adE_0.1 s2
 obtain ⟨s3', s3''⟩ := vaE_0.1 s3
 have p1 : stP 1 zeroP l1 = { zeroP with id := x1 } := by unfold stP; rw [show woP 1 = idW from rfl, w1]; rfl
 have p2 : ∀ p : Par, stP (1 + 1) p l2 = { p with addr := ad } := by
  intro p; unfold stP; rw [show woP (1 + 1) = adW from rfl, w2]
  show { p with addr := adV x2 } = _
  rw [adV, s2']; rfl
 have p3 : ∀ p : Par, stP (1 + 1 + 1) p l3 = { p with f := numF x3, u := numU x3 } := by
  intro p; unfold stP; rw [show woP (1 + 1 + 1) = vaW from rfl, w3]; rfl
 rw [p1, p2, p3] at h
 obtain ⟨i1, i2, i3, i4, i5, i6, i7, i8, l', i9, i10⟩ := loop_inv _ _ _ q a (by omega) (by obtain ⟨x, y, hy⟩ := cutA_cons 10 r3; rw [hy]; simp) (show checkK [] = 0 by decide) (by simp [zeroP]) (by simp [zeroP]) h
 have hr3 : r3 = q.keys.flatMap keyL := by
  have := join_cut 10 r3 []
  rw [List.nil_append, i10, join_keys] at this
  rw [i9, ← this]; rfl
 refine ⟨i1, (checkP_iff q).2 ⟨by rw [i5]; exact s1', by rw [i6]; exact s2'', by rw [i7, i8]; exact s3'', i3, i2⟩, ?_, by omega, i4⟩
 rw [linesP_eq, i5, i6, i7, i8, ← hr3]
 show (idW ++ 32 :: x1) ++ 10 :: ((adW ++ 32 :: escB ad) ++ 10 :: ((vaW ++ 32 :: (Lib.itoa (numF x3) ++ 32 :: Lib.itoa (numU x3))) ++ 10 :: r3)) = s
 rw [escB_unB s2', ← num_inv s3', ← rmW_inv w1, ← rmW_inv w2, ← rmW_inv w3, ← e3, ← e2, ← e1]
theorem parseK_snoc {x : List UInt8} : ∀ (ls : Wds) (n : Int) (rs0 rs : List Key), parseK n rs0 (ls ++ [[]]) = (rs, 0, 0) → parseK n rs0 (ls ++ [x, []]) = if keE rs x = 0 then (rs ++ [keR x], 0, 0) else ([], n + (ls.length : Int) + 1, keE rs x)
 | [], n, rs0, rs, h => by
  rw [List.nil_append, parseK_e n rs0 rfl] at h
  cases h
  rw [List.nil_append]
  by_cases h1 : (rdK (cutA 32 [] x)).2 = 0
  ·by_cases h2 : checkK (rs0 ++ [keR x]) = 0
   ·rw [if_pos (keE_0.2 ⟨h1, h2⟩), parseK_s n rs0 (k := keR x) (Prod.ext rfl h1) h2, parseK_e _ _ rfl]
   ·have : keE rs0 x = checkK (rs0 ++ [keR x]) := by unfold keE; rw [if_neg (by simp [h1])]
    rw [this, if_neg h2, parseK_b n rs0 (k := keR x) (Prod.ext rfl h1) h2]
    simp
  ·have : keE rs0 x = (rdK (cutA 32 [] x)).2 := by unfold keE; rw [if_pos (by simpa using h1)]
   rw [this, if_neg h1, parseK_n n rs0 (k := keR x) (e := (rdK (cutA 32 [] x)).2) rfl h1]
   simp
 | l :: ls, n, rs0, rs, h => by
  have hm : ∃ m t, ls ++ [[]] = m :: t := by cases ls <;> simp
  obtain ⟨m, t, hm⟩ := hm
  have hm2 : ∃ m t, ls ++ [x, []] = m :: t := by cases ls <;> simp
  obtain ⟨m2, t2, hm2⟩ := hm2
  rw [List.cons_append, hm] at h
  rw [List.cons_append, hm2]
  by_cases h1 : (rdK (cutA 32 [] l)).2 = 0
  ·by_cases h2 : checkK (rs0 ++ [(rdK (cutA 32 [] l)).1]) = 0
   ·rw [parseK_s n rs0 (k := (rdK (cutA 32 [] l)).1) (Prod.ext rfl h1) h2] at h ⊢
    rw [← hm] at h
    rw [← hm2, parseK_snoc ls (n + 1) _ rs h]
    simp only [List.length_cons]
    split
    ·rfl
    ·congr 2; push_cast; omega
   ·rw [parseK_b n rs0 (k := (rdK (cutA 32 [] l)).1) (Prod.ext rfl h1) h2] at h
    exact absurd (congrArg (·.2.2) h) h2
  ·rw [parseK_n n rs0 (k := (rdK (cutA 32 [] l)).1) (e := (rdK (cutA 32 [] l)).2) rfl h1] at h
   exact absurd (congrArg (·.2.2) h) h1
def ringB (ls : Wds) : List UInt8 := ls.flatMap fun l => l ++ [10]
theorem ringB_snoc (ls : Wds) (x : List UInt8) : ringB (ls ++ [x]) = ringB ls ++ (x ++ [10]) := by simp [ringB]
theorem cut_ring : ∀ ls : Wds, (∀ l ∈ ls, (10 : UInt8) ∉ l) → cutA 10 [] (ringB ls) = ls ++ [[]]
 | [], _ => rfl
 | l :: ls, h => by
  have e : ringB (l :: ls) = l ++ 10 :: ringB ls := by simp [ringB]
  rw [e, cutA_at (sp_of (h l (by simp))), cut_ring ls fun x hx => h x (by simp [hx])]; rfl
structure RingI (ls : Wds) (rs : List Key) : Prop where
 no : ∀ l ∈ ls, (10 : UInt8) ∉ l
 pk : parseK 0 [] (ls ++ [[]]) = (rs, 0, 0)
theorem RingI.nil : RingI [] [] := ⟨by simp, rfl⟩
theorem RingI.step {ls : Wds} {rs : List Key} (h : RingI ls rs) {x : List UInt8} (hx : (10 : UInt8) ∉ x) (hl : (ringB (ls ++ [x])).length ≤ 4096) :
  pK (ringB (ls ++ [x])) = if keE rs x = 0 then (rs ++ [keR x], 0, 0) else ([], (ls.length : Int) + 1, keE rs x) := by
 have hno : ∀ l ∈ ls ++ [x], (10 : UInt8) ∉ l := by
  intro l hl
  rcases List.mem_append.1 hl with hl | hl
  ·exact h.no l hl
  ·rw [List.mem_singleton.1 hl]; exact hx
 rw [pK_short hl, cut_ring _ hno, List.append_assoc]
 show parseK 0 [] (ls ++ [x, []]) = _
 rw [parseK_snoc ls 0 [] rs h.pk]
 simp
theorem RingI.next {ls : Wds} {rs : List Key} (h : RingI ls rs) {x : List UInt8} (hx : (10 : UInt8) ∉ x) (he : keE rs x = 0) : RingI (ls ++ [x]) (rs ++ [keR x]) := by
 refine ⟨?_, ?_⟩
 ·intro l hl
  rcases List.mem_append.1 hl with hl | hl
  ·exact h.no l hl
  ·rw [List.mem_singleton.1 hl]; exact hx
 ·rw [List.append_assoc]
  show parseK 0 [] (ls ++ [x, []]) = _
  rw [parseK_snoc ls 0 [] rs h.pk, if_pos he]
def Par.ok (p : Par) : Prop := p.id.length ≤ 1099511627776 ∧ p.addr.length ≤ 1099511627776 ∧ p.keys.length ≤ 1099511627776 ∧ (p.nk = true → p.keys = []) ∧ ∀ k ∈ p.keys, k.ok
@[simp] theorem clo_par {S : Nat → Prop} (p : Par) : (∀ d ∈ p.cs, Clo S d) ↔ True := by
 simp only [iff_true, Par.cs, List.mem_cons, List.not_mem_nil, or_false]
 rintro d (rfl | rfl | rfl | rfl | rfl)
 ·simp
 ·simp
 ·rw [clo_slice]; exact ⟨(clo_key _).2 trivial, by simp⟩
 ·simp
 ·simp
theorem word_64 {s : List UInt8} (h : wordB s = true) : s.length ≤ 64 := by
 unfold wordB at h
 simp only [Bool.and_eq_true, decide_eq_true_eq] at h
 omega
theorem clean_256 {s : List UInt8} (h : cleanB s = true) : s.length ≤ 256 := by
 unfold cleanB at h
 simp only [Bool.and_eq_true, decide_eq_true_eq] at h
 omega
theorem good_line {k : Key} (h : k.good) : (lineB k).length ≤ 921 := by
 obtain ⟨h1, h2, h3⟩ := h
 obtain ⟨a, b, c, d⟩ := win_rng h3
 have i1 := itoa_20 a; have i2 := itoa_20 b; have i3 := itoa_20 c; have i4 := itoa_20 d
 have e := escB_len k.sec
 have := word_64 h1
 have := clean_256 h2
 simp only [lineB, lineW, joinT, Lib.join_one, List.length_append, List.length_cons]
 omega
theorem good_one {k : Key} (h : k.good) : checkK [k] = 0 := (checkK_iff _).2 ⟨by simp, by simpa using h, by simp⟩
theorem textK_one {k : Key} (h : k.good) : textK [k] = (lineB k ++ [10], 0) := by
 have e : textB [k] = lineB k ++ [10] := by simp [textB]
 have := good_line h
 unfold textK
 rw [good_one h, e, if_neg (by simp), if_neg (by simp; omega)]
def linesT (p : Par) (i : Nat) : List UInt8 := headP p ++ (p.keys.take i).flatMap keyL
theorem linesT_0 (p : Par) : linesT p 0 = headP p := by simp [linesT]
theorem linesT_end {p : Par} {i : Nat} (h : p.keys.length ≤ i) : linesT p i = linesP p := by rw [linesT, List.take_of_length_le h]; rfl
theorem linesT_next (p : Par) (k : Nat) (h : k < p.keys.length) : linesT p (k + 1) = linesT p k ++ ([107, 101, 121, 32] ++ (lineB p.keys[k] ++ [10])) := by
 rw [linesT, List.take_succ_eq_append_getElem h, List.flatMap_append, ← List.append_assoc]
 simp [linesT, keyL]
theorem head_len {p : Par} (h : checkP p = 0) : (headP p).length ≤ 3000 := by
 obtain ⟨h1, h2, h3, _⟩ := (checkP_iff p).1 h
 obtain ⟨a, b, c⟩ := (winB_iff _ _).1 h3
 have := word_64 h1
 have := clean_256 (addr_clean h2)
 have := escB_len p.addr
 have i1 := itoa_20 (n := p.f) ⟨a, by omega⟩
 have i2 := itoa_20 (n := p.u) ⟨by omega, c⟩
 simp only [headP, List.length_append, List.length_cons, List.length_nil]
 omega
theorem keys_len : ∀ l : List Key, (∀ k ∈ l, k.good) → (l.flatMap keyL).length ≤ l.length * 926
 | [], _ => by simp
 | k :: l, h => by
  have ih := keys_len l fun q hq => h q (by simp [hq])
  have := good_line (h k (by simp))
  simp only [List.flatMap_cons, List.length_append, List.length_cons, keyL, List.length_nil] at ih ⊢
  omega
theorem linesT_len {p : Par} (h : checkP p = 0) (i : Nat) : (linesT p i).length ≤ 20000 := by
 obtain ⟨_, _, _, _, h5⟩ := (checkP_iff p).1 h
 obtain ⟨g1, g2, _⟩ := (checkK_iff _).1 h5
 have a := head_len h
 have b := keys_len (p.keys.take i) fun q hq => g2 q (List.mem_of_mem_take hq)
 have c : (p.keys.take i).length ≤ 16 := by rw [List.length_take]; omega
 rw [linesT, List.length_append]
 have := Nat.mul_le_mul_right 926 c
 omega
theorem key_good {p : Par} (h : checkP p = 0) {k : Nat} (hk : k < p.keys.length) : p.keys[k].good :=
 ((checkK_iff _).1 ((checkP_iff p).1 h).2.2.2.2).2.1 _ (List.getElem_mem hk)
theorem len8 {s : List UInt8} : httpsL.isPrefixOf s = (decide ((s.length : Int) ≥ 8) && s.take 8 == httpsL) := by
 rw [Bool.eq_iff_iff]
 simp only [List.isPrefixOf_iff_prefix, Bool.and_eq_true, decide_eq_true_eq, beq_iff_eq]
 constructor
 ·rintro ⟨t, rfl⟩
  refine ⟨?_, ?_⟩
  ·simp [httpsL]; omega
  ·rw [show (8 : Nat) = httpsL.length from rfl, List.take_left']
   rfl
 ·rintro ⟨_, h⟩
  exact ⟨s.drop 8, by rw [← h]; exact List.take_append_drop 8 s⟩
theorem addr_r (s : List UInt8) : addrB s = (cleanB s && (decide ((s.length : Int) ≥ 8) && s.take 8 == [104, 116, 116, 112, 115, 58, 47, 47])) := by unfold addrB; rw [len8]; rfl
set_option maxRecDepth 10000
set_option maxHeartbeats 4000000
theorem c_m_window (f u : Int) : CallP Pr 42 [.agg [.int .i64 f, .int .i64 u]] (.bool (winB f u)) := by
 refine CallP.W Tryz.func42 Tryz.ntmps42 ?_
 simp only [frameOf]
 refine WP.S [1, 2] fun _ z => ?_; simp +decide only [TF, ↓reduceIte]; apply z; clear z
 refine WP.S [1, 2] fun _ z => ?_
 refine runOps.take 4 fun J hJ => ?_
 simp +decide only [TF, ↓reduceIte]
 refine hJ _ _ ?_; clear hJ J
 refine runOps.part 6 rfl (fun q1 => ?_) (fun q1 => ?_)
 ·refine runOps.take 7 fun J hJ => ?_
  simp +decide only [TF, q1, ↓reduceIte]
  refine hJ _ _ ?_; clear hJ J
  refine runOps.part 13 rfl (fun q2 => ?_) (fun q2 => ?_)
  ·simp +decide only [TF, q2, ↓reduceIte]
   apply z; clear z
   apply WP.ret
   exact Ends.P rfl (Le.of_eq (by simp +decide only [St.get, W, winB, q1, q2, ↓reduceIte]))
  simp +decide only [TF, q2, ↓reduceIte]
  apply z; clear z
  apply WP.ret
  exact Ends.P rfl (Le.of_eq (by simp +decide only [St.get, W, winB, q1, q2, ↓reduceIte]))
 simp +decide only [TF, q1, ↓reduceIte]
 apply z; clear z
 apply WP.ret
 exact Ends.P rfl (Le.of_eq (by simp +decide only [St.get, W, winB, q1, ↓reduceIte]))
theorem c_r_window (f u : Int) : CallP Pr 46 [.agg [.int .i64 f, .int .i64 u]] (.bool (winB f u)) := by
 refine CallP.W Tryz.func46 Tryz.ntmps46 ?_
 simp only [frameOf]
 refine WP.S [1, 2] fun _ z => ?_; simp +decide only [TF, ↓reduceIte]; apply z; clear z
 refine WP.S [1, 2] fun _ z => ?_
 refine runOps.take 4 fun J hJ => ?_
 simp +decide only [TF, ↓reduceIte]
 refine hJ _ _ ?_; clear hJ J
 refine runOps.part 6 rfl (fun q1 => ?_) (fun q1 => ?_)
 ·refine runOps.take 7 fun J hJ => ?_
  simp +decide only [TF, q1, ↓reduceIte]
  refine hJ _ _ ?_; clear hJ J
  refine runOps.part 13 rfl (fun q2 => ?_) (fun q2 => ?_)
  ·simp +decide only [TF, q2, ↓reduceIte]
   apply z; clear z
   apply WP.ret
   exact Ends.P rfl (Le.of_eq (by simp +decide only [St.get, W, winB, q1, q2, ↓reduceIte]))
  simp +decide only [TF, q2, ↓reduceIte]
  apply z; clear z
  apply WP.ret
  exact Ends.P rfl (Le.of_eq (by simp +decide only [St.get, W, winB, q1, q2, ↓reduceIte]))
 simp +decide only [TF, q1, ↓reduceIte]
 apply z; clear z
 apply WP.ret
 exact Ends.P rfl (Le.of_eq (by simp +decide only [St.get, W, winB, q1, ↓reduceIte]))
theorem c_m_limited (n : Int) : CallP Pr 71 [.int .i64 n] (.int .i64 (limB n)) := by
 refine CallP.W Tryz.func71 Tryz.ntmps71 ?_
 simp only [frameOf]
 iterate 2 (refine WP.S [0, 2] fun _ z => ?_; simp +decide only [TF, ↓reduceIte]; apply z; clear z)
 apply WP.ret
 exact Ends.P rfl (Le.of_eq (by first | (simp +decide only [St.get, W, limB, ↓reduceIte]; done) | (simp [St.get, W, limB]; done) | (simp_all [St.get, W, limB]; done) | (simp_all [St.get, W, limB]; intros; first | omega | (rw [Bool.eq_iff_iff]; simp; try omega); done)))
theorem c_m_address (s : List UInt8) (hs : s.length ≤ 140737488355328) : CallP Pr 41 [.str s] (.bool (addrB s)) := by
 refine CallP.W Tryz.func41 Tryz.ntmps41 ?_
 simp only [frameOf]
 refine WP.S [0, 2] fun _ z => ?_; simp +decide only [TF, ↓reduceIte]; apply z; clear z
 refine WP.S [0, 2] fun _ z => ?_
 simp +decide only [TF, ↓reduceIte]
 refine CallK.P (c_clean _ (by assumption)) rfl rfl ?_
 refine runOps.take 1 fun J hJ => ?_
 simp +decide only [TF, ↓reduceIte]
 refine hJ _ _ ?_; clear hJ J
 refine runOps.part 5 rfl (fun q1 => ?_) (fun q1 => ?_)
 ·simp +decide only [TF, q1, ↓reduceIte]
  refine CallK.P (lib_hasPrefix _ _) rfl rfl ?_
  simp +decide only [TF, ↓reduceIte]
  apply z; clear z
  apply WP.ret
  exact Ends.P rfl (Le.of_eq (by simp +decide only [St.get, W, addrB, httpsL, Lib.hasPrefix, q1, ↓reduceIte]))
 simp +decide only [TF, q1, ↓reduceIte]
 apply z; clear z
 apply WP.ret
 exact Ends.P rfl (Le.of_eq (by simp +decide only [St.get, W, addrB, httpsL, q1, ↓reduceIte]))
theorem c_r_address43 (s : List UInt8) (hs : s.length ≤ 140737488355328) : CallP Pr 45 [.str s] (.bool (addrB s)) := by
 refine CallP.W Tryz.func45 Tryz.ntmps45 ?_
 simp only [frameOf]
 refine WP.S [0, 2] fun _ z => ?_; simp +decide only [TF, ↓reduceIte]; apply z; clear z
 refine WP.S [0, 2] fun _ z => ?_
 simp +decide only [TF, ↓reduceIte]
 refine CallK.P (c_r_clean _ (by assumption)) rfl rfl ?_
 refine runOps.take 1 fun J hJ => ?_
 simp +decide only [TF, ↓reduceIte]
 refine hJ _ _ ?_; clear hJ J
 refine runOps.part 5 rfl (fun q1 => ?_) (fun q1 => ?_)
 ·refine runOps.take 5 fun J hJ => ?_
  simp +decide only [TF, q1, ↓reduceIte]
  refine hJ _ _ ?_; clear hJ J
  refine runOps.part 10 rfl (fun q2 => ?_) (fun q2 => ?_)
  ·have hl8 : 8 ≤ s.length := by have := of_decide_eq_true q2; omega
   simp +decide only [TF, q2, hl8, ↓reduceIte]
   apply z; clear z
   apply WP.ret
   exact Ends.P rfl (Le.of_eq (by simp +decide only [St.get, W, addr_r, q1, q2, ↓reduceIte]))
  simp +decide only [TF, q2, ↓reduceIte]
  apply z; clear z
  apply WP.ret
  exact Ends.P rfl (Le.of_eq (by simp +decide only [St.get, W, addr_r, q1, q2, ↓reduceIte]))
 simp +decide only [TF, q1, ↓reduceIte]
 apply z; clear z
 apply WP.ret
 exact Ends.P rfl (Le.of_eq (by simp +decide only [St.get, W, addr_r, q1, ↓reduceIte]))
abbrev s_m_check : List Nat := [1, 2, 3, 8, 13, 18]
theorem c_m_check (p : Par) (hp : p.ok) : CallP Pr 13 [.agg [.str p.id, .str p.addr, .slice 6 p.nk (p.keys.map Key.cs) none, .int .i64 p.f, .int .i64 p.u]] (.int .i64 (checkP p)) := by
 have h1 : p.id.length ≤ 140737488355328 := by have := hp.1; omega
 have h2 : p.addr.length ≤ 140737488355328 := by have := hp.2.1; omega
 refine CallP.W Tryz.func13 Tryz.ntmps13 ?_
 simp only [frameOf]
 iterate 3 first | (refine WP.S s_m_check fun _ z => ?_; simp +decide only [TF, ↓reduceIte]; apply z; clear z) | apply WP.block | apply WP.seq
 refine WP.S s_m_check fun _ z => ?_
 simp +decide only [TF, ↓reduceIte]
 refine CallK.P (c_word _ h1) rfl rfl ?_
 simp +decide only [TF, ↓reduceIte]
 apply z; clear z
 refine WP.cond rfl (fun q1 => ?_) (fun q1 => ?_)
 ·refine WP.S s_m_check fun _ z => ?_; simp +decide only [TF, q1, ↓reduceIte]; apply z; clear z
  apply WP.ret
  exact Ends.P rfl (Le.of_eq (by simp_all [St.get, W, checkP]))
 refine WP.S s_m_check fun _ z => ?_
 simp +decide only [TF, q1, ↓reduceIte]
 refine CallK.P (c_m_address _ h2) rfl rfl ?_
 simp +decide only [TF, ↓reduceIte]
 apply z; clear z
 refine WP.cond rfl (fun q2 => ?_) (fun q2 => ?_)
 ·refine WP.S s_m_check fun _ z => ?_; simp +decide only [TF, q2, ↓reduceIte]; apply z; clear z
  apply WP.ret
  exact Ends.P rfl (Le.of_eq (by simp_all [St.get, W, checkP]))
 refine WP.S s_m_check fun _ z => ?_
 simp +decide only [TF, q2, ↓reduceIte]
 refine CallK.P (c_m_window _ _) rfl rfl ?_
 simp +decide only [TF, ↓reduceIte]
 apply z; clear z
 refine WP.cond rfl (fun q3 => ?_) (fun q3 => ?_)
 ·refine WP.S s_m_check fun _ z => ?_; simp +decide only [TF, q3, ↓reduceIte]; apply z; clear z
  apply WP.ret
  exact Ends.P rfl (Le.of_eq (by simp_all [St.get, W, checkP]))
 refine WP.S s_m_check fun _ z => ?_; simp +decide only [TF, q3, ↓reduceIte]; apply z; clear z
 refine WP.cond rfl (fun q4 => ?_) (fun q4 => ?_)
 ·have hz : p.keys.isEmpty = true := by simpa using q4
  refine WP.S s_m_check fun _ z => ?_; simp +decide only [TF, q4, ↓reduceIte]; apply z; clear z
  apply WP.ret
  exact Ends.P rfl (Le.of_eq (by simp_all [St.get, W, checkP]))
 have hz : p.keys.isEmpty = false := by simpa using q4
 apply WP.skip; show WP ..
 refine WP.S s_m_check fun _ z => ?_
 simp +decide only [TF, q4, ↓reduceIte]
 refine CallK.P (c_k_check p.keys p.nk hp.2.2.1 hp.2.2.2.1 hp.2.2.2.2) rfl rfl ?_
 simp +decide only [TF, ↓reduceIte]
 apply z; clear z
 apply WP.ret
 exact Ends.P rfl (Le.of_eq (by simp_all [St.get, W, checkP]))
abbrev s_r_check43 : List Nat := [1, 2, 6, 10, 14, 18]
theorem c_r_check43 (p : Par) (hp : p.ok) : CallP Pr 14 [.agg [.str p.id, .str p.addr, .slice 6 p.nk (p.keys.map Key.cs) none, .int .i64 p.f, .int .i64 p.u]] (.int .i64 (checkP p)) := by
 have h1 : p.id.length ≤ 140737488355328 := by have := hp.1; omega
 have h2 : p.addr.length ≤ 140737488355328 := by have := hp.2.1; omega
 refine CallP.W Tryz.func14 Tryz.ntmps14 ?_
 simp only [frameOf]
 iterate 2 first | (refine WP.S s_r_check43 fun _ z => ?_; simp +decide only [TF, ↓reduceIte]; apply z; clear z) | apply WP.seq
 refine WP.S s_r_check43 fun _ z => ?_
 simp +decide only [TF, ↓reduceIte]
 refine CallK.P (c_r_word _ h1) rfl rfl ?_
 simp +decide only [TF, ↓reduceIte]
 apply z; clear z
 refine WP.cond rfl (fun q1 => ?_) (fun q1 => ?_)
 ·simp only [Bool.not_eq_true'] at q1
  refine WP.S s_r_check43 fun _ z => ?_; simp +decide only [TF, q1, ↓reduceIte]; apply z; clear z
  apply WP.ret
  exact Ends.P rfl (Le.of_eq (by simp +decide only [St.get, W, checkP, q1, ↓reduceIte]))
 simp only [Bool.not_eq_false'] at q1
 iterate 2 first | (apply WP.skip; show WP ..) | apply WP.seq
 refine WP.S s_r_check43 fun _ z => ?_
 simp +decide only [TF, q1, ↓reduceIte]
 refine CallK.P (c_r_address43 _ h2) rfl rfl ?_
 simp +decide only [TF, ↓reduceIte]
 apply z; clear z
 refine WP.cond rfl (fun q2 => ?_) (fun q2 => ?_)
 ·simp only [Bool.not_eq_true'] at q2
  refine WP.S s_r_check43 fun _ z => ?_; simp +decide only [TF, q2, ↓reduceIte]; apply z; clear z
  apply WP.ret
  exact Ends.P rfl (Le.of_eq (by simp +decide only [St.get, W, checkP, q1, q2, ↓reduceIte]))
 simp only [Bool.not_eq_false'] at q2
 iterate 2 first | (apply WP.skip; show WP ..) | apply WP.seq
 refine WP.S s_r_check43 fun _ z => ?_
 simp +decide only [TF, q2, ↓reduceIte]
 refine CallK.P (c_r_window _ _) rfl rfl ?_
 simp +decide only [TF, ↓reduceIte]
 apply z; clear z
 refine WP.cond rfl (fun q3 => ?_) (fun q3 => ?_)
 ·simp only [Bool.not_eq_true'] at q3
  refine WP.S s_r_check43 fun _ z => ?_; simp +decide only [TF, q3, ↓reduceIte]; apply z; clear z
  apply WP.ret
  exact Ends.P rfl (Le.of_eq (by simp +decide only [St.get, W, checkP, q1, q2, q3, ↓reduceIte]))
 simp only [Bool.not_eq_false'] at q3
 iterate 3 first | (refine WP.S s_r_check43 fun _ z => ?_; simp +decide only [TF, q3, ↓reduceIte]; apply z; clear z) | (apply WP.skip; show WP ..) | apply WP.seq
 refine WP.cond rfl (fun q4 => ?_) (fun q4 => ?_)
 ·have hz : p.keys.isEmpty = true := by simpa using q4
  refine WP.S s_r_check43 fun _ z => ?_; simp +decide only [TF, q4, ↓reduceIte]; apply z; clear z
  apply WP.ret
  exact Ends.P rfl (Le.of_eq (by simp +decide only [St.get, W, checkP, q1, q2, q3, hz, ↓reduceIte]))
 have hz : p.keys.isEmpty = false := by simpa using q4
 apply WP.skip; show WP ..
 refine WP.S s_r_check43 fun _ z => ?_
 simp +decide only [TF, q4, ↓reduceIte]
 refine CallK.P (c_r_check p.keys p.nk hp.2.2.1 hp.2.2.2.1 hp.2.2.2.2) rfl rfl ?_
 simp +decide only [TF, ↓reduceIte]
 apply z; clear z
 apply WP.ret
 exact Ends.P rfl (Le.of_eq (by simp +decide only [St.get, W, checkP, q1, q2, q3, hz, ↓reduceIte]))
def xorU (a b : Int) : Int := IntKind.u64.wrap (BitVec.ofInt IntKind.u64.bits a ^^^ BitVec.ofInt IntKind.u64.bits b).toNat
def stepU (h : Int) (c : UInt8) : Int := IntKind.u64.wrap (xorU h (IntKind.u64.wrap c.toNat) * 1099511628211)
theorem xorU_eq (a b : Int) : IntKind.u64.wrap ((BitVec.ofInt IntKind.u64.bits a ^^^ BitVec.ofInt IntKind.u64.bits b).toNat : Int) = xorU a b := rfl
def h0U : Int := 14695981039346656037
def foldU (s : List UInt8) : Int := s.foldl stepU h0U
theorem foldU_next (s : List UInt8) (k : Nat) (h : k < s.length) : foldU (s.take (k + 1)) = stepU (foldU (s.take k)) s[k] := by
 rw [takeS h, foldU, List.foldl_append]; rfl
def shrU (a : Int) : Int := a.fdiv (2 ^ min 33 IntKind.u64.bits)
theorem shrU_eq (a : Int) : a.fdiv (2 ^ min 33 IntKind.u64.bits) = shrU a := rfl
def mixU (h : Int) : Int :=
 xorU (IntKind.u64.wrap (xorU (IntKind.u64.wrap (xorU h (shrU h) * 18397679294719823053)) (shrU (IntKind.u64.wrap (xorU h (shrU h) * 18397679294719823053))) * 14181476777654086739))
  (shrU (IntKind.u64.wrap (xorU (IntKind.u64.wrap (xorU h (shrU h) * 18397679294719823053)) (shrU (IntKind.u64.wrap (xorU h (shrU h) * 18397679294719823053))) * 14181476777654086739)))
def sumU (s : List UInt8) : Int := mixU (foldU s)
theorem wrap_u64 (n : Int) : 0 ≤ IntKind.u64.wrap n ∧ IntKind.u64.wrap n < 18446744073709551616 := by
 have : IntKind.u64.wrap n = n % 18446744073709551616 := by rfl
 rw [this]
 exact ⟨Int.emod_nonneg _ (by decide), Int.emod_lt_of_pos _ (by decide)⟩
theorem wrap_u64_id {n : Int} (h0 : 0 ≤ n) (h1 : n < 18446744073709551616) : IntKind.u64.wrap n = n := by
 have : IntKind.u64.wrap n = n % 18446744073709551616 := by rfl
 rw [this]
 exact Int.emod_eq_of_lt h0 h1
theorem sumU_rng (s : List UInt8) : 0 ≤ sumU s ∧ sumU s < 18446744073709551616 := wrap_u64 _
abbrev s_m_lines : List Nat := [1, 2, 3, 5, 6, 30, 31, 32, 33]
theorem c_m_lines (p : Par) (hp : p.ok) (hc : checkP p = 0) : CallP Pr 48 [.agg [.str p.id, .str p.addr, .slice 6 p.nk (p.keys.map Key.cs) none, .int .i64 p.f, .int .i64 p.u]] (.str (linesP p)) := by
 obtain ⟨g1, g2, g3, g4, g5⟩ := (checkP_iff p).1 hc
 obtain ⟨w1, w2, w3⟩ := (winB_iff _ _).1 g3
 have i0 := word_64 g1
 have ac := clean_256 (addr_clean g2)
 have ae := escB_len p.addr
 have i1 := itoa_20 (n := p.f) ⟨w1, by omega⟩
 have i2 := itoa_20 (n := p.u) ⟨by omega, w3⟩
 refine CallP.W Tryz.func48 Tryz.ntmps48 ?_
 simp only [frameOf]
 refine WP.S s_m_lines fun _ z => ?_; simp +decide only [TF, ↓reduceIte]; apply z; clear z
 refine WP.D s_m_lines fun _ z => ?_
 simp +decide only [TF, ↓reduceIte]
 refine ⟨by (try simp only [List.length_append, List.length_cons, List.length_nil]); omega, by (try simp only [List.length_append, List.length_cons, List.length_nil]); omega, ?_⟩
 refine CallK.P (c_escape _ (by omega)) rfl rfl ?_
 simp +decide only [TF, ↓reduceIte]
 refine ⟨by (try simp only [List.length_append, List.length_cons, List.length_nil]); omega, by (try simp only [List.length_append, List.length_cons, List.length_nil]); omega, ?_⟩
 refine CallK.P (c_int _ (by omega) (by omega)) rfl rfl ?_
 simp +decide only [TF, ↓reduceIte]
 refine ⟨by (try simp only [List.length_append, List.length_cons, List.length_nil]); omega, by (try simp only [List.length_append, List.length_cons, List.length_nil]); omega, ?_⟩
 refine CallK.P (c_int _ (by omega) (by omega)) rfl rfl ?_
 simp +decide only [TF, ↓reduceIte]
 refine ⟨by (try simp only [List.length_append, List.length_cons, List.length_nil]); omega, by (try simp only [List.length_append, List.length_cons, List.length_nil]); omega, ?_⟩
 refine z _ _ (by kernel_rfl) ?_; clear z
 apply WP.seq
 refine WP.S [3, 30, 31, 32] fun _ z => ?_; simp +decide only [TF, ↓reduceIte]; apply z; clear z
 apply WP.block
 refine WP.lp [30, 31] (X := {k : Nat // k ≤ p.keys.length}) (fun x => match x with | ⟨(k), _⟩ => [(3, .str (linesT p k)), (32, .int .i64 k)]) (fun x => match x with | ⟨(k), _⟩ => []) (fun x => match x with | ⟨(k), _⟩ => p.keys.length - k) (by simp +decide only [W, ↓reduceIte]; rfl) ?_ ⟨(0), Nat.zero_le _⟩ ?_
 rotate_left
 ·exact Weak.nil (by simp [St.get, lk, W, Le.refl, linesT_0, headP, W]) (by simp [W])
 rintro ⟨k, hk⟩
 dsimp only
 simp only [List.cons_append, List.nil_append]
 iterate 2 first | (refine WP.S s_m_lines fun _ z => ?_; simp +decide only [TF, ↓reduceIte]; apply z; clear z) | apply WP.seq
 refine WP.cond rfl (fun q1 => ?_) (fun q1 => ?_)
 ·have hlt := lt_of_q q1
  have hg : (p.keys.map Key.cs)[k]? = some [.str p.keys[k].id, .str p.keys[k].sec, .int .i64 p.keys[k].sf, .int .i64 p.keys[k].su, .int .i64 p.keys[k].af, .int .i64 p.keys[k].au] := getM hlt
  have hnf := nl_false hp.2.2.2.1 hlt
  have hkk := hp.2.2.2.2 _ (List.getElem_mem hlt)
  have hkg := key_good hc hlt
  have hlb := good_line hkg
  have htb := linesT_len hc k
  have htn := linesT_next p k hlt
  have ht1 := textK_one hkg
  iterate 4 first | (refine WP.S s_m_lines fun _ z => ?_; simp +decide only [TF, q1, hg, hnf, ↓reduceIte]; apply z; clear z) | (apply WP.skip; show WP ..) | apply WP.block | apply WP.seq
  refine WP.S s_m_lines fun _ z => ?_
  simp +decide only [TF, ↓reduceIte]
  refine CallK.pure (c_text [p.keys[k]] false (by simp) (by simp) (by simpa using hkk)) rfl rfl (by simp [Key.cs]) ?_
  simp +decide only [TF, ht1, ↓reduceIte]
  apply z; clear z
  refine WP.R fun _ z => ?_
  simp +decide only [TF, ↓reduceIte]
  refine ⟨by (try simp only [List.length_append, List.length_cons, List.length_nil]); omega, by (try simp only [List.length_append, List.length_cons, List.length_nil]); omega, ?_⟩
  apply z; clear z
  show WP ..
  refine WP.R fun _ z => ?_; simp +decide only [TF, ↓reduceIte]; apply z; clear z
  show ∃ y, _ ∧ Weak _ _ _
  refine ⟨⟨k + 1, ?_⟩, ?_, ?_⟩
  ·omega
  ·dsimp only; omega
  exact Weak.nil (by simp [St.get, lk, Le.refl, hnf, htn, wrapS hlt (show p.keys.length ≤ 140737488355328 by have := hp.2.2.1; omega)]) (by simp [W])
 have hge := ge_of_q q1
 have hte : linesT p k = linesP p := linesT_end hge
 iterate 2 first | (refine WP.S s_m_lines fun _ z => ?_; simp +decide only [TF, q1, ↓reduceIte]; apply z; clear z) | (apply WP.exit; show WP ..)
 apply WP.ret
 exact Ends.P rfl (Le.of_eq (by simp +decide only [St.get, W, hte, ↓reduceIte]))
abbrev s_m_text : List Nat := [1, 2, 3, 4, 5, 9, 15]
theorem c_m_text (p : Par) (hp : p.ok) : CallP Pr 15 [.agg [.str p.id, .str p.addr, .slice 6 p.nk (p.keys.map Key.cs) none, .int .i64 p.f, .int .i64 p.u]] (.tup [.str (textP p).1, .int .i64 (textP p).2]) := by
 refine CallP.W Tryz.func15 Tryz.ntmps15 ?_
 simp only [frameOf]
 iterate 2 first | (refine WP.S s_m_text fun _ z => ?_; simp +decide only [TF, ↓reduceIte]; apply z; clear z) | apply WP.seq
 refine WP.S s_m_text fun _ z => ?_
 simp +decide only [TF, ↓reduceIte]
 refine CallK.P (c_m_check p hp) rfl rfl ?_
 simp +decide only [TF, ↓reduceIte]
 apply z; clear z
 refine WP.S s_m_text fun _ z => ?_; simp +decide only [TF, ↓reduceIte]; apply z; clear z
 refine WP.cond rfl (fun q1 => ?_) (fun q1 => ?_)
 ·have hz := q1
  have hR : textP p = ([], checkP p) := by simp only [textP, hz, if_true]
  refine WP.S s_m_text fun _ z => ?_; simp +decide only [TF, q1, ↓reduceIte]; apply z; clear z
  apply WP.ret
  exact Ends.P (d := .tup [_, _]) rfl ((by rw [hR]; simp +decide only [St.get, lk, W, ↓reduceIte]; exact Le.refl _))
 have h0 := q1
 have hc : checkP p = 0 := by simpa using h0
 apply WP.skip; show WP ..
 refine WP.S s_m_text fun _ z => ?_
 simp +decide only [TF, q1, ↓reduceIte]
 refine CallK.P (c_m_lines p hp hc) rfl rfl ?_
 simp +decide only [TF, ↓reduceIte]
 apply z; clear z
 iterate 2 first | (refine WP.S s_m_text fun _ z => ?_; simp +decide only [TF, ↓reduceIte]; apply z; clear z) | apply WP.seq
 refine WP.cond rfl (fun q2 => ?_) (fun q2 => ?_)
 ·have hz := q2
  have hR : textP p = ([], 3) := by simp only [textP, h0, hz, Bool.false_eq_true, if_false, if_true]
  refine WP.S s_m_text fun _ z => ?_; simp +decide only [TF, q2, ↓reduceIte]; apply z; clear z
  apply WP.ret
  exact Ends.P (d := .tup [_, _]) rfl ((by rw [hR]; simp +decide only [St.get, lk, W, ↓reduceIte]; exact Le.refl _))
 have hz := q2
 have hR : textP p = (linesP p, 0) := by simp only [textP, h0, hz, Bool.false_eq_true, if_false]
 iterate 2 first | (refine WP.S s_m_text fun _ z => ?_; simp +decide only [TF, q2, ↓reduceIte]; apply z; clear z) | (apply WP.skip; show WP ..)
 apply WP.ret
 exact Ends.P (d := .tup [_, _]) rfl ((by rw [hR]; simp +decide only [St.get, lk, W, ↓reduceIte]; exact Le.refl _))
abbrev s_r_text43 : List Nat := [1, 2, 3, 4, 5, 6, 10, 39, 54]
theorem c_r_text43 (p : Par) (hp : p.ok) : CallP Pr 16 [.agg [.str p.id, .str p.addr, .slice 6 p.nk (p.keys.map Key.cs) none, .int .i64 p.f, .int .i64 p.u]] (.tup [.str (textP p).1, .int .i64 (textP p).2]) := by
 refine CallP.W Tryz.func16 Tryz.ntmps16 ?_
 simp only [frameOf]
 refine WP.S s_r_text43 fun _ z => ?_; simp +decide only [TF, ↓reduceIte]; apply z; clear z
 refine WP.S s_r_text43 fun _ z => ?_
 simp +decide only [TF, ↓reduceIte]
 refine CallK.P (c_r_check43 p hp) rfl rfl ?_
 simp +decide only [TF, ↓reduceIte]
 apply z; clear z
 iterate 2 first | (refine WP.S s_r_text43 fun _ z => ?_; simp +decide only [TF, ↓reduceIte]; apply z; clear z) | apply WP.seq
 refine WP.cond rfl (fun q1 => ?_) (fun q1 => ?_)
 ·have hz := q1
  have hR : textP p = ([], checkP p) := by simp only [textP, hz, if_true]
  refine WP.S s_r_text43 fun _ z => ?_; simp +decide only [TF, q1, ↓reduceIte]; apply z; clear z
  apply WP.ret
  exact Ends.P (d := .tup [_, _]) rfl ((by rw [hR]; simp +decide only [St.get, lk, W, ↓reduceIte]; exact Le.refl _))
 have h0 := q1
 have hc : checkP p = 0 := by simpa using h0
 obtain ⟨g1, g2, g3, g4, g5⟩ := (checkP_iff p).1 hc
 obtain ⟨w1, w2, w3⟩ := (winB_iff _ _).1 g3
 have i0 := word_64 g1
 have ac := clean_256 (addr_clean g2)
 have ae := escB_len p.addr
 have i1 := itoa_20 (n := p.f) ⟨w1, by omega⟩
 have i2 := itoa_20 (n := p.u) ⟨by omega, w3⟩
 apply WP.skip; show WP ..
 refine WP.D s_r_text43 fun _ z => ?_
 simp +decide only [TF, q1, ↓reduceIte]
 refine ⟨by (try simp only [List.length_append, List.length_cons, List.length_nil]); omega, by (try simp only [List.length_append, List.length_cons, List.length_nil]); omega, by (try simp only [List.length_append, List.length_cons, List.length_nil]); omega, ?_⟩
 refine CallK.P (c_r_escape _ (by omega)) rfl rfl ?_
 simp +decide only [TF, ↓reduceIte]
 refine ⟨by (try simp only [List.length_append, List.length_cons, List.length_nil]); omega, by (try simp only [List.length_append, List.length_cons, List.length_nil]); omega, by (try simp only [List.length_append, List.length_cons, List.length_nil]); omega, ?_⟩
 refine CallK.P (c_r_int _ (by omega) (by omega)) rfl rfl ?_
 simp +decide only [TF, ↓reduceIte]
 refine ⟨by (try simp only [List.length_append, List.length_cons, List.length_nil]); omega, by (try simp only [List.length_append, List.length_cons, List.length_nil]); omega, ?_⟩
 refine CallK.P (c_r_int _ (by omega) (by omega)) rfl rfl ?_
 simp +decide only [TF, ↓reduceIte]
 refine ⟨by (try simp only [List.length_append, List.length_cons, List.length_nil]); omega, by (try simp only [List.length_append, List.length_cons, List.length_nil]); omega, ?_⟩
 refine z _ _ (by kernel_rfl) ?_; clear z
 apply WP.seq
 refine WP.S [1, 5, 6] fun _ z => ?_; simp +decide only [TF, ↓reduceIte]; apply z; clear z
 apply WP.block
 refine WP.lp [1] (X := {k : Nat // k ≤ p.keys.length}) (fun x => match x with | ⟨(k), _⟩ => [(5, .str (linesT p k)), (6, .int .i64 k)]) (fun x => match x with | ⟨(k), _⟩ => [(0, .box 26 [.str p.id, .str p.addr, .slice 6 p.nk (p.keys.map Key.cs) none, .int .i64 p.f, .int .i64 p.u])]) (fun x => match x with | ⟨(k), _⟩ => p.keys.length - k) (by simp +decide only [W, ↓reduceIte]; rfl) ?_ ⟨(0), Nat.zero_le _⟩ ?_
 rotate_left
 ·exact Weak.store (by simp [St.get, lk, W, Le.refl, linesT_0, headP]) (by simp [lk]) (by simp [lk]) (by simp [BClo, lk]) (by simp [lk])
 rintro ⟨k, hk⟩
 dsimp only
 simp only [List.cons_append, List.nil_append]
 iterate 2 first | (refine WP.S s_r_text43 fun _ z => ?_; simp +decide only [TF, ↓reduceIte]; apply z; clear z) | apply WP.seq
 refine WP.cond rfl (fun q2 => ?_) (fun q2 => ?_)
 ·have hlt := lt_of_q q2
  have hg : (p.keys.map Key.cs)[k]? = some [.str p.keys[k].id, .str p.keys[k].sec, .int .i64 p.keys[k].sf, .int .i64 p.keys[k].su, .int .i64 p.keys[k].af, .int .i64 p.keys[k].au] := getM hlt
  have hnf := nl_false hp.2.2.2.1 hlt
  have hkk := hp.2.2.2.2 _ (List.getElem_mem hlt)
  have hkg := key_good hc hlt
  have hlb := good_line hkg
  have htb := linesT_len hc k
  have htn := linesT_next p k hlt
  have ht1 := textK_one hkg
  iterate 3 first | (apply WP.skip; show WP ..) | apply WP.block | apply WP.seq
  refine WP.R fun _ z => ?_
  simp +decide only [TF, q2, hg, hnf, ↓reduceIte]
  refine ⟨by (try simp only [List.length_append, List.length_cons, List.length_nil]); omega, ?_⟩
  refine CallK.P (c_r_line p.keys[k] hkk hkg.2.2) rfl rfl ?_
  simp +decide only [TF, ↓reduceIte]
  refine ⟨by (try simp only [List.length_append, List.length_cons, List.length_nil]); omega, by (try simp only [List.length_append, List.length_cons, List.length_nil]); omega, ?_⟩
  apply z; clear z
  show WP ..
  refine WP.R fun _ z => ?_; simp +decide only [TF, ↓reduceIte]; apply z; clear z
  show ∃ y, _ ∧ Weak _ _ _
  refine ⟨⟨k + 1, ?_⟩, ?_, ?_⟩
  ·omega
  ·dsimp only; omega
  exact Weak.store (by simp [St.get, lk, Le.refl, htn, wrapS hlt (show p.keys.length ≤ 140737488355328 by have := hp.2.2.1; omega)]) (by simp [lk, hnf]) (by simp [lk]) (by simp [BClo, lk]) (by simp [lk])
 have hge := ge_of_q q2
 have hte : linesT p k = linesP p := linesT_end hge
 iterate 3 first | (refine WP.S s_r_text43 fun _ z => ?_; simp +decide only [TF, q2, ↓reduceIte]; apply z; clear z) | (apply WP.exit; show WP ..) | apply WP.seq
 refine WP.cond rfl (fun q3 => ?_) (fun q3 => ?_)
 ·have hz := q3
  rw [hte] at hz
  have hR : textP p = ([], 3) := by simp only [textP, h0, hz, Bool.false_eq_true, if_false, if_true]
  refine WP.S s_r_text43 fun _ z => ?_; simp +decide only [TF, hte, ↓reduceIte]; apply z; clear z
  apply WP.ret
  exact Ends.P (d := .tup [_, _]) rfl ((by rw [hR]; simp +decide only [St.get, lk, W, ↓reduceIte]; exact Le.refl _))
 have hz := q3
 rw [hte] at hz
 have hR : textP p = (linesP p, 0) := by simp only [textP, h0, hz, Bool.false_eq_true, if_false]
 iterate 2 first | (refine WP.S s_r_text43 fun _ z => ?_; simp +decide only [TF, hte, ↓reduceIte]; apply z; clear z) | (apply WP.skip; show WP ..)
 apply WP.ret
 exact Ends.P (d := .tup [_, _]) rfl ((by rw [hR]; simp +decide only [St.get, lk, W, ↓reduceIte]; exact Le.refl _))
def digB (i : Nat) : UInt8 := UInt8.ofNat (if i < 10 then 48 + i else 87 + i)
def hdN (n : Int) (i : Nat) : Nat := ((n / 16 ^ i) % 16).toNat
def hexR (n : Int) : Nat → List UInt8
 | 0 => []
 | k + 1 => digB (hdN n k) :: hexR n k
def hex16 (n : Int) : List UInt8 := hexR n 16
theorem hexR_len (n : Int) : ∀ k, (hexR n k).length = k
 | 0 => rfl
 | k + 1 => by simp [hexR, hexR_len n k]
theorem hdN_lt (n : Int) (i : Nat) : hdN n i < 16 := by unfold hdN; omega
theorem hdN_int (n : Int) (i : Nat) : ((hdN n i : Nat) : Int) = (n / 16 ^ i) % 16 := by unfold hdN; omega
def cellsH (n : Int) (k : Nat) : List D := List.replicate (16 - k) (.int .u8 0) ++ (hexR n k).map fun c => .int .u8 c.toNat
theorem cellsH_len (n : Int) {k : Nat} (h : k ≤ 16) : (cellsH n k).length = 16 := by simp [cellsH, hexR_len]; omega
theorem cellsH_put (n : Int) {k : Nat} (h : k < 16) : (cellsH n k).take (15 - k) ++ D.int .u8 (digB (hdN n k)).toNat :: (cellsH n k).drop (15 - k + 1) = cellsH n (k + 1) := by
 have e : 16 - k = (15 - k) + 1 := by omega
 have eA : cellsH n k = List.replicate (15 - k) (D.int .u8 0) ++ (D.int .u8 0 :: (hexR n k).map fun c => .int .u8 c.toNat) := by
  rw [cellsH, e, List.replicate_succ']; simp
 have eB : cellsH n (k + 1) = List.replicate (15 - k) (D.int .u8 0) ++ (D.int .u8 (digB (hdN n k)).toNat :: (hexR n k).map fun c => .int .u8 c.toNat) := by
  rw [cellsH, show 16 - (k + 1) = 15 - k by omega]; rfl
 rw [eA, eB, List.take_left' (by simp), List.drop_append, List.drop_eq_nil_of_le (by simp)]
 simp
theorem cellsH_end (n : Int) : cellsH n 16 = (hex16 n).map fun c => .int .u8 c.toNat := by simp [cellsH, hex16]
@[simp] theorem clo_cellsH {S : Nat → Prop} (n : Int) (k : Nat) : (∀ d ∈ cellsH n k, Clo S d) ↔ True := by
 simp only [iff_true, cellsH, List.mem_append, List.mem_map, List.mem_replicate]
 rintro d (⟨_, rfl⟩ | ⟨x, _, rfl⟩) <;> simp
theorem dig_all : ∀ i, i < 16 → digL[i]? = some ((digB i).toNat : Int) := by decide
theorem dig_head {i : Nat} (h : i < 16) : (digC.drop i).head? = some (.int .u8 (digB i).toNat) := by
 rw [List.head?_drop, digC, List.getElem?_map, dig_all i h]; rfl
theorem u64_bits : IntKind.u64.bits = 64 := rfl
theorem ofInt_toNat {a : Int} (h0 : 0 ≤ a) (h1 : a < 18446744073709551616) : (BitVec.ofInt IntKind.u64.bits a).toNat = a.toNat := by
 rw [BitVec.toNat_ofInt, u64_bits]
 congr 1
 exact Int.emod_eq_of_lt h0 h1
theorem and15U {a : Int} (h0 : 0 ≤ a) (h1 : a < 18446744073709551616) : IntKind.u64.wrap ((BitVec.ofInt IntKind.u64.bits a &&& BitVec.ofInt IntKind.u64.bits 15).toNat : Int) = a % 16 := by
 have e : (BitVec.ofInt IntKind.u64.bits a &&& BitVec.ofInt IntKind.u64.bits 15).toNat = a.toNat % 16 := by
  rw [BitVec.toNat_and, ofInt_toNat h0 h1, ofInt_toNat (by decide) (by decide)]
  exact Nat.and_two_pow_sub_one_eq_mod a.toNat 4
 rw [e, wrap_u64_id (by omega) (by omega)]
 omega
theorem pow16 (k : Nat) : (0 : Int) < 16 ^ k := Int.pow_pos (by decide)
theorem div_rng {n : Int} (h0 : 0 ≤ n) (h1 : n < 18446744073709551616) (k : Nat) : 0 ≤ n / 16 ^ k ∧ n / 16 ^ k < 18446744073709551616 := by
 have := pow16 k
 refine ⟨Int.ediv_nonneg h0 (by omega), Int.lt_of_le_of_lt (Int.ediv_le_self _ h0) h1⟩
theorem shr_hex {n : Int} (h0 : 0 ≤ n) {k : Nat} (hk : k < 16) : n.fdiv (2 ^ (min (4 * k) IntKind.u64.bits)) = n / 16 ^ k := by
 rw [u64_bits, Nat.min_eq_left (by omega), Int.pow_mul, Int.fdiv_eq_ediv_of_nonneg _ (by have := pow16 k; exact Int.le_of_lt this)]
 rfl
theorem dig_and {n : Int} (h0 : 0 ≤ n) (h1 : n < 18446744073709551616) {k : Nat} (hk : k < 16) :
  IntKind.u64.wrap ((BitVec.ofInt IntKind.u64.bits (n.fdiv (2 ^ (min (4 * k) IntKind.u64.bits))) &&& BitVec.ofInt IntKind.u64.bits 15).toNat : Int) = ((hdN n k : Nat) : Int) := by
 rw [shr_hex h0 hk]
 obtain ⟨a, b⟩ := div_rng h0 h1 k
 rw [and15U a b, hdN_int]
theorem hex_rem {n : Int} (h0 : 0 ≤ n) (k : Nat) : (n / 16 ^ k).tmod 16 = ((hdN n k : Nat) : Int) := by
 have := pow16 k
 rw [Int.tmod_eq_emod_of_nonneg (Int.ediv_nonneg h0 (by omega)), hdN_int]
theorem hex_quo {n : Int} (h0 : 0 ≤ n) (h1 : n < 18446744073709551616) (k : Nat) : IntKind.u64.wrap ((n / 16 ^ k).tdiv 16) = n / 16 ^ (k + 1) := by
 have hp := pow16 k
 have e : (n / 16 ^ k).tdiv 16 = n / 16 ^ (k + 1) := by
  rw [Int.tdiv_eq_ediv_of_nonneg (Int.ediv_nonneg h0 (by omega)), Int.pow_succ, Int.ediv_ediv_of_nonneg (by omega)]
 rw [e]
 obtain ⟨a, b⟩ := div_rng h0 h1 (k + 1)
 exact wrap_u64_id a b
def digS : List UInt8 := [48, 49, 50, 51, 52, 53, 54, 55, 56, 57, 97, 98, 99, 100, 101, 102]
theorem dig_slice : ∀ i, i < 16 → (digS.take (i + 1)).drop i = [digB i] := by decide
def hv (c : UInt8) : Int := if 48 ≤ c.toNat ∧ c.toNat ≤ 57 then c.toNat - 48 else if 97 ≤ c.toNat ∧ c.toNat ≤ 102 then c.toNat - 87 else -1
def ixD (c : UInt8) : Nat → Int
 | 0 => -1
 | k + 1 => if digB k = c then (k : Int) else ixD c k
theorem hv_ix_n : ∀ n, n < 256 → hv (UInt8.ofNat n) = ixD (UInt8.ofNat n) 16 := by decide +kernel
theorem hv_ix (c : UInt8) : ixD c 16 = hv c := by
 have := hv_ix_n c.toNat c.toNat_lt
 rw [UInt8.ofNat_toNat] at this
 exact this.symm
theorem hv_rng (c : UInt8) : -1 ≤ hv c ∧ hv c < 16 := by unfold hv; split <;> (try split) <;> omega
theorem hv_dig : ∀ i, i < 16 → hv (digB i) = (i : Int) := by decide
def rhF (n : Int) : List UInt8 → Option Int
 | [] => some n
 | c :: s => if hv c < 0 then none else rhF (IntKind.u64.wrap (n * 16 + hv c)) s
def rdH (s : List UInt8) : Int × Int := if s.length = 16 then (match rhF 0 s with | some n => (n, 0) | none => (0, 4)) else (0, 4)
def rdHD (s : List UInt8) : D := .tup [.int .u64 (rdH s).1, .int .i64 (rdH s).2]
theorem rdH_no {s : List UInt8} (h : s.length ≠ 16) : rdH s = (0, 4) := by unfold rdH; rw [if_neg h]
theorem rdH_none {s : List UInt8} (h : rhF 0 s = none) : rdH s = (0, 4) := by unfold rdH; rw [h]; split <;> rfl
theorem rdH_some {s : List UInt8} {n : Int} (hl : s.length = 16) (h : rhF 0 s = some n) : rdH s = (n, 0) := by unfold rdH; rw [if_pos hl, h]
theorem or_add {n v : Int} (h0 : 0 ≤ v) (h1 : v < 16) : IntKind.u64.wrap ((BitVec.ofInt IntKind.u64.bits (IntKind.u64.wrap (n * 2 ^ (min 4 IntKind.u64.bits))) ||| BitVec.ofInt IntKind.u64.bits (IntKind.u64.wrap v)).toNat : Int) = IntKind.u64.wrap (n * 16 + v) := by
 have hw : ∀ m : Int, IntKind.u64.wrap m = m % 18446744073709551616 := fun m => rfl
 have e16 : n * 2 ^ (min 4 IntKind.u64.bits) = n * 16 := rfl
 rw [e16, wrap_u64_id (n := v) h0 (by omega)]
 obtain ⟨a, b⟩ := wrap_u64 (n * 16)
 have hx : ∃ x : Nat, x < 1152921504606846976 ∧ (IntKind.u64.wrap (n * 16)).toNat = x <<< 4 := by
  refine ⟨(n % 1152921504606846976).toNat, by omega, ?_⟩
  rw [Nat.shiftLeft_eq, hw]
  omega
 obtain ⟨x, hx1, hx2⟩ := hx
 have e : (BitVec.ofInt IntKind.u64.bits (IntKind.u64.wrap (n * 16)) ||| BitVec.ofInt IntKind.u64.bits v).toNat = x <<< 4 + v.toNat := by
  rw [BitVec.toNat_or, ofInt_toNat a b, ofInt_toNat h0 (by omega), hx2]
  exact (Nat.shiftLeft_add_eq_or_of_lt (by omega) x).symm
 rw [e]
 have e2 : ((x <<< 4 + v.toNat : Nat) : Int) = IntKind.u64.wrap (n * 16) + v := by
  rw [← hx2]; omega
 rw [e2, wrap_u64_id (by omega) (by
  have : (IntKind.u64.wrap (n * 16)).toNat = x <<< 4 := hx2
  rw [Nat.shiftLeft_eq] at this
  omega), hw, hw]
 omega
theorem rhF_hex {n : Int} (h0 : 0 ≤ n) (h1 : n < 18446744073709551616) : ∀ k, k ≤ 16 → rhF (n / 16 ^ k) (hexR n k) = some n
 | 0, _ => by simp [hexR, rhF]
 | k + 1, hk => by
  have hd := hv_dig _ (hdN_lt n k)
  rw [hexR, rhF, hd, if_neg (by omega)]
  have e : n / 16 ^ (k + 1) * 16 + ((hdN n k : Nat) : Int) = n / 16 ^ k := by
   rw [hdN_int, Int.pow_succ, ← Int.ediv_ediv_of_nonneg (by have := pow16 k; omega)]
   omega
  rw [e]
  obtain ⟨a, b⟩ := div_rng h0 h1 k
  rw [wrap_u64_id a b]
  exact rhF_hex h0 h1 k (by omega)
theorem rdH_hex {n : Int} (h0 : 0 ≤ n) (h1 : n < 18446744073709551616) : rdH (hex16 n) = (n, 0) := by
 refine rdH_some (hexR_len n 16) ?_
 have := rhF_hex h0 h1 16 (Nat.le_refl _)
 rw [show n / 16 ^ 16 = 0 from Int.ediv_eq_zero_of_lt h0 (by omega)] at this
 exact this
theorem digC_take : digC.take 16 = digC := rfl
theorem digC_get {k : Nat} (h : k < 16) : digC[k]? = some (.int .u8 (digB k).toNat) := by rw [digC, List.getElem?_map, dig_all k h]; rfl
theorem u8_eq (a b : UInt8) : ((a.toNat : Int) == (b.toNat : Int)) = true ↔ a = b := by
 simp only [beq_iff_eq]
 exact ⟨fun e => UInt8.toNat_inj.1 (by omega), fun e => by rw [e]⟩
theorem u8_ne {a b : UInt8} (h : ((a.toNat : Int) == (b.toNat : Int)) = false) : ¬ a = b := fun e => by rw [(u8_eq a b).2 e] at h; cases h
theorem dig_str {k : Nat} (h : k < 16) : List.drop k (List.take (k + 1) [(48 : UInt8), 49, 50, 51, 52, 53, 54, 55, 56, 57, 97, 98, 99, 100, 101, 102]) = [digB k] := dig_slice k h
theorem sub48 {c : UInt8} (h0 : 48 ≤ c.toNat) (h1 : c.toNat ≤ 57) : hv c = c.toNat - 48 ∧ IntKind.u64.wrap (IntKind.u8.wrap ((c.toNat : Int) - 48)) = hv c := by
 have e : hv c = c.toNat - 48 := by unfold hv; rw [if_pos ⟨h0, h1⟩]
 have e8 : IntKind.u8.wrap ((c.toNat : Int) - 48) = ((c.toNat : Int) - 48) % 256 := rfl
 rw [e, e8, Int.emod_eq_of_lt (by omega) (by omega), wrap_u64_id (by omega) (by omega)]
 exact ⟨rfl, rfl⟩
theorem sub97 {c : UInt8} (h0 : 97 ≤ c.toNat) (h1 : c.toNat ≤ 102) : hv c = c.toNat - 87 ∧ IntKind.u64.wrap (IntKind.u64.wrap (IntKind.u8.wrap ((c.toNat : Int) - 97)) + 10) = hv c := by
 have e : hv c = c.toNat - 87 := by unfold hv; rw [if_neg (by omega), if_pos ⟨h0, h1⟩]
 have e8 : IntKind.u8.wrap ((c.toNat : Int) - 97) = ((c.toNat : Int) - 97) % 256 := rfl
 rw [e, e8, Int.emod_eq_of_lt (by omega) (by omega), wrap_u64_id (n := (c.toNat : Int) - 97) (by omega) (by omega), wrap_u64_id (by omega) (by omega)]
 exact ⟨rfl, by omega⟩
theorem wrapU_add (a b : Int) : IntKind.u64.wrap (IntKind.u64.wrap a + b) = IntKind.u64.wrap (a + b) := by
 have hw : ∀ m : Int, IntKind.u64.wrap m = m % 18446744073709551616 := fun m => rfl
 rw [hw, hw, hw, Int.emod_add_emod]
@[simp] theorem clo_digC {S : Nat → Prop} : (∀ d ∈ digC, Clo S d) ↔ True := by
 simp only [iff_true, digC, List.mem_map]
 rintro d ⟨x, _, rfl⟩
 exact .int _ _
@[simp] theorem clo_rdHD {S : Nat → Prop} (s : List UInt8) : Clo S (rdHD s) ↔ True := by simp [rdHD]
abbrev s_sum : List Nat := [0, 2, 3, 4, 6, 7, 8]
theorem c_sum (s : List UInt8) (hs : s.length ≤ 140737488355328) : CallP Pr 107 [.str s] (.int .u64 (sumU s)) := by
 refine CallP.W Tryz.func107 Tryz.ntmps107 ?_
 simp only [frameOf]
 iterate 3 first | (refine WP.S s_sum fun _ z => ?_; simp +decide only [TF, ↓reduceIte]; apply z; clear z) | apply WP.seq
 refine WP.S [0, 3, 6, 7] fun _ z => ?_; simp +decide only [TF, ↓reduceIte]; apply z; clear z
 apply WP.block
 refine WP.lp [0, 6] (X := {k : Nat // k ≤ s.length}) (fun x => match x with | ⟨(k), _⟩ => [(3, .int .u64 (foldU (s.take k))), (7, .int .i64 k)]) (fun x => match x with | ⟨(k), _⟩ => []) (fun x => match x with | ⟨(k), _⟩ => s.length - k) (by simp +decide only [W, ↓reduceIte]; rfl) ?_ ⟨(0), Nat.zero_le _⟩ ?_
 rotate_left
 ·exact Weak.nil (by simp [St.get, lk, W, Le.refl, foldU, h0U, W]) (by simp [W])
 rintro ⟨k, hk⟩
 dsimp only
 simp only [List.cons_append, List.nil_append]
 iterate 2 first | (refine WP.S s_sum fun _ z => ?_; simp +decide only [TF, ↓reduceIte]; apply z; clear z) | apply WP.seq
 refine WP.cond rfl (fun q1 => ?_) (fun q1 => ?_)
 ·have hlt := lt_of_q q1
  have hg : s[k]? = some s[k] := getE hlt
  have hfn := foldU_next s k hlt
  iterate 6 first | (refine WP.S s_sum fun _ z => ?_; simp +decide only [TF, q1, ↓reduceIte]; apply z; clear z) | (refine WP.R fun _ z => ?_; simp +decide only [TF, hg, xorU_eq, ↓reduceIte]; apply z; clear z; show WP ..) | (refine WP.R fun _ z => ?_; simp +decide only [TF, ↓reduceIte]; apply z; clear z) | (apply WP.skip; show WP ..) | apply WP.block | apply WP.seq
  show ∃ y, _ ∧ Weak _ _ _
  refine ⟨⟨k + 1, ?_⟩, ?_, ?_⟩
  ·omega
  ·dsimp only; omega
  exact Weak.nil (by simp [St.get, lk, Le.refl, hfn, stepU, wrapS hlt hs]) (by simp [W])
 have hge := ge_of_q q1
 have hte : s.take k = s := List.take_of_length_le hge
 iterate 6 first | (refine WP.S s_sum fun _ z => ?_; simp +decide only [TF, q1, xorU_eq, shrU_eq, ↓reduceIte]; apply z; clear z) | (apply WP.exit; show WP ..)
 apply WP.ret
 exact Ends.P rfl (Le.of_eq (by simp +decide only [St.get, W, sumU, mixU, hte, ↓reduceIte]))
theorem c_r_sum (s : List UInt8) (hs : s.length ≤ 140737488355328) : CallP Pr 169 [.str s] (.int .u64 (sumU s)) := by
 refine CallP.W Tryz.func169 Tryz.ntmps169 ?_
 simp only [frameOf]
 iterate 3 first | (refine WP.S [0, 2, 3, 4, 8] fun _ z => ?_; simp +decide only [TF, ↓reduceIte]; apply z; clear z) | apply WP.seq
 refine WP.S [0, 3, 4] fun _ z => ?_; simp +decide only [TF, ↓reduceIte]; apply z; clear z
 apply WP.block
 refine WP.lp [0] (X := {k : Nat // k ≤ s.length}) (fun x => match x with | ⟨(k), _⟩ => [(3, .int .u64 (foldU (s.take k))), (4, .int .i64 k)]) (fun x => match x with | ⟨(k), _⟩ => []) (fun x => match x with | ⟨(k), _⟩ => s.length - k) (by simp +decide only [W, ↓reduceIte]; rfl) ?_ ⟨(0), Nat.zero_le _⟩ ?_
 rotate_left
 ·exact Weak.nil (by simp [St.get, lk, W, Le.refl, foldU, h0U, W]) (by simp [W])
 rintro ⟨k, hk⟩
 dsimp only
 simp only [List.cons_append, List.nil_append]
 iterate 2 first | (refine WP.S [0, 2, 3, 4, 8] fun _ z => ?_; simp +decide only [TF, ↓reduceIte]; apply z; clear z) | apply WP.seq
 refine WP.cond rfl (fun q1 => ?_) (fun q1 => ?_)
 ·have hlt := lt_of_q q1
  have hg : s[k]? = some s[k] := getE hlt
  have hfn := foldU_next s k hlt
  iterate 5 first | (refine WP.R fun _ z => ?_; simp +decide only [TF, q1, hg, xorU_eq, ↓reduceIte]; apply z; clear z; show WP ..) | (refine WP.R fun _ z => ?_; simp +decide only [TF, ↓reduceIte]; apply z; clear z) | (apply WP.skip; show WP ..) | apply WP.block | apply WP.seq
  show ∃ y, _ ∧ Weak _ _ _
  refine ⟨⟨k + 1, ?_⟩, ?_, ?_⟩
  ·omega
  ·dsimp only; omega
  exact Weak.nil (by simp [St.get, lk, Le.refl, hfn, stepU, wrapS hlt hs]) (by simp [W])
 have hge := ge_of_q q1
 have hte : s.take k = s := List.take_of_length_le hge
 iterate 6 first | (refine WP.S [0, 2, 3, 4, 8] fun _ z => ?_; simp +decide only [TF, q1, xorU_eq, shrU_eq, ↓reduceIte]; apply z; clear z) | (apply WP.exit; show WP ..)
 apply WP.ret
 exact Ends.P rfl (Le.of_eq (by simp +decide only [St.get, W, sumU, mixU, hte, ↓reduceIte]))
def txtB (s : List UInt8) : List UInt8 := hex16 (sumU s)
theorem txtB_len (s : List UInt8) : (txtB s).length = 16 := hexR_len _ 16
def preM (k : List UInt8) : List UInt8 := Lib.itoa (k.length : Int) ++ [58] ++ k
def macB (k s : List UInt8) : List UInt8 := txtB (preM k ++ txtB (preM k ++ s))
theorem itoa_nat (n : Nat) : Lib.itoa (n : Int) = Lib.decDigits n := by unfold Lib.itoa; rw [if_neg (by omega)]; simp
theorem preM_d (k : List UInt8) : preM k = Lib.decDigits k.length ++ [58] ++ k := by rw [preM, itoa_nat]
theorem preM_len {k : List UInt8} (h : k.length ≤ 1099511627776) : (preM k).length ≤ 1099511627900 := by
 have := itoa_20 (n := (k.length : Int)) ⟨by omega, by omega⟩
 simp only [preM, List.length_append, List.length_cons, List.length_nil]
 omega
theorem dec_slice : ∀ n, n < 10 → List.drop n ((48 : UInt8) :: List.take n [49, 50, 51, 52, 53, 54, 55, 56, 57]) = [UInt8.ofNat (48 + n)] := by decide
theorem dec_one {n : Nat} (h : n < 10) : Lib.decDigits n = [UInt8.ofNat (48 + n)] := Lib.decDigits_one h
theorem dec_two {n : Nat} (h : 10 ≤ n) : Lib.decDigits n = Lib.decDigits (n / 10) ++ Lib.decDigits (n % 10) := by
 rw [Lib.decDigits, dif_neg (by omega), dec_one (n := n % 10) (by omega)]
theorem nDig_le : ∀ (k n : Nat), n < 10 ^ k → Lib.nDigits n ≤ k + 1
 | 0, n, h => by
  have : n = 0 := by simp at h; exact h
  subst this
  rw [Lib.nDigits, dif_pos (by omega)]
  omega
 | k + 1, n, h => by
  rw [Lib.nDigits]
  split
  ·omega
  ·have := nDig_le k (n / 10) (by rw [Nat.pow_succ] at h; omega)
   omega
theorem dec_len (n : Nat) (h : n < 9223372036854775808) : (Lib.decDigits n).length ≤ 20 := by
 rw [Lib.decDigits_length]
 exact nDig_le 19 n (by omega)
theorem c_hex (n : Int) (h0 : 0 ≤ n) (h1 : n < 18446744073709551616) : CallP Pr 106 [.int .u64 n] (.str (hex16 n)) := by
 refine CallP.of_wp Tryz.func106 rfl (by kernel_rfl) Tryz.ntmps106 (by simp) ?_
 simp only [frameOf]
 refine WP.sr [0] (by kernel_rfl) fun K hK => ?_
 simp (decide := true) only [TF, ↓reduceIte]
 refine hK _ _ ?_; clear hK K
 refine WP.sr [0, 3] (by kernel_rfl) fun K hK => ?_
 simp (decide := true) only [TF, ↓reduceIte]
 refine hK _ _ ?_; clear hK K
 refine WP.seq ?_
 refine WP.sr [0, 3, 5] (by kernel_rfl) fun K hK => ?_
 simp (decide := true) only [TF, ↓reduceIte]
 refine hK _ _ ?_; clear hK K
 refine WP.block ?_
 refine WP.lp [0, 3] (X := {k : Nat // k ≤ 16}) (fun x => match x with | ⟨(k), _⟩ => [(5, .int .i64 k)]) (fun x => match x with | ⟨(k), _⟩ => [(0, .box 152 (cellsH n k))]) (fun x => match x with | ⟨(k), _⟩ => 16 - k) (by simp (decide := true) only [W, ↓reduceIte]; rfl) ?_ ⟨(0), Nat.zero_le _⟩ ?_
 rotate_left
 · exact Weak.store (by simp [St.get, lk, W, Le.refl, W]) (by simp [lk, cellsH, hexR, List.replicate]) (by simp [lk]) (by simp [BClo, lk]) (by simp [lk])
 rintro ⟨k, hk⟩
 dsimp only
 simp only [List.cons_append, List.nil_append]
 refine WP.sr [0, 3, 5, 6] (by kernel_rfl) fun K hK => ?_
 simp (decide := true) only [TF, ↓reduceIte]
 refine hK _ _ ?_; clear hK K
 refine WP.seq ?_
 refine WP.cond (b := _) rfl (fun q1 => ?_) (fun q1 => ?_)
 ·
  have hlt : k < 16 := by have := of_decide_eq_true q1; omega
  have hw1 : IntKind.wrap .i64 (15 - (k : Int)) = ((15 - k : Nat) : Int) := by rw [wrap_i64 (by omega) (by omega)]; omega
  have hw2 : IntKind.wrap .i64 (4 * (k : Int)) = ((4 * k : Nat) : Int) := by rw [wrap_i64 (by omega) (by omega)]; omega
  have hda := dig_and h0 h1 hlt
  have hdl := hdN_lt n k
  have hdh := dig_head hdl
  have hcl := cellsH_len n hk
  have hpu := cellsH_put n hlt
  have h15 : 15 - k < 16 := by omega
  have h16 : 15 - k + 1 ≤ 16 := by omega
  refine WP.skip ?_
  show WP _ _ _ _ _ _
  refine WP.seq ?_
  refine WP.block ?_
  refine WP.sr [0, 3, 4, 5] (by kernel_rfl) fun K hK => ?_
  simp (decide := true) only [TF, q1, ↓reduceIte]
  refine hK _ _ ?_; clear hK K
  refine WP.region (by kernel_rfl) fun K hK => ?_
  simp (decide := true) only [TF, hw1, hw2, hda, hdl, hdh, hcl, h15, h16, Nat.mul_one, Int.natCast_nonneg, ↓reduceIte]
  refine hK _ _ ?_; clear hK K
  show WP _ _ _ _ _ _
  refine WP.region (by kernel_rfl) fun K hK => ?_
  simp (decide := true) only [TF, ↓reduceIte]
  refine hK _ _ ?_; clear hK K
  show ∃ y, _ ∧ Weak _ _ _
  refine ⟨⟨k + 1, ?_⟩, ?_, ?_⟩
  · omega
  · dsimp only; omega
  · exact Weak.store (by simp [St.get, lk, Le.refl, wrapS hlt (by decide)]) (by simp [lk]; simpa using hpu) (by simp [lk]) (by simp [BClo, lk]) (by simp [lk])
 ·
  have hk16 : k = 16 := by have := of_decide_eq_false q1; omega
  subst hk16
  refine WP.exit ?_
  show WP _ _ _ _ _ _
  refine WP.seq ?_
  refine WP.boxStr (s := hex16 n) (b := 0) (T := 152) (by kernel_rfl) rfl rfl rfl rfl rfl rfl rfl t_arrD_152 t_isStr_9 t_elemD_111 t_kindD_5 rfl (by simp [lk, cellsH_end]) (hexR_len n 16) fun K hK => ?_
  ·
   simp (decide := true) only [TF, ↓reduceIte]
   refine hK _ _ ?_; clear hK K
   show WP _ _ _ _ _ _
   refine WP.ret ?_
   exact Ends.pure (.inr rfl) rfl (Le.of_eq (by simp (decide := true) only [St.get, lk, W, ↓reduceIte])) (by simp)
abbrev s_r_hex : List Nat := [0, 2, 3, 4, 5, 7]
theorem c_r_hex (n : Int) (h0 : 0 ≤ n) (h1 : n < 18446744073709551616) : CallP Pr 168 [.int .u64 n] (.str (hex16 n)) := by
 refine CallP.W Tryz.func168 Tryz.ntmps168 ?_
 simp only [frameOf]
 iterate 3 first | (refine WP.S s_r_hex fun _ z => ?_; simp +decide only [TF, ↓reduceIte]; apply z; clear z) | apply WP.seq
 refine WP.S [0, 3, 4] fun _ z => ?_; simp +decide only [TF, ↓reduceIte]; apply z; clear z
 apply WP.block
 refine WP.lp [] (X := {k : Nat // k ≤ 16}) (fun x => match x with | ⟨(k), _⟩ => [(0, .int .u64 (n / 16 ^ k)), (3, .str (hexR n k)), (4, .int .i64 k)]) (fun x => match x with | ⟨(k), _⟩ => []) (fun x => match x with | ⟨(k), _⟩ => 16 - k) (by simp +decide only [W, ↓reduceIte]; rfl) ?_ ⟨(0), Nat.zero_le _⟩ ?_
 rotate_left
 ·exact Weak.nil (by simp [St.get, lk, W, Le.refl, hexR, W]) (by simp [W])
 rintro ⟨k, hk⟩
 dsimp only
 simp only [List.cons_append, List.nil_append]
 iterate 2 first | (refine WP.S s_r_hex fun _ z => ?_; simp +decide only [TF, ↓reduceIte]; apply z; clear z) | apply WP.seq
 refine WP.cond rfl (fun q1 => ?_) (fun q1 => ?_)
 ·have hlt : k < 16 := by have := of_decide_eq_true q1; omega
  have hre := hex_rem h0 k
  have hqo := hex_quo h0 h1 k
  have hdl := hdN_lt n k
  have hp1 : IntKind.u64.wrap (((hdN n k : Nat) : Int) + 1) = ((hdN n k + 1 : Nat) : Int) := by rw [wrap_u64_id (by omega) (by omega)]; omega
  have hds : List.drop (hdN n k) ((48 : UInt8) :: List.take (hdN n k) [49, 50, 51, 52, 53, 54, 55, 56, 57, 97, 98, 99, 100, 101, 102]) = [digB (hdN n k)] := dig_str hdl
  have hb1 : hdN n k ≤ hdN n k + 1 := by omega
  have hb2 : hdN n k + 1 ≤ 16 := by omega
  have hle := hexR_len n k
  iterate 4 first | (refine WP.S s_r_hex fun _ z => ?_; simp +decide only [TF, q1, hre, ↓reduceIte]; apply z; clear z) | (apply WP.skip; show WP ..) | apply WP.block | apply WP.seq
  refine WP.S s_r_hex fun _ z => ?_
  simp +decide only [TF, hp1, hds, hb1, hb2, ↓reduceIte]
  refine ⟨by simp only [hle]; omega, ?_⟩
  apply z; clear z
  iterate 2 first | (refine WP.R fun _ z => ?_; simp +decide only [TF, hqo, ↓reduceIte]; apply z; clear z; show WP ..) | (refine WP.R fun _ z => ?_; simp +decide only [TF, ↓reduceIte]; apply z; clear z)
  show ∃ y, _ ∧ Weak _ _ _
  refine ⟨⟨k + 1, ?_⟩, ?_, ?_⟩
  ·omega
  ·dsimp only; omega
  exact Weak.nil (by simp [St.get, lk, Le.refl, hexR, wrapS hlt (by decide)]) (by simp [W])
 have hk16 : k = 16 := by have := of_decide_eq_false q1; omega
 subst hk16
 iterate 2 first | (refine WP.S s_r_hex fun _ z => ?_; simp +decide only [TF, ↓reduceIte]; apply z; clear z) | (apply WP.exit; show WP ..)
 apply WP.ret
 exact Ends.P rfl (Le.of_eq (by simp +decide only [St.get, W, hex16, ↓reduceIte]))
abbrev s_readhex : List Nat := [0, 2, 3, 4, 5, 6, 7, 8, 11, 13, 14, 15, 17, 18, 19, 26, 30]
theorem c_readhex (s : List UInt8) (hs : s.length ≤ 140737488355328) : CallP Pr 117 [.str s] (rdHD s) := by
 refine CallP.W Tryz.func117 Tryz.ntmps117 ?_
 simp only [frameOf]
 iterate 3 first | (refine WP.S s_readhex fun _ z => ?_; simp +decide only [TF, ↓reduceIte]; apply z; clear z) | apply WP.seq
 refine WP.cond rfl (fun q1 => ?_) (fun q1 => ?_)
 ·have hR := rdH_no (s := s) (by intro e; have := q1; simp [e] at this)
  refine WP.S s_readhex fun _ z => ?_; simp +decide only [TF, q1, ↓reduceIte]; apply z; clear z
  apply WP.ret
  exact Ends.P (d := .tup [_, _]) rfl (Le.of_eq (by simp +decide only [St.get, lk, W, rdHD, hR, ↓reduceIte]))
 have hl16 : s.length = 16 := by have := q1; simp at this; omega
 iterate 3 first | (refine WP.S s_readhex fun _ z => ?_; simp +decide only [TF, q1, ↓reduceIte]; apply z; clear z) | (apply WP.skip; show WP ..) | apply WP.seq
 refine WP.S [0, 4, 13, 14] fun _ z => ?_; simp +decide only [TF, ↓reduceIte]; apply z; clear z
 apply WP.block
 refine WP.lp [0, 13] (X := {x : (Nat) × (Int) // match x with | (i, a) => i ≤ s.length ∧ rhF 0 s = rhF a (s.drop i)}) (fun x => match x with | ⟨(i, a), _⟩ => [(4, .int .u64 a), (14, .int .i64 i)]) (fun x => match x with | ⟨(i, a), _⟩ => []) (fun x => match x with | ⟨(i, a), _⟩ => s.length - i) (by simp +decide only [W, ↓reduceIte]; rfl) ?_ ⟨(0, 0), ⟨Nat.zero_le _, rfl⟩⟩ ?_
 rotate_left
 ·exact Weak.nil (by simp [St.get, lk, W, Le.refl]) (by simp [W])
 rintro ⟨⟨i, a⟩, ⟨hi, hI⟩⟩
 dsimp only
 simp only [List.cons_append, List.nil_append]
 iterate 2 first | (refine WP.S s_readhex fun _ z => ?_; simp +decide only [TF, ↓reduceIte]; apply z; clear z) | apply WP.seq
 refine WP.cond rfl (fun q2 => ?_) (fun q2 => ?_)
 ·have hlt := lt_of_q q2
  have hg : s[i]? = some s[i] := getE hlt
  rw [dropE hlt, rhF] at hI
  iterate 6 first | (refine WP.S s_readhex fun _ z => ?_; simp +decide only [TF, q2, ↓reduceIte]; apply z; clear z) | (apply WP.skip; show WP ..) | apply WP.block | apply WP.seq
  refine WP.S [0, 4, 5, 6, 13, 14, 17, 18] fun _ z => ?_; simp +decide only [TF, digC_take, ↓reduceIte]; apply z; clear z
  apply WP.block
  refine WP.lp [0, 4, 5, 13, 14, 17] (X := {k : Nat // k ≤ 16}) (fun x => match x with | ⟨(k), _⟩ => [(6, .int .i64 (ixD s[i] k)), (18, .int .i64 k)]) (fun x => match x with | ⟨(k), _⟩ => []) (fun x => match x with | ⟨(k), _⟩ => 16 - k) (by simp +decide only [W, ↓reduceIte]; rfl) ?_ ⟨(0), Nat.zero_le _⟩ ?_
  rotate_left
  ·exact Weak.nil (by simp [St.get, lk, W, Le.refl, ixD]) (by simp [W])
  rintro ⟨k, hk⟩
  dsimp only
  simp only [List.cons_append, List.nil_append]
  iterate 2 first | (refine WP.S s_readhex fun _ z => ?_; simp +decide only [TF, ↓reduceIte]; apply z; clear z) | apply WP.seq
  refine WP.cond rfl (fun q3 => ?_) (fun q3 => ?_)
  ·have hlt2 : k < 16 := by have := of_decide_eq_true q3; omega
   have hdk := digC_get hlt2
   iterate 5 first | (refine WP.S s_readhex fun _ z => ?_; simp +decide only [TF, hg, q3, hlt2, hdk, ↓reduceIte]; apply z; clear z) | (apply WP.skip; show WP ..) | apply WP.block | apply WP.seq
   refine WP.cond rfl (fun q4 => ?_) (fun q4 => ?_)
   ·have hx := (u8_eq _ _).1 q4
    iterate 2 first | (refine WP.R fun _ z => ?_; simp +decide only [TF, hx, ↓reduceIte]; apply z; clear z; show WP ..) | (refine WP.R fun _ z => ?_; simp +decide only [TF, ↓reduceIte]; apply z; clear z)
    show ∃ y, _ ∧ Weak _ _ _
    refine ⟨⟨k + 1, ?_⟩, ?_, ?_⟩
    ·omega
    ·dsimp only; omega
    exact Weak.nil (by simp [St.get, lk, Le.refl, ixD, hx, wrapS hlt2 (by decide)]) (by simp [W])
   have hx := u8_ne q4
   iterate 2 first | (refine WP.R fun _ z => ?_; simp +decide only [TF, q4, ↓reduceIte]; apply z; clear z) | (apply WP.skip; show WP ..)
   show ∃ y, _ ∧ Weak _ _ _
   refine ⟨⟨k + 1, ?_⟩, ?_, ?_⟩
   ·omega
   ·dsimp only; omega
   exact Weak.nil (by simp [St.get, lk, Le.refl, ixD, hx, wrapS hlt2 (by decide)]) (by simp [W])
  have hk16 : k = 16 := by have := of_decide_eq_false q3; omega
  subst hk16
  have hvx := hv_ix s[i]
  iterate 3 first | (refine WP.S s_readhex fun _ z => ?_; simp +decide only [TF, hvx, ↓reduceIte]; apply z; clear z) | (apply WP.exit; show WP ..) | apply WP.seq
  refine WP.cond rfl (fun q5 => ?_) (fun q5 => ?_)
  ·have hR := rdH_none (s := s) (by rw [hI, if_pos (of_decide_eq_true q5)])
   refine WP.S s_readhex fun _ z => ?_; simp +decide only [TF, q5, ↓reduceIte]; apply z; clear z
   apply WP.ret
   exact Ends.P (d := .tup [_, _]) rfl (Le.of_eq (by simp +decide only [St.get, lk, W, rdHD, hR, ↓reduceIte]))
  have hn0 : ¬ hv s[i] < 0 := by exact of_decide_eq_false q5
  have hvr := (hv_rng s[i]).2
  rw [if_neg hn0] at hI
  have hor := or_add (n := a) (v := hv s[i]) (by omega) hvr
  iterate 3 first | (refine WP.R fun _ z => ?_; simp +decide only [TF, q5, hor, ↓reduceIte]; apply z; clear z; show WP ..) | (refine WP.R fun _ z => ?_; simp +decide only [TF, ↓reduceIte]; apply z; clear z) | (apply WP.skip; show WP ..)
  show ∃ y, _ ∧ Weak _ _ _
  refine ⟨⟨(i + 1, IntKind.u64.wrap (a * 16 + hv s[i])), ?_⟩, ?_, ?_⟩
  ·exact ⟨by omega, hI⟩
  ·dsimp only; omega
  exact Weak.nil (by simp [St.get, lk, Le.refl, wrapS hlt (show s.length ≤ 140737488355328 by omega)]) (by simp [W])
 have hge := ge_of_q q2
 rw [dropN hge] at hI
 have hR := rdH_some hl16 hI
 iterate 2 first | (refine WP.S s_readhex fun _ z => ?_; simp +decide only [TF, q2, ↓reduceIte]; apply z; clear z) | (apply WP.exit; show WP ..)
 apply WP.ret
 exact Ends.P (d := .tup [_, _]) rfl (Le.of_eq (by simp +decide only [St.get, lk, W, rdHD, hR, ↓reduceIte]))
abbrev s_r_readhex : List Nat := [0, 2, 3, 4, 5, 6, 10, 12, 18, 28]
theorem c_r_readhex (s : List UInt8) (hs : s.length ≤ 140737488355328) : CallP Pr 141 [.str s] (rdHD s) := by
 refine CallP.W Tryz.func141 Tryz.ntmps141 ?_
 simp only [frameOf]
 iterate 3 first | (refine WP.S s_r_readhex fun _ z => ?_; simp +decide only [TF, ↓reduceIte]; apply z; clear z) | apply WP.seq
 refine WP.cond rfl (fun q1 => ?_) (fun q1 => ?_)
 ·have hR := rdH_no (s := s) (by intro e; have := q1; simp [e] at this)
  refine WP.S s_r_readhex fun _ z => ?_; simp +decide only [TF, q1, ↓reduceIte]; apply z; clear z
  apply WP.ret
  exact Ends.P (d := .tup [_, _]) rfl (Le.of_eq (by simp +decide only [St.get, lk, W, rdHD, hR, ↓reduceIte]))
 have hl16 : s.length = 16 := by have := q1; simp at this; omega
 iterate 3 first | (refine WP.S s_r_readhex fun _ z => ?_; simp +decide only [TF, q1, ↓reduceIte]; apply z; clear z) | (apply WP.skip; show WP ..) | apply WP.seq
 refine WP.S [0, 4, 5] fun _ z => ?_; simp +decide only [TF, ↓reduceIte]; apply z; clear z
 apply WP.block
 refine WP.lp [0] (X := {x : (Nat) × (Int) // match x with | (i, a) => i ≤ 16 ∧ rhF 0 s = rhF a (s.drop i)}) (fun x => match x with | ⟨(i, a), _⟩ => [(4, .int .u64 a), (5, .int .i64 i)]) (fun x => match x with | ⟨(i, a), _⟩ => []) (fun x => match x with | ⟨(i, a), _⟩ => 16 - i) (by simp +decide only [W, ↓reduceIte]; rfl) ?_ ⟨(0, 0), ⟨Nat.zero_le _, rfl⟩⟩ ?_
 rotate_left
 ·exact Weak.nil (by simp [St.get, lk, W, Le.refl]) (by simp [W])
 rintro ⟨⟨i, a⟩, ⟨hi, hI⟩⟩
 dsimp only
 simp only [List.cons_append, List.nil_append]
 iterate 2 first | (refine WP.S s_r_readhex fun _ z => ?_; simp +decide only [TF, ↓reduceIte]; apply z; clear z) | apply WP.seq
 refine WP.cond rfl (fun q2 => ?_) (fun q2 => ?_)
 ·have hlt : i < 16 := by have := of_decide_eq_true q2; omega
  have hlt2 : i < s.length := by omega
  have hg : s[i]? = some s[i] := getE hlt2
  rw [dropE hlt2, rhF] at hI
  iterate 7 first | (refine WP.S s_r_readhex fun _ z => ?_; simp +decide only [TF, q2, hg, ↓reduceIte]; apply z; clear z) | (apply WP.skip; show WP ..) | apply WP.block | apply WP.seq
  refine WP.S s_r_readhex fun _ z => ?_
  refine runOps.take 3 fun J hJ => ?_
  simp +decide only [TF, ↓reduceIte]
  refine hJ _ _ ?_; clear hJ J
  refine runOps.part 21 rfl (fun q3 => ?_) (fun q3 => ?_)
  ·simp +decide only [TF, q3, ↓reduceIte]
   apply z; clear z
   refine WP.cond rfl (fun q4 => ?_) (fun q4 => ?_)
   ·have h4 : 48 ≤ s[i].toNat ∧ s[i].toNat ≤ 57 := by have aq1 := q1; have aq2 := q2; have aq3 := q3; have aq4 := q4; simp only [decide_eq_true_eq] at aq1 aq2 aq3 aq4; omega
    obtain ⟨hvc, hwc⟩ := sub48 h4.1 h4.2
    have hn0 : ¬ hv s[i] < 0 := by omega
    have hvr := (hv_rng s[i]).2
    rw [if_neg hn0] at hI
    have hwa := wrapU_add (a * 16) (hv s[i])
    iterate 3 first | (refine WP.R fun _ z => ?_; simp +decide only [TF, q4, hwc, hwa, ↓reduceIte]; apply z; clear z; show WP ..) | (refine WP.R fun _ z => ?_; simp +decide only [TF, ↓reduceIte]; apply z; clear z)
    show ∃ y, _ ∧ Weak _ _ _
    refine ⟨⟨(i + 1, IntKind.u64.wrap (a * 16 + hv s[i])), ?_⟩, ?_, ?_⟩
    ·exact ⟨by omega, hI⟩
    ·dsimp only; omega
    exact Weak.nil (by simp [St.get, lk, Le.refl, wrapS hlt (by decide)]) (by simp [W])
   refine WP.S s_r_readhex fun _ z => ?_
   refine runOps.take 3 fun J hJ => ?_
   simp +decide only [TF, q4, ↓reduceIte]
   refine hJ _ _ ?_; clear hJ J
   refine runOps.part 31 rfl (fun q5 => ?_) (fun q5 => ?_)
   ·simp +decide only [TF, q5, ↓reduceIte]
    apply z; clear z
    refine WP.cond rfl (fun q6 => ?_) (fun q6 => ?_)
    ·have h4 : 97 ≤ s[i].toNat ∧ s[i].toNat ≤ 102 := by have aq1 := q1; have aq2 := q2; have aq3 := q3; have aq4 := q4; have aq5 := q5; have aq6 := q6; simp only [decide_eq_true_eq, decide_eq_false_iff_not] at aq1 aq2 aq3 aq4 aq5 aq6; omega
     obtain ⟨hvc, hwc⟩ := sub97 h4.1 h4.2
     have hn0 : ¬ hv s[i] < 0 := by omega
     have hvr := (hv_rng s[i]).2
     rw [if_neg hn0] at hI
     have hwa := wrapU_add (a * 16) (hv s[i])
     iterate 3 first | (refine WP.R fun _ z => ?_; simp +decide only [TF, q6, hwc, hwa, ↓reduceIte]; apply z; clear z; show WP ..) | (refine WP.R fun _ z => ?_; simp +decide only [TF, ↓reduceIte]; apply z; clear z)
     show ∃ y, _ ∧ Weak _ _ _
     refine ⟨⟨(i + 1, IntKind.u64.wrap (a * 16 + hv s[i])), ?_⟩, ?_, ?_⟩
     ·exact ⟨by omega, hI⟩
     ·dsimp only; omega
     exact Weak.nil (by simp [St.get, lk, Le.refl, wrapS hlt (by decide)]) (by simp [W])
    have hz : hv s[i] = -1 := by have aq1 := q1; have aq2 := q2; have aq3 := q3; have aq4 := q4; have aq5 := q5; have aq6 := q6; simp only [decide_eq_true_eq, decide_eq_false_iff_not] at aq1 aq2 aq3 aq4 aq5 aq6; unfold hv; rw [if_neg (by omega), if_neg (by omega)]
    have hR := rdH_none (s := s) (by rw [hI, if_pos (by omega)])
    refine WP.S s_r_readhex fun _ z => ?_; simp +decide only [TF, q6, ↓reduceIte]; apply z; clear z
    apply WP.ret
    exact Ends.P (d := .tup [_, _]) rfl (Le.of_eq (by simp +decide only [St.get, lk, W, rdHD, hR, ↓reduceIte]))
   have hz : hv s[i] = -1 := by have aq1 := q1; have aq2 := q2; have aq3 := q3; have aq4 := q4; have aq5 := q5; simp only [decide_eq_true_eq, decide_eq_false_iff_not] at aq1 aq2 aq3 aq4 aq5; unfold hv; rw [if_neg (by omega), if_neg (by omega)]
   have hR := rdH_none (s := s) (by rw [hI, if_pos (by omega)])
   simp +decide only [TF, q5, ↓reduceIte]
   apply z; clear z
   iterate 2 first | (refine WP.S s_r_readhex fun _ z => ?_; simp +decide only [TF, ↓reduceIte]; apply z; clear z) | refine WP.cF ?_
   apply WP.ret
   exact Ends.P (d := .tup [_, _]) rfl (Le.of_eq (by simp +decide only [St.get, lk, W, rdHD, hR, ↓reduceIte]))
  simp +decide only [TF, q3, ↓reduceIte]
  apply z; clear z
  refine WP.cF ?_
  refine WP.S s_r_readhex fun _ z => ?_
  refine runOps.take 3 fun J hJ => ?_
  simp +decide only [TF, ↓reduceIte]
  refine hJ _ _ ?_; clear hJ J
  refine runOps.part 31 rfl (fun q7 => ?_) (fun q7 => ?_)
  ·simp +decide only [TF, q7, ↓reduceIte]
   apply z; clear z
   refine WP.cond rfl (fun q8 => ?_) (fun q8 => ?_)
   ·have h4 : 97 ≤ s[i].toNat ∧ s[i].toNat ≤ 102 := by have aq1 := q1; have aq2 := q2; have aq3 := q3; have aq7 := q7; have aq8 := q8; simp only [decide_eq_true_eq, decide_eq_false_iff_not] at aq1 aq2 aq3 aq7 aq8; omega
    obtain ⟨hvc, hwc⟩ := sub97 h4.1 h4.2
    have hn0 : ¬ hv s[i] < 0 := by omega
    have hvr := (hv_rng s[i]).2
    rw [if_neg hn0] at hI
    have hwa := wrapU_add (a * 16) (hv s[i])
    iterate 3 first | (refine WP.R fun _ z => ?_; simp +decide only [TF, q8, hwc, hwa, ↓reduceIte]; apply z; clear z; show WP ..) | (refine WP.R fun _ z => ?_; simp +decide only [TF, ↓reduceIte]; apply z; clear z)
    show ∃ y, _ ∧ Weak _ _ _
    refine ⟨⟨(i + 1, IntKind.u64.wrap (a * 16 + hv s[i])), ?_⟩, ?_, ?_⟩
    ·exact ⟨by omega, hI⟩
    ·dsimp only; omega
    exact Weak.nil (by simp [St.get, lk, Le.refl, wrapS hlt (by decide)]) (by simp [W])
   have hz : hv s[i] = -1 := by have aq1 := q1; have aq2 := q2; have aq3 := q3; have aq7 := q7; have aq8 := q8; simp only [decide_eq_true_eq, decide_eq_false_iff_not] at aq1 aq2 aq3 aq7 aq8; unfold hv; rw [if_neg (by omega), if_neg (by omega)]
   have hR := rdH_none (s := s) (by rw [hI, if_pos (by omega)])
   refine WP.S s_r_readhex fun _ z => ?_; simp +decide only [TF, q8, ↓reduceIte]; apply z; clear z
   apply WP.ret
   exact Ends.P (d := .tup [_, _]) rfl (Le.of_eq (by simp +decide only [St.get, lk, W, rdHD, hR, ↓reduceIte]))
  have hz : hv s[i] = -1 := by have aq1 := q1; have aq2 := q2; have aq3 := q3; have aq7 := q7; simp only [decide_eq_true_eq, decide_eq_false_iff_not] at aq1 aq2 aq3 aq7; unfold hv; rw [if_neg (by omega), if_neg (by omega)]
  have hR := rdH_none (s := s) (by rw [hI, if_pos (by omega)])
  simp +decide only [TF, q7, ↓reduceIte]
  apply z; clear z
  iterate 2 first | (refine WP.S s_r_readhex fun _ z => ?_; simp +decide only [TF, ↓reduceIte]; apply z; clear z) | refine WP.cF ?_
  apply WP.ret
  exact Ends.P (d := .tup [_, _]) rfl (Le.of_eq (by simp +decide only [St.get, lk, W, rdHD, hR, ↓reduceIte]))
 have hge : 16 ≤ i := by have := of_decide_eq_false q2; omega
 have hR := rdH_some hl16 (by rw [hI, dropN (show s.length ≤ i by omega)]; rfl)
 iterate 2 first | (refine WP.S s_r_readhex fun _ z => ?_; simp +decide only [TF, q2, ↓reduceIte]; apply z; clear z) | (apply WP.exit; show WP ..)
 apply WP.ret
 exact Ends.P (d := .tup [_, _]) rfl (Le.of_eq (by simp +decide only [St.get, lk, W, rdHD, hR, ↓reduceIte]))
theorem c_txt (s : List UInt8) (hs : s.length ≤ 140737488355328) : CallP Pr 62 [.str s] (.str (txtB s)) := by
 refine CallP.W Tryz.func62 Tryz.ntmps62 ?_
 simp only [frameOf]
 refine WP.S [0, 2] fun _ z => ?_; simp +decide only [TF, ↓reduceIte]; apply z; clear z
 refine WP.S [0, 2] fun _ z => ?_
 simp +decide only [TF, ↓reduceIte]
 refine CallK.P (c_sum s hs) rfl rfl ?_
 simp +decide only [TF, ↓reduceIte]
 refine CallK.P (c_hex (sumU s) (sumU_rng s).1 (sumU_rng s).2) rfl rfl ?_
 simp +decide only [TF, ↓reduceIte]
 apply z; clear z
 apply WP.ret
 exact Ends.P rfl (Le.of_eq (by simp +decide only [St.get, W, txtB, ↓reduceIte]))
theorem c_r_txt (s : List UInt8) (hs : s.length ≤ 140737488355328) : CallP Pr 139 [.str s] (.str (txtB s)) := by
 refine CallP.W Tryz.func139 Tryz.ntmps139 ?_
 simp only [frameOf]
 refine WP.S [0, 2] fun _ z => ?_; simp +decide only [TF, ↓reduceIte]; apply z; clear z
 refine WP.S [0, 2] fun _ z => ?_
 simp +decide only [TF, ↓reduceIte]
 refine CallK.P (c_r_sum s hs) rfl rfl ?_
 simp +decide only [TF, ↓reduceIte]
 refine CallK.P (c_r_hex (sumU s) (sumU_rng s).1 (sumU_rng s).2) rfl rfl ?_
 simp +decide only [TF, ↓reduceIte]
 apply z; clear z
 apply WP.ret
 exact Ends.P rfl (Le.of_eq (by simp +decide only [St.get, W, txtB, ↓reduceIte]))
theorem c_mac (k s : List UInt8) (hk : k.length ≤ 1099511627776) (hs : s.length ≤ 1099511627776) : CallP Pr 23 [.str k, .str s] (.str (macB k s)) := by
 have hi := itoa_20 (n := (k.length : Int)) ⟨by omega, by omega⟩
 have hp := preM_len hk
 refine CallP.W Tryz.func23 Tryz.ntmps23 ?_
 simp only [frameOf, Nat.zero_add]
 refine WP.S [0, 1, 4, 5] fun _ z => ?_; simp +decide only [TF, ↓reduceIte]; apply z; clear z
 refine WP.S [0, 1, 4, 5] fun _ z => ?_
 simp +decide only [TF, ↓reduceIte]
 refine CallK.P (lib_itoa _ (by omega) (by omega)) rfl rfl ?_
 simp +decide only [TF, ↓reduceIte]
 refine ⟨by simp; omega, by simp; omega, ?_⟩
 apply z; clear z
 refine WP.S [0, 1, 4, 5] fun _ z => ?_
 simp +decide only [TF, ↓reduceIte]
 refine ⟨by simp; omega, ?_⟩
 refine CallK.pure (c_txt (preM k ++ s) (by simp only [List.length_append]; omega)) rfl (by simp [preM, fg]) (by simp) ?_
 simp +decide only [TF, ↓reduceIte]
 refine ⟨by simp [txtB_len]; omega, ?_⟩
 refine CallK.pure (c_txt (preM k ++ txtB (preM k ++ s)) (by simp only [List.length_append, txtB_len]; omega)) rfl (by simp [preM, fg]) (by simp) ?_
 simp +decide only [TF, ↓reduceIte]
 apply z; clear z
 apply WP.ret
 exact Ends.P rfl (Le.of_eq (by simp +decide only [St.get, W, macB, ↓reduceIte]))
theorem c_r_dec3 (n : Nat) (hn : n < 9223372036854775808) : CallP Pr 138 [.int .i64 (n : Int)] (.str (Lib.decDigits n)) := by
 revert hn
 refine Nat.strongRecOn (motive := fun n => n < 9223372036854775808 → CallP Pr 138 [.int .i64 (n : Int)] (.str (Lib.decDigits n))) n ?_
 clear n; intro n ih hn
 refine CallP.W Tryz.func138 Tryz.ntmps138 ?_
 simp only [frameOf]
 iterate 3 first | (refine WP.S [0, 2, 4] fun _ z => ?_; simp +decide only [TF, ↓reduceIte]; apply z; clear z) | apply WP.seq
 refine WP.cond rfl (fun q1 => ?_) (fun q1 => ?_)
 ·have hlt : n < 10 := by have := of_decide_eq_true q1; omega
  have hp1 : IntKind.wrap .i64 ((n : Int) + 1) = ((n + 1 : Nat) : Int) := by rw [wrap_i64 (by omega) (by omega)]; omega
  have hds := dec_slice n hlt
  have hb1 : n ≤ n + 1 := by omega
  have hb2 : n + 1 ≤ 10 := by omega
  have hdd := dec_one hlt
  refine WP.S [0, 2, 4] fun _ z => ?_; simp +decide only [TF, q1, hp1, hds, hb1, hb2, ↓reduceIte]; apply z; clear z
  apply WP.ret
  exact Ends.P rfl (Le.of_eq (by simp +decide only [St.get, W, hdd, ↓reduceIte]))
 have hge : 10 ≤ n := by have := of_decide_eq_false q1; omega
 have hq : IntKind.wrap .i64 ((n : Int).tdiv 10) = ((n / 10 : Nat) : Int) := by rw [Int.tdiv_eq_ediv_of_nonneg (by omega), wrap_i64 (by omega) (by omega)]; omega
 have hr : (n : Int).tmod 10 = ((n % 10 : Nat) : Int) := by rw [Int.tmod_eq_emod_of_nonneg (by omega)]; omega
 have hdd := dec_two hge
 have hl1 := dec_len (n / 10) (by omega)
 have hl2 := dec_len (n % 10) (by omega)
 apply WP.skip; show WP ..
 refine WP.S [0, 2, 4] fun _ z => ?_
 simp +decide only [TF, q1, hq, ↓reduceIte]
 refine CallK.P (ih (n / 10) (by omega) (by omega)) rfl rfl ?_
 simp +decide only [TF, hr, ↓reduceIte]
 refine CallK.P (ih (n % 10) (by omega) (by omega)) rfl rfl ?_
 simp +decide only [TF, ↓reduceIte]
 refine ⟨by omega, ?_⟩
 apply z; clear z
 apply WP.ret
 exact Ends.P rfl (Le.of_eq (by simp +decide only [St.get, W, hdd, ↓reduceIte]))
theorem c_r_mac (k s : List UInt8) (hk : k.length ≤ 1099511627776) (hs : s.length ≤ 1099511627776) : CallP Pr 104 [.str k, .str s] (.str (macB k s)) := by
 have hi := dec_len k.length (by omega)
 have hp := preM_len hk
 refine CallP.W Tryz.func104 Tryz.ntmps104 ?_
 simp only [frameOf, Nat.zero_add]
 refine WP.S [0, 1, 4, 5] fun _ z => ?_; simp +decide only [TF, ↓reduceIte]; apply z; clear z
 refine WP.S [0, 1, 4, 5] fun _ z => ?_
 simp +decide only [TF, ↓reduceIte]
 refine CallK.P (c_r_dec3 k.length (by omega)) rfl rfl ?_
 simp +decide only [TF, ↓reduceIte]
 refine ⟨by simp; omega, by simp; omega, ?_⟩
 apply z; clear z
 refine WP.S [0, 1, 4, 5] fun _ z => ?_
 simp +decide only [TF, ↓reduceIte]
 refine ⟨by simp; omega, ?_⟩
 refine CallK.pure (c_r_txt (preM k ++ s) (by simp only [List.length_append]; omega)) rfl (by simp [preM_d, fg]) (by simp) ?_
 simp +decide only [TF, ↓reduceIte]
 refine ⟨by simp [txtB_len]; omega, ?_⟩
 refine CallK.pure (c_r_txt (preM k ++ txtB (preM k ++ s)) (by simp only [List.length_append, txtB_len]; omega)) rfl (by simp [preM_d, fg]) (by simp) ?_
 simp +decide only [TF, ↓reduceIte]
 apply z; clear z
 apply WP.ret
 exact Ends.P rfl (Le.of_eq (by simp +decide only [St.get, W, macB, ↓reduceIte]))
def badV (n e : Int) : Value := .agg #[.int .i64 n, .int .i64 e]
theorem badV_rep {M : Nat → Nat → Prop} {γ : Nat → Option G} {w : World} {t : TypeId} {n e : Int} {v : Value} (h : Rep M γ w (.iface t (.agg [.int .i64 n, .int .i64 e])) v) : v = .iface t (badV n e) := by
 cases h with
 | iface h =>
  cases h with
  | @agg _ vs hl h1 hr =>
   have hl2 : vs.size = 2 := hl
   have e0 := hr 0 _ (vs[0]'(by omega)) rfl (Array.getElem?_eq_getElem (by omega))
   have e1 := hr 1 _ (vs[1]'(by omega)) rfl (Array.getElem?_eq_getElem (by omega))
   have a0 := Go.Id.int_inj e0
   have a1 := Go.Id.int_inj e1
   have : vs = #[.int .i64 n, .int .i64 e] := by
    apply Array.ext
    ·simpa using hl
    ·intro i h1 h2
     match i with
     | 0 => exact a0
     | 1 => exact a1
     | i + 2 => simp at hl; omega
   rw [this]; rfl
def nx (w s : List UInt8) : Option (List UInt8 × List UInt8) :=
 match sp 10 s with
 | none => none
 | some (l, r) => (rmW w l).map fun y => (y, r)
theorem hasP (w l : List UInt8) : Lib.hasPrefix l (w ++ [32]) = (rmW w l).isSome := by
 unfold rmW Lib.hasPrefix
 cases h : (w ++ [32]).isPrefixOf l <;> simp
theorem trimP {w l y : List UInt8} (h : rmW w l = some y) : Lib.trimPrefix l (w ++ [32]) = y := by
 have hp := hasP w l
 rw [h] at hp
 unfold Lib.trimPrefix
 rw [hp]
 unfold rmW at h
 split at h
 ·simp only [Option.some.injEq] at h; simp [← h]
 ·cases h
theorem nx_cut {w s y r : List UInt8} (h : nx w s = some (y, r)) : ∃ l, sp 10 s = some (l, r) ∧ rmW w l = some y := by
 unfold nx at h
 split at h
 ·cases h
 ·rename_i l r' hs
  obtain ⟨z, hz, e⟩ := Option.map_eq_some_iff.1 h
  cases e
  exact ⟨l, hs, hz⟩
theorem nx_ok {w s y r : List UInt8} (h : nx w s = some (y, r)) : (Lib.cut s [10]).2.2 = true ∧ (Lib.cut s [10]).2.1 = r ∧ Lib.hasPrefix (Lib.cut s [10]).1 (w ++ [32]) = true ∧ Lib.trimPrefix (Lib.cut s [10]).1 (w ++ [32]) = y := by
 obtain ⟨l, h1, h2⟩ := nx_cut h
 rw [cut_at h1]
 exact ⟨rfl, rfl, by rw [hasP, h2]; rfl, trimP h2⟩
theorem nx_no {w s : List UInt8} (h : nx w s = none) (hc : (Lib.cut s [10]).2.2 = true) : Lib.hasPrefix (Lib.cut s [10]).1 (w ++ [32]) = false := by
 unfold nx at h
 split at h
 ·rename_i hs; rw [cut_no hs] at hc; cases hc
 ·rename_i l r hs
  rw [cut_at hs, hasP]
  simp only [Option.map_eq_none_iff] at h
  rw [h]; rfl
def xN (n : Int) : Option (List UInt8 × List UInt8) → Option Value
 | none => some (.iface 78 (badV (n + 1) 4))
 | some _ => none
def vN : Option (List UInt8 × List UInt8) → D
 | none => .junk
 | some q => .str q.1
def rN (s : List UInt8) : Option (List UInt8 × List UInt8) → List UInt8
 | none => s
 | some q => q.2
@[simp] theorem clo_vN {S : Nat → Prop} (o : Option (List UInt8 × List UInt8)) : Clo S (vN o) ↔ True := by cases o <;> simp [vN]
def xU (n : Int) (x : List UInt8) : Option Value := if numE x = 0 then none else some (.iface 78 (badV n (numE x)))
def vU (x : List UInt8) : D := if numE x = 0 then .agg [.int .i64 (numF x), .int .i64 (numU x)] else .junk
@[simp] theorem clo_vU {S : Nat → Prop} (x : List UInt8) : Clo S (vU x) ↔ True := by unfold vU; split <;> simp
theorem numE_4 {x : List UInt8} (h : (!((Lib.cut x [32]).2.2) || (rdN (Lib.cut x [32]).1).2 == 4 || (rdN (Lib.cut x [32]).2.1).2 == 4) = true) : numE x = 4 := by unfold numE; rw [if_pos h]
theorem numE_27 {x : List UInt8} (h : (!((Lib.cut x [32]).2.2) || (rdN (Lib.cut x [32]).1).2 == 4 || (rdN (Lib.cut x [32]).2.1).2 == 4) = false) (h2 : ((rdN (Lib.cut x [32]).1).2 != 0 || (rdN (Lib.cut x [32]).2.1).2 != 0) = true) : numE x = 27 := by
 unfold numE; rw [h, if_neg (by simp), if_pos h2]
theorem numE_z {x : List UInt8} (h : (!((Lib.cut x [32]).2.2) || (rdN (Lib.cut x [32]).1).2 == 4 || (rdN (Lib.cut x [32]).2.1).2 == 4) = false) (h2 : ((rdN (Lib.cut x [32]).1).2 != 0 || (rdN (Lib.cut x [32]).2.1).2 != 0) = false) : numE x = 0 := by
 unfold numE; rw [h, if_neg (by simp), h2, if_neg (by simp)]
theorem xU_bad {n e : Int} {x : List UInt8} (h : numE x = e) (he : e ≠ 0) : xU n x = some (.iface 78 (badV n e)) := by unfold xU; rw [h, if_neg he]
theorem vU_bad {e : Int} {x : List UInt8} (h : numE x = e) (he : e ≠ 0) : vU x = .junk := by unfold vU; rw [h, if_neg he]
theorem cut_len (s : List UInt8) (c : UInt8) : (Lib.cut s [c]).1.length ≤ s.length ∧ (Lib.cut s [c]).2.1.length ≤ s.length := by
 cases h : sp c s with
 | none => rw [cut_no h]; simp
 | some q =>
  obtain ⟨l, r⟩ := q
  rw [cut_at (l := l) (r := r) h]
  have := (sp_some h).1
  rw [this]; simp; omega
theorem sz24 (h : 24 < Tryz.prog.types.size) : (Tryz.prog.types[24]'h).size = 2 := by kernel_rfl
theorem sz26 (h : 26 < Tryz.prog.types.size) : (Tryz.prog.types[26]'h).size = 5 := by kernel_rfl
theorem c_fail (s : List UInt8) (n e : Int) : CallT Pr (some (.iface 78 (badV n e))) 95 [.ref 0 0, .int .i64 e] [(0, .box 82 [.str s, .int .i64 n])] .junk [(0, .box 82 [.str s, .int .i64 n])] := by
 refine CallT.of_wp Tryz.func95 rfl (by kernel_rfl) Tryz.ntmps95 (by simp) ?_
 simp only [frameOf, Nat.zero_add, List.map_cons, List.map_nil]
 refine WP.panicX 7 (t := 78) (x := badV n e) (by kernel_rfl) rfl rfl rfl fun K hK => ?_
 simp only [List.take_succ_cons, List.take_zero]
 simp +decide only [TF, ↓reduceIte]
 refine hK _ _ (fun M γ w v hr => badV_rep (by simpa [evalD, St.get, lk, W] using hr)) ?_
 clear hK K
 show EndsT _ _ _ _ _ _ _ _
 exact EndsT.panic rfl rfl (by simp [lk, BClo]) (by simp [lk])
theorem c_next (w s : List UInt8) (hw : w.length ≤ 100) (hs : s.length ≤ 4096) (n : Int) (hn : 0 ≤ n) (hn2 : n ≤ 100000)  : CallT Pr (xN n (nx w s)) 93 [.ref 0 0, .str w] [(0, .box 82 [.str s, .int .i64 n])] (vN (nx w s)) [(0, .box 82 [.str (rN s (nx w s)), .int .i64 (n + 1)])] := by
 have hwn : IntKind.wrap .i64 (n + 1) = n + 1 := wrap_i64 (by omega) (by omega)
 have hcl := cut_len s 10
 refine CallT.of_wp Tryz.func93 rfl (by kernel_rfl) Tryz.ntmps93 (by simp) ?_
 simp only [frameOf, Nat.zero_add, List.map_cons, List.map_nil]
 refine WP.sr [0, 1] (by kernel_rfl) fun K hK => ?_
 simp (decide := true) only [TF, ↓reduceIte]
 refine hK _ _ ?_; clear hK K
 refine WP.sr [0, 1] (by kernel_rfl) fun K hK => ?_
 simp (decide := true) only [TF, hwn, ↓reduceIte]
 refine hK _ _ ?_; clear hK K
 refine WP.sr [0, 1, 5, 6, 7] (by kernel_rfl) fun K hK => ?_
 simp (decide := true) only [TF, ↓reduceIte]
 refine CallK.pure (lib_cut _ _ (by omega)) rfl rfl (by simp [-List.map_take]) ?_
 simp (decide := true) only [TF, ↓reduceIte]
 refine hK _ _ ?_; clear hK K
 refine WP.sr [0, 5, 6, 7, 8] (by kernel_rfl) fun K hK => ?_
 simp (decide := true) only [TF, ↓reduceIte]
 refine ⟨by (try simp only [List.length_cons, List.length_nil]); omega, ?_⟩
 refine CallK.pure (lib_cutPrefix _ _) rfl rfl (by simp [-List.map_take]) ?_
 simp (decide := true) only [TF, ↓reduceIte]
 refine hK _ _ ?_; clear hK K
 refine WP.seq ?_
 refine WP.sr [0, 5, 6, 37] (by kernel_rfl) fun K hK => ?_
 refine runOps.take 3 fun J hJ => ?_
 simp (decide := true) only [TF, ↓reduceIte]
 refine hJ _ _ ?_; clear hJ J
 refine runOps.part 34 rfl (fun q1 => ?_) (fun q1 => ?_)
 ·
  simp only [Bool.not_eq_true'] at q1
  have hno : nx w s = none := by cases hq : nx w s with | none => rfl | some q => obtain ⟨y, r⟩ := q; have := nx_ok hq; simp [this.1] at q1
  simp (decide := true) only [TF, q1, ↓reduceIte]
  refine hK _ _ ?_; clear hK K
  refine WP.cond (b := true) (by rfl) (fun _ => ?_) nofun
  refine WP.callX 1 (x := .iface 78 (badV (n + 1) 4)) (by kernel_rfl) rfl rfl rfl fun K hK => ?_
  simp only [List.take_succ_cons, List.take_zero]
  simp (decide := true) only [TF, ↓reduceIte]
  refine hK _ _ ?_; clear hK K
  refine CallXK.imp (c_fail s (n + 1) 4) rfl rfl (by simp [lk, BClo]) (by simp [lk]) (by simp [lk]) ?_
  show EndsT _ _ _ _ _ _ _ _
  refine EndsT.panic (by rw [hno]; rfl) (by rw [hno]; rfl) ?_ ?_
  · simp [St.lay, lk, dl, BClo, W, rN, hno]
  · simp [lk]
 ·
  simp only [Bool.not_eq_false'] at q1
  simp (decide := true) only [TF, q1, ↓reduceIte]
  refine hK _ _ ?_; clear hK K
  refine WP.cond (b := _) rfl (fun q2 => ?_) (fun q2 => ?_)
  ·
   have hno : nx w s = none := by cases hq : nx w s with | none => rfl | some q => obtain ⟨y, r⟩ := q; have := nx_ok hq; simp [this.1, this.2.2.1] at *
   refine WP.callX 1 (x := .iface 78 (badV (n + 1) 4)) (by kernel_rfl) rfl rfl rfl fun K hK => ?_
   simp only [List.take_succ_cons, List.take_zero]
   simp (decide := true) only [TF, q2, ↓reduceIte]
   refine hK _ _ ?_; clear hK K
   refine CallXK.imp (c_fail s (n + 1) 4) rfl rfl (by simp [lk, BClo]) (by simp [lk]) (by simp [lk]) ?_
   show EndsT _ _ _ _ _ _ _ _
   refine EndsT.panic (by rw [hno]; rfl) (by rw [hno]; rfl) ?_ ?_
   · simp [St.lay, lk, dl, BClo, W, rN, hno]
   · simp [lk]
  ·
   have hyes : ∃ y r, nx w s = some (y, r) := by cases hq : nx w s with | none => (have := nx_no hq (by simp_all); simp_all) | some q => exact ⟨q.1, q.2, rfl⟩
   obtain ⟨y, r, hy⟩ := hyes
   obtain ⟨y1, y2, y3, y4⟩ := nx_ok hy
   refine WP.skip ?_
   show WP _ _ _ _ _ _
   refine WP.sr [5] (by kernel_rfl) fun K hK => ?_
   simp (decide := true) only [TF, q2, y2, y4, ↓reduceIte]
   refine hK _ _ ?_; clear hK K
   refine WP.sr [4] (by kernel_rfl) fun K hK => ?_
   simp (decide := true) only [TF, ↓reduceIte]
   refine hK _ _ ?_; clear hK K
   refine WP.ret ?_
   refine EndsT.ret (by rw [hy]; rfl) ?_
   refine Ends.imp (.inr rfl) rfl (Le.of_eq (by simp (decide := true) only [St.get, W, vN, hy, ↓reduceIte])) ?_ ?_ ?_
   · simp
   · simp [lk, BClo, rN, hy]
   · simp [lk]
theorem c_numbers (s x : List UInt8) (hx : x.length ≤ 4096) (n : Int) : CallT Pr (xU n x) 97 [.ref 0 0, .str x] [(0, .box 82 [.str s, .int .i64 n])] (vU x) [(0, .box 82 [.str s, .int .i64 n])] := by
 have hcl := cut_len x 32
 refine CallT.of_wp Tryz.func97 rfl (by kernel_rfl) Tryz.ntmps97 (by simp) ?_
 simp only [frameOf, Nat.zero_add, List.map_cons, List.map_nil]
 refine WP.sr [0, 1, 4] (by kernel_rfl) fun K hK => ?_
 simp (decide := true) only [TF, ↓reduceIte]
 refine hK _ _ ?_; clear hK K
 refine WP.sr [0, 4, 5, 6, 7] (by kernel_rfl) fun K hK => ?_
 simp (decide := true) only [TF, ↓reduceIte]
 refine CallK.pure (lib_cut _ _ (by omega)) rfl rfl (by simp [-List.map_take]) ?_
 simp (decide := true) only [TF, ↓reduceIte]
 refine hK _ _ ?_; clear hK K
 refine WP.sr [0, 4, 6, 7, 8, 9] (by kernel_rfl) fun K hK => ?_
 simp (decide := true) only [TF, ↓reduceIte]
 refine CallK.pure (c_readint _ (by omega)) rfl rfl (by simp [-List.map_take]) ?_
 simp (decide := true) only [TF, rdD, ↓reduceIte]
 refine hK _ _ ?_; clear hK K
 refine WP.sr [0, 4, 7, 8, 9, 10, 11] (by kernel_rfl) fun K hK => ?_
 simp (decide := true) only [TF, ↓reduceIte]
 refine CallK.pure (c_readint _ (by omega)) rfl rfl (by simp [-List.map_take]) ?_
 simp (decide := true) only [TF, rdD, ↓reduceIte]
 refine hK _ _ ?_; clear hK K
 refine WP.seq ?_
 refine WP.block ?_
 refine WP.sr [0, 4, 8, 9, 10, 11, 28] (by kernel_rfl) fun K hK => ?_
 refine runOps.take 3 fun J hJ => ?_
 simp (decide := true) only [TF, ↓reduceIte]
 refine hJ _ _ ?_; clear hJ J
 refine runOps.part 31 rfl (fun q1 => ?_) (fun q1 => ?_)
 ·
  simp only [Bool.not_eq_true'] at q1
  have h4 : numE x = 4 := numE_4 (by simp [q1])
  simp (decide := true) only [TF, q1, ↓reduceIte]
  refine hK _ _ ?_; clear hK K
  refine WP.cond (b := true) (by rfl) (fun _ => ?_) nofun
  refine WP.callX 1 (x := .iface 78 (badV n 4)) (by kernel_rfl) rfl rfl rfl fun K hK => ?_
  simp only [List.take_succ_cons, List.take_zero]
  simp (decide := true) only [TF, ↓reduceIte]
  refine hK _ _ ?_; clear hK K
  refine CallXK.imp (c_fail s n 4) rfl rfl (by simp [lk, BClo]) (by simp [lk]) (by simp [lk]) ?_
  show EndsT _ _ _ _ _ _ _ _
  refine EndsT.panic (xU_bad h4 (by decide)) (vU_bad h4 (by decide)) ?_ ?_
  · simp [St.lay, lk, dl, BClo, W]
  · simp [lk]
 ·
  simp only [Bool.not_eq_false'] at q1
  refine runOps.take 4 fun J hJ => ?_
  simp (decide := true) only [TF, q1, ↓reduceIte]
  refine hJ _ _ ?_; clear hJ J
  refine runOps.part 35 rfl (fun q2 => ?_) (fun q2 => ?_)
  ·
   have h4 : numE x = 4 := numE_4 (by simp [q1, q2])
   simp (decide := true) only [TF, q2, ↓reduceIte]
   refine hK _ _ ?_; clear hK K
   refine WP.cond (b := true) (by rfl) (fun _ => ?_) nofun
   refine WP.callX 1 (x := .iface 78 (badV n 4)) (by kernel_rfl) rfl rfl rfl fun K hK => ?_
   simp only [List.take_succ_cons, List.take_zero]
   simp (decide := true) only [TF, ↓reduceIte]
   refine hK _ _ ?_; clear hK K
   refine CallXK.imp (c_fail s n 4) rfl rfl (by simp [lk, BClo]) (by simp [lk]) (by simp [lk]) ?_
   show EndsT _ _ _ _ _ _ _ _
   refine EndsT.panic (xU_bad h4 (by decide)) (vU_bad h4 (by decide)) ?_ ?_
   · simp [St.lay, lk, dl, BClo, W]
   · simp [lk]
  ·
   simp (decide := true) only [TF, q2, ↓reduceIte]
   refine hK _ _ ?_; clear hK K
   refine WP.cond (b := _) rfl (fun q3 => ?_) (fun q3 => ?_)
   ·
    have h4 : numE x = 4 := numE_4 (by simp [q1, q2, q3])
    refine WP.callX 1 (x := .iface 78 (badV n 4)) (by kernel_rfl) rfl rfl rfl fun K hK => ?_
    simp only [List.take_succ_cons, List.take_zero]
    simp (decide := true) only [TF, q3, ↓reduceIte]
    refine hK _ _ ?_; clear hK K
    refine CallXK.imp (c_fail s n 4) rfl rfl (by simp [lk, BClo]) (by simp [lk]) (by simp [lk]) ?_
    show EndsT _ _ _ _ _ _ _ _
    refine EndsT.panic (xU_bad h4 (by decide)) (vU_bad h4 (by decide)) ?_ ?_
    · simp [St.lay, lk, dl, BClo, W]
    · simp [lk]
   ·
    have hA : (!((Lib.cut x [32]).2.2) || (rdN (Lib.cut x [32]).1).2 == 4 || (rdN (Lib.cut x [32]).2.1).2 == 4) = false := by simp [q1, q2, q3]
    refine WP.sr [0, 4, 8, 10, 41] (by kernel_rfl) fun K hK => ?_
    refine runOps.take 3 fun J hJ => ?_
    simp (decide := true) only [TF, q3, ↓reduceIte]
    refine hJ _ _ ?_; clear hJ J
    refine runOps.part 44 rfl (fun q4 => ?_) (fun q4 => ?_)
    ·
     have h27 : numE x = 27 := numE_27 hA (by simp [q4])
     simp (decide := true) only [TF, q4, ↓reduceIte]
     refine hK _ _ ?_; clear hK K
     refine WP.cond (b := true) (by rfl) (fun _ => ?_) nofun
     refine WP.callX 1 (x := .iface 78 (badV n 27)) (by kernel_rfl) rfl rfl rfl fun K hK => ?_
     simp only [List.take_succ_cons, List.take_zero]
     simp (decide := true) only [TF, ↓reduceIte]
     refine hK _ _ ?_; clear hK K
     refine CallXK.imp (c_fail s n 27) rfl rfl (by simp [lk, BClo]) (by simp [lk]) (by simp [lk]) ?_
     show EndsT _ _ _ _ _ _ _ _
     refine EndsT.panic (xU_bad h27 (by decide)) (vU_bad h27 (by decide)) ?_ ?_
     · simp [St.lay, lk, dl, BClo, W]
     · simp [lk]
    ·
     simp (decide := true) only [TF, q4, ↓reduceIte]
     refine hK _ _ ?_; clear hK K
     refine WP.cond (b := _) rfl (fun q5 => ?_) (fun q5 => ?_)
     ·
      have h27 : numE x = 27 := numE_27 hA (by simp [q4, q5])
      refine WP.callX 1 (x := .iface 78 (badV n 27)) (by kernel_rfl) rfl rfl rfl fun K hK => ?_
      simp only [List.take_succ_cons, List.take_zero]
      simp (decide := true) only [TF, q5, ↓reduceIte]
      refine hK _ _ ?_; clear hK K
      refine CallXK.imp (c_fail s n 27) rfl rfl (by simp [lk, BClo]) (by simp [lk]) (by simp [lk]) ?_
      show EndsT _ _ _ _ _ _ _ _
      refine EndsT.panic (xU_bad h27 (by decide)) (vU_bad h27 (by decide)) ?_ ?_
      · simp [St.lay, lk, dl, BClo, W]
      · simp [lk]
     ·
      have hz : numE x = 0 := numE_z hA (by simp [q4, q5])
      have hxu : xU n x = none := by unfold xU; rw [hz, if_pos rfl]
      have hvu : vU x = .agg [.int .i64 (numF x), .int .i64 (numU x)] := by unfold vU; rw [hz, if_pos rfl]
      refine WP.skip ?_
      show WP _ _ _ _ _ _
      refine WP.sr [4] (by kernel_rfl) fun K hK => ?_
      simp (decide := true) only [TF, q5, ↓reduceIte]
      refine hK _ _ ?_; clear hK K
      refine WP.ret ?_
      refine EndsT.ret (hxu) ?_
      refine Ends.imp (.inr rfl) rfl (Le.of_eq (by rw [hvu]; simp (decide := true) only [W, Pr_prog, sz24, numF, numU])) ?_ ?_ ?_
      · simp
      · simp [lk, BClo]
      · simp [lk]
def eN (n : Nat) (p : Par) (y : List UInt8) : Int := if n = 1 then idE y else if n = 2 then adE y else if n = 3 then vaE y else keE p.keys y
def pN (n : Nat) (p : Par) (y : List UInt8) : Par := if n = 1 then { p with id := y } else if n = 2 then { p with addr := adV y } else if n = 3 then { p with f := numF y, u := numU y } else { p with keys := p.keys ++ [keR y], nk := false }
theorem loop_step {n : Nat} {p : Par} {s y r : List UInt8} (h : nx (woP n) s = some (y, r)) : loopP n p (cutA 10 [] s) = if eN n p y = 0 then loopP (n + 1) (pN n p y) (cutA 10 [] r) else (zeroP, (n : Int), eN n p y) := by
 obtain ⟨l, h1, h2⟩ := nx_cut h
 have e1 : stE n p l = eN n p y := by unfold stE eN; rw [h2]
 have e2 : stP n p l = pN n p y := by unfold stP pN; rw [h2]
 by_cases he : eN n p y = 0
 ·rw [if_pos he, loopP_next h1 (by rw [e1]; exact he), e2]
 ·rw [if_neg he, loopP_err h1 (by rw [e1]; exact he), e1]
theorem loop_ok {n : Nat} {p : Par} {s y r : List UInt8} (h : nx (woP n) s = some (y, r)) (he : eN n p y = 0) : loopP n p (cutA 10 [] s) = loopP (n + 1) (pN n p y) (cutA 10 [] r) := by rw [loop_step h, if_pos he]
theorem loop_bad {n : Nat} {p : Par} {s y r : List UInt8} {e : Int} (h : nx (woP n) s = some (y, r)) (he : eN n p y = e) (h0 : e ≠ 0) : loopP n p (cutA 10 [] s) = (zeroP, (n : Int), e) := by rw [loop_step h, he, if_neg h0]
theorem loop_nx0 {n : Nat} {p : Par} {s : List UInt8} (h : nx (woP n) s = none) (hn : n < 4 ∨ s ≠ []) : loopP n p (cutA 10 [] s) = (zeroP, (n : Int), 4) := by
 unfold nx at h
 split at h
 ·rename_i hs
  by_cases he : s = []
  ·subst he
   have hn4 : n < 4 := hn.resolve_right (by simp)
   rw [loopP_nil, finP, if_pos hn4]
  ·exact loopP_cut hs he
 ·rename_i l r hs
  have hr : rmW (woP n) l = none := by simpa using h
  have e1 : stE n p l = 4 := by unfold stE; rw [hr]
  rw [loopP_err hs (by rw [e1]; decide), e1]
theorem loop_end4 (p : Par) : loopP 4 p (cutA 10 [] []) = (zeroP, 4, 6) := by rw [loopP_nil]; rfl
theorem loop_end {n : Nat} (p : Par) (h : 4 < n) : loopP n p (cutA 10 [] []) = (p, 0, 0) := by rw [loopP_nil, finP, if_neg (by omega), if_neg (by omega)]
theorem contains_32 (x : List UInt8) : Lib.contains x [32] = x.contains 32 := by
 unfold Lib.contains
 cases h : sp 32 x with
 | none =>
  have := sp_none h
  rw [index_no 32 x this]
  simpa using this
 | some q =>
  obtain ⟨l, r⟩ := q
  obtain ⟨e, hl⟩ := sp_some h
  rw [e, index_at 32 r l hl]
  simp
def xR (r : Par × Int × Int) : Option Value := if r.2.2 = 0 then none else some (.iface 78 (badV r.2.1 r.2.2))
def vR (r : Par × Int × Int) : D := if r.2.2 = 0 then .agg r.1.cs else .junk
@[simp] theorem clo_vR {S : Nat → Prop} (r : Par × Int × Int) : Clo S (vR r) ↔ True := by unfold vR; split <;> simp
theorem xR_bad {r : Par × Int × Int} {a e : Int} (h : r = (zeroP, a, e)) (he : e ≠ 0) : xR r = some (.iface 78 (badV a e)) := by subst h; unfold xR; rw [if_neg he]
theorem vR_bad {r : Par × Int × Int} {a e : Int} (h : r = (zeroP, a, e)) (he : e ≠ 0) : vR r = .junk := by subst h; unfold vR; rw [if_neg he]
theorem xR_ok {r : Par × Int × Int} {p : Par} (h : r = (p, 0, 0)) : xR r = none := by subst h; rfl
theorem vR_ok {r : Par × Int × Int} {p : Par} (h : r = (p, 0, 0)) : vR r = .agg p.cs := by subst h; rfl
theorem idE_4 {x : List UInt8} (h : x.contains 32 = true) : idE x = 4 := by unfold idE; rw [if_pos h]
theorem idE_5 {x : List UInt8} (h : x.contains 32 = false) (h2 : wordB x = false) : idE x = 5 := by unfold idE; rw [h, h2, if_neg (by simp), if_neg (by simp)]
theorem idE_ok {x : List UInt8} (h2 : wordB x = true) : idE x = 0 := idE_0.2 h2
theorem unD_ue (x : List UInt8) : unD (unB x) = .tup [.str (adV x), .int .i64 (ueB x)] := by
 unfold adV ueB
 cases unB x <;> rfl
theorem adE_a {x : List UInt8} (h : (ueB x != 0) = true) : adE x = 4 := by
 unfold ueB at h; unfold adE
 cases hu : unB x with
 | none => rfl
 | some a => rw [hu] at h; simp at h
theorem adE_b {x : List UInt8} (h : (ueB x != 0) = false) (h2' : (!addrB (adV x)) = true) : adE x = 4 := by
 have h2 : addrB (adV x) = false := by simpa using h2'
 unfold adV at h2; unfold adE
 cases hu : unB x with
 | none => rfl
 | some a => rw [hu] at h2; simp only [Option.getD_some] at h2; simp [h2]
theorem adE_c {x : List UInt8} (h : (ueB x != 0) = false) (h2' : (!addrB (adV x)) = false) : adE x = 0 := by
 have h2 : addrB (adV x) = true := by simpa using h2'
 unfold adV at h2; unfold adE; unfold ueB at h
 cases hu : unB x with
 | none => rw [hu] at h; simp at h
 | some a => rw [hu] at h2; simp only [Option.getD_some] at h2; simp [h2]
theorem wrap4 : IntKind.wrap .i64 (3 + 1) = 4 := by rfl
theorem pN_4 (m : Nat) (p : Par) (x : List UInt8) : pN (4 + m) p x = { p with keys := p.keys ++ [keR x], nk := false } := by
 unfold pN; rw [if_neg (by omega), if_neg (by omega), if_neg (by omega)]
theorem eN_4 (m : Nat) (p : Par) (x : List UInt8) : eN (4 + m) p x = keE p.keys x := by
 unfold eN; rw [if_neg (by omega), if_neg (by omega), if_neg (by omega)]
theorem woP_4 (m : Nat) : woP (4 + m) = keW := by unfold woP; rw [if_neg (by omega), if_neg (by omega), if_neg (by omega)]
theorem c4 (m : Nat) : ((4 + m : Nat) : Int) = 4 + (m : Int) := by omega
theorem vaE_n {x : List UInt8} (h : numE x ≠ 0) : vaE x = numE x := by unfold vaE; rw [if_pos (by simpa using h)]
theorem vaE_2 {x : List UInt8} (h : numE x = 0) (h2 : winB (numF x) (numU x) = false) : vaE x = 2 := by unfold vaE; rw [h, h2]; rfl
theorem nx_num (s : List UInt8) : nx vaW s = none ∨ (∃ x r, nx vaW s = some (x, r) ∧ numE x ≠ 0) ∨ ∃ x r, nx vaW s = some (x, r) ∧ numE x = 0 := by
 cases h : nx vaW s with
 | none => exact .inl rfl
 | some q => by_cases hz : numE q.1 = 0; exact .inr (.inr ⟨q.1, q.2, rfl, hz⟩); exact .inr (.inl ⟨q.1, q.2, rfl, hz⟩)
theorem nx_key (l : List Key) (s : List UInt8) : nx keW s = none ∨ (∃ x r, nx keW s = some (x, r) ∧ keE l x ≠ 0) ∨ ∃ x r, nx keW s = some (x, r) ∧ keE l x = 0 := by
 cases h : nx keW s with
 | none => exact .inl rfl
 | some q => by_cases hz : keE l q.1 = 0; exact .inr (.inr ⟨q.1, q.2, rfl, hz⟩); exact .inr (.inl ⟨q.1, q.2, rfl, hz⟩)
theorem nx_len {w s y r : List UInt8} (h : nx w s = some (y, r)) : y.length + r.length + w.length + 2 = s.length ∧ (10 : UInt8) ∉ y := by
 obtain ⟨l, h1, h2⟩ := nx_cut h
 obtain ⟨e, hl⟩ := sp_some h1
 have := rmW_inv h2
 rw [e, this]
 refine ⟨by simp; omega, fun hm => hl ?_⟩
 rw [this]; simp [hm]
theorem c_nextS {w s y r : List UInt8} {n : Int} (hw : w.length ≤ 100) (hs : s.length ≤ 4096) (hn : 0 ≤ n) (hn2 : n ≤ 100000) (h : nx w s = some (y, r)) : CallE Pr 93 [.ref 0 0, .str w] [(0, .box 82 [.str s, .int .i64 n])] (.str y) [(0, .box 82 [.str r, .int .i64 (n + 1)])] := by
 have := c_next w s hw hs n hn hn2
 rw [h] at this
 exact this
theorem c_nextX {w s : List UInt8} {n : Int} (hw : w.length ≤ 100) (hs : s.length ≤ 4096) (hn : 0 ≤ n) (hn2 : n ≤ 100000) (h : nx w s = none) : CallT Pr (some (.iface 78 (badV (n + 1) 4))) 93 [.ref 0 0, .str w] [(0, .box 82 [.str s, .int .i64 n])] .junk [(0, .box 82 [.junk, .junk])] := by
 have := c_next w s hw hs n hn hn2
 rw [h] at this
 exact this.junkOut ⟨Le.junk _, Le.junk _, trivial⟩
theorem c_numbersS {s x : List UInt8} {n : Int} (hx : x.length ≤ 4096) (h : numE x = 0) : CallE Pr 97 [.ref 0 0, .str x] [(0, .box 82 [.str s, .int .i64 n])] (.agg [.int .i64 (numF x), .int .i64 (numU x)]) [(0, .box 82 [.str s, .int .i64 n])] := by
 have := c_numbers s x hx n
 rw [xU, vU, if_pos h, if_pos h] at this
 exact this
theorem c_numbersX {s x : List UInt8} {n : Int} (hx : x.length ≤ 4096) (h : numE x ≠ 0) : CallT Pr (some (.iface 78 (badV n (numE x)))) 97 [.ref 0 0, .str x] [(0, .box 82 [.str s, .int .i64 n])] .junk [(0, .box 82 [.junk, .junk])] := by
 have := c_numbers s x hx n
 rw [xU, vU, if_neg h, if_neg h] at this
 exact this.junkOut ⟨Le.junk _, Le.junk _, trivial⟩
theorem c_failJ (s : List UInt8) (n e : Int) : CallT Pr (some (.iface 78 (badV n e))) 95 [.ref 0 0, .int .i64 e] [(0, .box 82 [.str s, .int .i64 n])] .junk [(0, .box 82 [.junk, .junk])] := (c_fail s n e).junkOut ⟨Le.junk _, Le.junk _, trivial⟩
theorem c_unesc (s : List UInt8) (hs : s.length ≤ 1099511627776) : CallP Pr 96 [.str s] (.tup [.str (adV s), .int .i64 (ueB s)]) := unD_ue s ▸ c_unescape s hs
theorem adV_len (x : List UInt8) : (adV x).length ≤ x.length := by
 unfold adV
 cases h : unB x with
 | none => simp
 | some a => exact unB_len h
theorem c_nextX4 {s : List UInt8} (m : Nat) (hm : m ≤ 4096) (hs : s.length ≤ 4096) (h : nx keW s = none) : CallT Pr (some (.iface 78 (badV (4 + (m : Int)) 4))) 93 [.ref 0 0, .str keW] [(0, .box 82 [.str s, .int .i64 (3 + (m : Int))])] .junk [(0, .box 82 [.junk, .junk])] := by
 have := c_nextX (w := keW) (n := 3 + (m : Int)) (by decide) hs (by omega) (by omega) h
 rw [show 3 + (m : Int) + 1 = 4 + (m : Int) by omega] at this
 exact this
theorem c_nextS4 {s y r : List UInt8} (m : Nat) (hm : m ≤ 4096) (hs : s.length ≤ 4096) (h : nx keW s = some (y, r)) : CallE Pr 93 [.ref 0 0, .str keW] [(0, .box 82 [.str s, .int .i64 (3 + (m : Int))])] (.str y) [(0, .box 82 [.str r, .int .i64 (4 + (m : Int))])] := by
 have := c_nextS (w := keW) (n := 3 + (m : Int)) (by decide) hs (by omega) (by omega) h
 rw [show 3 + (m : Int) + 1 = 4 + (m : Int) by omega] at this
 exact this
theorem c_partner (s0 : List UInt8) (hs : s0.length ≤ 4096) : CallT Pr (xR (loopP 1 zeroP (cutA 10 [] s0))) 53 [.ref 0 0] [(0, .box 82 [.str s0, .int .i64 0])] (vR (loopP 1 zeroP (cutA 10 [] s0))) [(0, .box 82 [.junk, .junk])] := by
 refine CallT.of_wp Tryz.func53 rfl (by kernel_rfl) Tryz.ntmps53 (by simp) ?_
 simp only [frameOf, List.map_cons, List.map_nil]
 refine WP.sr [0, 2] (by kernel_rfl) fun K hK => ?_
 simp (decide := true) only [TF, ↓reduceIte]
 refine hK _ _ ?_; clear hK K
 refine WP.sr [0, 2, 3] (by kernel_rfl) fun K hK => ?_
 simp (decide := true) only [TF, ↓reduceIte]
 refine hK _ _ ?_; clear hK K
 rcases h1 : nx idW s0 with _ | ⟨x1, s1⟩
 ·
  have hX := loop_nx0 (n := 1) (p := zeroP) h1 (.inl (by decide))
  refine WP.seq ?_
  refine WP.callX 1 (x := .iface 78 (badV (0 + 1) (4))) (by kernel_rfl) rfl rfl rfl fun K hK => ?_
  simp only [List.take_succ_cons, List.take_zero]
  simp (decide := true) only [TF, ↓reduceIte]
  refine hK _ _ ?_; clear hK K
  refine CallXK.imp (c_nextX (n := 0) (by decide) (by omega) (by decide) (by decide) h1) rfl rfl (by simp [lk, BClo]) (by simp [lk]) (by simp [lk]) ?_
  show EndsT _ _ _ _ _ _ _ _
  refine EndsT.panic (xR_bad hX (by decide)) (vR_bad hX (by decide)) ?_ ?_
  · simp [St.lay, lk, dl, BClo, W]
  · simp [lk]
 ·
  have l1 := (nx_len h1).1
  refine WP.sr [0, 2, 3] (by kernel_rfl) fun K hK => ?_
  simp (decide := true) only [TF, ↓reduceIte]
  refine CallK.imp (c_nextS (n := 0) (by decide) (by omega) (by decide) (by decide) h1) rfl rfl (by simp [lk, BClo]) (by simp [lk]) (by simp [lk]) ?_
  simp (decide := true) only [TF, ↓reduceIte]
  refine hK _ _ ?_; clear hK K
  refine WP.seq ?_
  refine WP.sr [0, 2, 3, 15] (by kernel_rfl) fun K hK => ?_
  simp (decide := true) only [TF, ↓reduceIte]
  refine CallK.pure (contains_32 x1 ▸ lib_contains x1 [32] (by omega)) rfl rfl (by simp [fg]) ?_
  simp (decide := true) only [TF, ↓reduceIte]
  refine hK _ _ ?_; clear hK K
  refine WP.cond (b := _) rfl (fun q1 => ?_) (fun q1 => ?_)
  ·
   have hX := loop_bad (n := 1) (p := zeroP) h1 (idE_4 q1) (by decide)
   refine WP.callX 1 (x := .iface 78 (badV (1) (4))) (by kernel_rfl) rfl rfl rfl fun K hK => ?_
   simp only [List.take_succ_cons, List.take_zero]
   simp (decide := true) only [TF, q1, ↓reduceIte]
   refine hK _ _ ?_; clear hK K
   refine CallXK.imp (c_failJ s1 1 4) rfl rfl (by simp [lk, BClo]) (by simp [lk]) (by simp [lk]) ?_
   show EndsT _ _ _ _ _ _ _ _
   refine EndsT.panic (xR_bad hX (by decide)) (vR_bad hX (by decide)) ?_ ?_
   · simp [St.lay, lk, dl, BClo, W]
   · simp [lk]
  ·
   refine WP.skip ?_
   show WP _ _ _ _ _ _
   refine WP.seq ?_
   refine WP.sr [0, 2, 3, 21] (by kernel_rfl) fun K hK => ?_
   simp (decide := true) only [TF, q1, ↓reduceIte]
   refine CallK.pure (c_word x1 (by omega)) rfl rfl (by simp [-List.map_take]) ?_
   simp (decide := true) only [TF, ↓reduceIte]
   refine hK _ _ ?_; clear hK K
   refine WP.cond (b := _) rfl (fun q2 => ?_) (fun q2 => ?_)
   ·
    simp only [Bool.not_eq_true'] at q2
    have hX := loop_bad (n := 1) (p := zeroP) h1 (idE_5 (by simpa using q1) (by simpa using q2)) (by decide)
    refine WP.callX 1 (x := .iface 78 (badV (1) (5))) (by kernel_rfl) rfl rfl rfl fun K hK => ?_
    simp only [List.take_succ_cons, List.take_zero]
    simp (decide := true) only [TF, q2, ↓reduceIte]
    refine hK _ _ ?_; clear hK K
    refine CallXK.imp (c_failJ s1 1 5) rfl rfl (by simp [lk, BClo]) (by simp [lk]) (by simp [lk]) ?_
    show EndsT _ _ _ _ _ _ _ _
    refine EndsT.panic (xR_bad hX (by decide)) (vR_bad hX (by decide)) ?_ ?_
    · simp [St.lay, lk, dl, BClo, W]
    · simp [lk]
   ·
    simp only [Bool.not_eq_false'] at q2
    have ho1 := loop_ok (n := 1) (p := zeroP) h1 (idE_ok (by simpa using q2))
    refine WP.skip ?_
    show WP _ _ _ _ _ _
    rcases h2 : nx adW s1 with _ | ⟨x2, s2⟩
    ·
     have hX := ho1.trans (loop_nx0 (n := 2) h2 (.inl (by decide)))
     refine WP.seq ?_
     refine WP.callX 1 (x := .iface 78 (badV (1 + 1) (4))) (by kernel_rfl) rfl rfl rfl fun K hK => ?_
     simp only [List.take_succ_cons, List.take_zero]
     simp (decide := true) only [TF, q2, ↓reduceIte]
     refine hK _ _ ?_; clear hK K
     refine CallXK.imp (c_nextX (n := 1) (by decide) (by omega) (by decide) (by decide) h2) rfl rfl (by simp [lk, BClo]) (by simp [lk]) (by simp [lk]) ?_
     show EndsT _ _ _ _ _ _ _ _
     refine EndsT.panic (xR_bad hX (by decide)) (vR_bad hX (by decide)) ?_ ?_
     · simp [St.lay, lk, dl, BClo, W]
     · simp [lk]
    ·
     have l2 := (nx_len h2).1
     have hal := adV_len x2
     refine WP.sr [0, 2, 3, 4, 5] (by kernel_rfl) fun K hK => ?_
     simp (decide := true) only [TF, q2, ↓reduceIte]
     refine CallK.imp (c_nextS (n := 1) (by decide) (by omega) (by decide) (by decide) h2) rfl rfl (by simp [lk, BClo]) (by simp [lk]) (by simp [lk]) ?_
     simp (decide := true) only [TF, ↓reduceIte]
     refine CallK.pure (c_unesc x2 (by omega)) rfl rfl (by simp [-List.map_take]) ?_
     simp (decide := true) only [TF, ↓reduceIte]
     refine hK _ _ ?_; clear hK K
     refine WP.seq ?_
     refine WP.sr [0, 2, 3, 4, 36] (by kernel_rfl) fun K hK => ?_
     refine runOps.take 3 fun J hJ => ?_
     simp (decide := true) only [TF, ↓reduceIte]
     refine hJ _ _ ?_; clear hJ J
     refine runOps.part 32 rfl (fun q3 => ?_) (fun q3 => ?_)
     ·
      have hX := ho1.trans (loop_bad (n := 2) h2 (adE_a q3) (by decide))
      simp (decide := true) only [TF, q3, ↓reduceIte]
      refine hK _ _ ?_; clear hK K
      refine WP.cond (b := true) (by rfl) (fun _ => ?_) nofun
      refine WP.callX 1 (x := .iface 78 (badV (2) (4))) (by kernel_rfl) rfl rfl rfl fun K hK => ?_
      simp only [List.take_succ_cons, List.take_zero]
      simp (decide := true) only [TF, ↓reduceIte]
      refine hK _ _ ?_; clear hK K
      refine CallXK.imp (c_failJ s2 2 4) rfl rfl (by simp [lk, BClo]) (by simp [lk]) (by simp [lk]) ?_
      show EndsT _ _ _ _ _ _ _ _
      refine EndsT.panic (xR_bad hX (by decide)) (vR_bad hX (by decide)) ?_ ?_
      · simp [St.lay, lk, dl, BClo, W]
      · simp [lk]
     ·
      simp (decide := true) only [TF, q3, ↓reduceIte]
      refine CallK.pure (c_m_address (adV x2) (by omega)) rfl rfl (by simp [-List.map_take]) ?_
      simp (decide := true) only [TF, ↓reduceIte]
      refine hK _ _ ?_; clear hK K
      refine WP.cond (b := _) rfl (fun q4 => ?_) (fun q4 => ?_)
      ·
       have hX := ho1.trans (loop_bad (n := 2) h2 (adE_b (by assumption) (by assumption)) (by decide))
       refine WP.callX 1 (x := .iface 78 (badV (2) (4))) (by kernel_rfl) rfl rfl rfl fun K hK => ?_
       simp only [List.take_succ_cons, List.take_zero]
       simp (decide := true) only [TF, q4, ↓reduceIte]
       refine hK _ _ ?_; clear hK K
       refine CallXK.imp (c_failJ s2 2 4) rfl rfl (by simp [lk, BClo]) (by simp [lk]) (by simp [lk]) ?_
       show EndsT _ _ _ _ _ _ _ _
       refine EndsT.panic (xR_bad hX (by decide)) (vR_bad hX (by decide)) ?_ ?_
       · simp [St.lay, lk, dl, BClo, W]
       · simp [lk]
      ·
       have ho2 := ho1.trans (loop_ok (n := 2) h2 (adE_c (by assumption) (by assumption)))
       refine WP.skip ?_
       show WP _ _ _ _ _ _
       refine WP.sr [0, 2, 3] (by kernel_rfl) fun K hK => ?_
       simp (decide := true) only [TF, q4, ↓reduceIte]
       refine hK _ _ ?_; clear hK K
       rcases nx_num s2 with h3 | ⟨x3, s3, h3, h3e⟩ | ⟨x3, s3, h3, h3e⟩
       ·
        have hX := ho2.trans (loop_nx0 (n := 3) h3 (.inl (by decide)))
        refine WP.seq ?_
        refine WP.callX 2 (x := .iface 78 (badV (2 + 1) (4))) (by kernel_rfl) rfl rfl rfl fun K hK => ?_
        simp only [List.take_succ_cons, List.take_zero]
        simp (decide := true) only [TF, ↓reduceIte]
        refine hK _ _ ?_; clear hK K
        refine CallXK.imp (c_nextX (n := 2) (by decide) (by omega) (by decide) (by decide) h3) rfl rfl (by simp [lk, BClo]) (by simp [lk]) (by simp [lk]) ?_
        show EndsT _ _ _ _ _ _ _ _
        refine EndsT.panic (xR_bad hX (by decide)) (vR_bad hX (by decide)) ?_ ?_
        · simp [St.lay, lk, dl, BClo, W]
        · simp [lk]
       ·
        have l3 := (nx_len h3).1
        have hX := ho2.trans (loop_bad (n := 3) h3 (vaE_n h3e) h3e)
        refine WP.seq ?_
        refine WP.callX 3 (x := .iface 78 (badV (3) (numE x3))) (by kernel_rfl) rfl rfl rfl fun K hK => ?_
        simp only [List.take_succ_cons, List.take_zero]
        simp (decide := true) only [TF, ↓reduceIte]
        refine CallK.imp (c_nextS (n := 2) (by decide) (by omega) (by decide) (by decide) h3) rfl rfl (by simp [lk, BClo]) (by simp [lk]) (by simp [lk]) ?_
        simp (decide := true) only [TF, ↓reduceIte]
        refine hK _ _ ?_; clear hK K
        refine CallXK.imp (c_numbersX (s := s3) (n := 3) (by omega) h3e) rfl rfl (by simp [lk, BClo]) (by simp [lk]) (by simp [lk]) ?_
        show EndsT _ _ _ _ _ _ _ _
        refine EndsT.panic (xR_bad hX (by assumption)) (vR_bad hX (by assumption)) ?_ ?_
        · simp [St.lay, lk, dl, BClo, W]
        · simp [lk]
       ·
        have l3 := (nx_len h3).1
        refine WP.sr [0, 2, 3] (by kernel_rfl) fun K hK => ?_
        simp (decide := true) only [TF, ↓reduceIte]
        refine CallK.imp (c_nextS (n := 2) (by decide) (by omega) (by decide) (by decide) h3) rfl rfl (by simp [lk, BClo]) (by simp [lk]) (by simp [lk]) ?_
        simp (decide := true) only [TF, ↓reduceIte]
        refine CallK.imp (c_numbersS (s := s3) (n := 3) (by omega) h3e) rfl rfl (by simp [lk, BClo]) (by simp [lk]) (by simp [lk]) ?_
        simp (decide := true) only [TF, ↓reduceIte]
        refine hK _ _ ?_; clear hK K
        refine WP.seq ?_
        refine WP.sr [0, 2, 3, 49] (by kernel_rfl) fun K hK => ?_
        simp (decide := true) only [TF, ↓reduceIte]
        refine CallK.pure (c_m_window _ _) rfl rfl (by simp [-List.map_take]) ?_
        simp (decide := true) only [TF, ↓reduceIte]
        refine hK _ _ ?_; clear hK K
        refine WP.cond (b := _) rfl (fun q5 => ?_) (fun q5 => ?_)
        ·
         simp only [Bool.not_eq_true'] at q5
         have hX := ho2.trans (loop_bad (n := 3) h3 (vaE_2 h3e (by simpa using q5)) (by decide))
         refine WP.callX 1 (x := .iface 78 (badV (3) (2))) (by kernel_rfl) rfl rfl rfl fun K hK => ?_
         simp only [List.take_succ_cons, List.take_zero]
         simp (decide := true) only [TF, q5, ↓reduceIte]
         refine hK _ _ ?_; clear hK K
         refine CallXK.imp (c_failJ s3 3 2) rfl rfl (by simp [lk, BClo]) (by simp [lk]) (by simp [lk]) ?_
         show EndsT _ _ _ _ _ _ _ _
         refine EndsT.panic (xR_bad hX (by decide)) (vR_bad hX (by decide)) ?_ ?_
         · simp [St.lay, lk, dl, BClo, W]
         · simp [lk]
        ·
         simp only [Bool.not_eq_false'] at q5
         have ho3 := ho2.trans (loop_ok (n := 3) h3 (vaE_0.2 ⟨h3e, by simpa using q5⟩))
         refine WP.skip ?_
         show WP _ _ _ _ _ _
         refine WP.seq ?_
         refine WP.sr [0, 2, 3, 56] (by kernel_rfl) fun K hK => ?_
         simp (decide := true) only [TF, q5, ↓reduceIte]
         refine hK _ _ ?_; clear hK K
         refine WP.cond (b := _) rfl (fun q6 => ?_) (fun q6 => ?_)
         ·
          have hs3 : s3 = [] := by simpa using q6
          subst hs3
          have hX := ho3.trans (loop_end4 _)
          refine WP.sr [0, 2, 3] (by kernel_rfl) fun K hK => ?_
          simp (decide := true) only [TF, wrap4, ↓reduceIte]
          refine hK _ _ ?_; clear hK K
          refine WP.callX 1 (x := .iface 78 (badV (4) (6))) (by kernel_rfl) rfl rfl rfl fun K hK => ?_
          simp only [List.take_succ_cons, List.take_zero]
          simp (decide := true) only [TF, ↓reduceIte]
          refine hK _ _ ?_; clear hK K
          refine CallXK.imp (c_failJ [] 4 6) rfl rfl (by simp [lk, BClo]) (by simp [lk]) (by simp [lk]) ?_
          show EndsT _ _ _ _ _ _ _ _
          refine EndsT.panic (xR_bad hX (by decide)) (vR_bad hX (by decide)) ?_ ?_
          · simp [St.lay, lk, dl, BClo, W]
          · simp [lk]
         ·
          have hs3 : s3 ≠ [] := by simpa using q6
          refine WP.skip ?_
          show WP _ _ _ _ _ _
          refine WP.sr [0, 2, 3, 6] (by kernel_rfl) fun K hK => ?_
          simp (decide := true) only [TF, q6, ↓reduceIte]
          refine hK _ _ ?_; clear hK K
          refine WP.seq ?_
          refine WP.block ?_
          refine WP.lp [0, 2, 3] (X := {x : (Wds) × (Par) × (List UInt8) // match x with | (ls, p, s) => RingI ls p.keys ∧ (loopP 1 zeroP (cutA 10 [] s0)) = loopP (4 + ls.length) p (cutA 10 [] s) ∧ (ringB ls).length + s.length ≤ 4096 ∧ (ls = [] → s ≠ []) ∧ ls.length ≤ (ringB ls).length}) (fun x => match x with | ⟨(ls, p, s), _⟩ => [(6, .str (ringB ls))]) (fun x => match x with | ⟨(ls, p, s), _⟩ => [(0, .box 82 [.str s, .int .i64 (3 + (ls.length : Int))]), (1, .box 26 [.str [], .str [], .slice 0 true [] none, .int .i64 0, .int .i64 0]), (2, .box 26 [.str p.id, .str p.addr, .slice 6 p.nk (p.keys.map Key.cs) none, .int .i64 p.f, .int .i64 p.u])]) (fun x => match x with | ⟨(ls, p, s), _⟩ => s.length) (by simp (decide := true) only [W, ↓reduceIte]; rfl) ?_ ⟨([], (pN 3 (pN 2 (pN 1 zeroP x1) x2) x3), s3), ⟨RingI.nil, ho3, by have : (ringB []).length = 0 := rfl; omega, fun _ => hs3, Nat.zero_le _⟩⟩ ?_
          rotate_left
          · exact Weak.trans (Weak.boxN 2 26 _ [.str x1, .str (adV x2), .slice 6 true [] none, .int .i64 (numF x3), .int .i64 (numU x3)] rfl ⟨Le.refl _, Le.refl _, Le.nil _ _ _, Le.refl _, Le.refl _, trivial⟩) (Weak.store (by simp [St.get, lk, W, Le.refl, ringB]) (by simp [lk, W, pN, zeroP]) (by simp [lk]) (by simp [BClo, lk]) (by simp [lk]))
          rintro ⟨⟨ls, p, s⟩, ⟨hr, hb, hl, h0, hll⟩⟩
          dsimp only
          simp only [List.cons_append, List.nil_append]
          refine WP.seq ?_
          refine WP.sr [0, 2, 3, 6, 70] (by kernel_rfl) fun K hK => ?_
          simp (decide := true) only [TF, ↓reduceIte]
          refine hK _ _ ?_; clear hK K
          refine WP.cond (b := _) rfl (fun q7 => ?_) (fun q7 => ?_)
          ·
           have hse : s ≠ [] := by simpa using q7
           refine WP.skip ?_
           show WP _ _ _ _ _ _
           refine WP.block ?_
           rcases nx_key p.keys s with h4 | ⟨x4, s4, h4, h4e⟩ | ⟨x4, s4, h4, h4e⟩
           ·
            have hX := hb.trans (loop_nx0 (n := 4 + ls.length) (by rw [woP_4]; exact h4) (.inr hse))
            rw [c4] at hX
            refine WP.seq ?_
            refine WP.callX 2 (x := .iface 78 (badV ((4 + (ls.length : Int))) (4))) (by kernel_rfl) rfl rfl rfl fun K hK => ?_
            simp only [List.take_succ_cons, List.take_zero]
            simp (decide := true) only [TF, q7, ↓reduceIte]
            refine hK _ _ ?_; clear hK K
            refine CallXK.imp (c_nextX4 ls.length (by omega) (by omega) h4) rfl rfl (by simp [lk, BClo]) (by simp [lk]) (by simp [lk]) ?_
            show EndsT _ _ _ _ _ _ _ _
            refine EndsT.panic (xR_bad hX (by decide)) (vR_bad hX (by decide)) ?_ ?_
            · simp [St.lay, lk, dl, BClo, W]
            · simp [lk]
           ·
            obtain ⟨l4, n10⟩ := nx_len h4
            have hX := hb.trans (loop_bad (n := 4 + ls.length) (by rw [woP_4]; exact h4) (eN_4 _ _ _) h4e)
            rw [c4] at hX
            have hrl : (ringB (ls ++ [x4])).length ≤ 4096 := by rw [ringB_snoc]; simp only [List.length_append, List.length_cons, List.length_nil]; have : keW.length = 3 := rfl; omega
            have hpk := hr.step n10 hrl
            rw [if_neg h4e] at hpk
            have hrb := ringB_snoc ls x4
            have hne2 : (keE p.keys x4 != 0) = true := by simpa using h4e
            refine WP.sr [0, 2, 3, 6] (by kernel_rfl) fun K hK => ?_
            simp (decide := true) only [TF, q7, ↓reduceIte]
            refine CallK.imp (c_nextS4 ls.length (by omega) (by omega) h4) rfl rfl (by simp [lk, BClo]) (by simp [lk]) (by simp [lk]) ?_
            simp (decide := true) only [TF, ↓reduceIte]
            refine ⟨by simp; omega, by simp; omega, ?_⟩
            refine hK _ _ ?_; clear hK K
            refine WP.sr [0, 2, 3, 6, 7, 9] (by kernel_rfl) fun K hK => ?_
            simp (decide := true) only [TF, ↓reduceIte]
            refine CallK.pure (c_parse (ringB (ls ++ [x4])) (by omega)) rfl (by simp [hrb, fg]) (by simp [fg]) ?_
            simp (decide := true) only [TF, hpk, pKD, ↓reduceIte]
            refine hK _ _ ?_; clear hK K
            refine WP.seq ?_
            refine WP.sr [0, 2, 3, 6, 7, 9, 83] (by kernel_rfl) fun K hK => ?_
            simp (decide := true) only [TF, hne2, ↓reduceIte]
            refine hK _ _ ?_; clear hK K
            refine WP.cond (b := true) (by rfl) (fun _ => ?_) nofun
            refine WP.callX 2 (x := .iface 78 (badV ((4 + (ls.length : Int))) (keE p.keys x4))) (by kernel_rfl) rfl rfl rfl fun K hK => ?_
            simp only [List.take_succ_cons, List.take_zero]
            simp (decide := true) only [TF, ↓reduceIte]
            refine hK _ _ ?_; clear hK K
            refine CallXK.imp (c_failJ s4 (4 + (ls.length : Int)) (keE p.keys x4)) rfl rfl (by simp [lk, BClo]) (by simp [lk]) (by simp [lk]) ?_
            show EndsT _ _ _ _ _ _ _ _
            refine EndsT.panic (xR_bad hX (by assumption)) (vR_bad hX (by assumption)) ?_ ?_
            · simp [St.lay, lk, dl, BClo, W]
            · simp [lk]
           ·
            obtain ⟨l4, n10⟩ := nx_len h4
            have hrl : (ringB (ls ++ [x4])).length ≤ 4096 := by rw [ringB_snoc]; simp only [List.length_append, List.length_cons, List.length_nil]; have : keW.length = 3 := rfl; omega
            have hpk := hr.step n10 hrl
            rw [if_pos h4e] at hpk
            have hrb := ringB_snoc ls x4
            have hne2 : (p.keys ++ [keR x4]).isEmpty = false := by simp
            have hst := hb.trans (loop_ok (n := 4 + ls.length) (by rw [woP_4]; exact h4) (by rw [eN_4]; exact h4e))
            refine WP.sr [0, 2, 3, 6] (by kernel_rfl) fun K hK => ?_
            simp (decide := true) only [TF, q7, ↓reduceIte]
            refine CallK.imp (c_nextS4 ls.length (by omega) (by omega) h4) rfl rfl (by simp [lk, BClo]) (by simp [lk]) (by simp [lk]) ?_
            simp (decide := true) only [TF, ↓reduceIte]
            refine ⟨by simp; omega, by simp; omega, ?_⟩
            refine hK _ _ ?_; clear hK K
            refine WP.sr [0, 2, 3, 6, 7, 9] (by kernel_rfl) fun K hK => ?_
            simp (decide := true) only [TF, ↓reduceIte]
            refine CallK.pure (c_parse (ringB (ls ++ [x4])) (by omega)) rfl (by simp [hrb, fg]) (by simp [fg]) ?_
            simp (decide := true) only [TF, hpk, hne2, pKD, ↓reduceIte]
            refine hK _ _ ?_; clear hK K
            refine WP.seq ?_
            refine WP.sr [0, 2, 3, 6, 7, 9, 83] (by kernel_rfl) fun K hK => ?_
            simp (decide := true) only [TF, ↓reduceIte]
            refine hK _ _ ?_; clear hK K
            refine WP.cond (b := false) (by rfl) nofun (fun _ => ?_)
            refine WP.skip ?_
            show WP _ _ _ _ _ _
            refine WP.region (by kernel_rfl) fun K hK => ?_
            simp (decide := true) only [TF, ↓reduceIte]
            refine hK _ _ ?_; clear hK K
            show ∃ y, _ ∧ Weak _ _ _
            refine ⟨⟨(ls ++ [x4], pN (4 + ls.length) p x4, s4), ?_⟩, ?_, ?_⟩
            ·
             refine ⟨?_, ?_, ?_, fun e => absurd e (by simp), ?_⟩
             · have := hr.next n10 h4e; simpa [pN_4] using this
             · rw [hst]; simp [Nat.add_assoc]
             · rw [hrb]; simp only [List.length_append, List.length_cons, List.length_nil]; omega
             · rw [hrb]; simp only [List.length_append, List.length_cons, List.length_nil]; omega
            · dsimp only; omega
            · exact Weak.store (by simp [St.get, lk, Le.refl, hrb]) (by simp [lk, pN_4]; omega) (by simp [lk]) (by simp [BClo, lk]) (by simp [lk])
          ·
           have hse : s = [] := by simpa using q7
           subst hse
           have hX := hb.trans (loop_end p (by have : ls.length ≠ 0 := fun e => h0 (List.eq_nil_of_length_eq_zero e) rfl; omega))
           have hV := vR_ok hX
           refine WP.exit ?_
           show WP _ _ _ _ _ _
           refine WP.sr [2] (by kernel_rfl) fun K hK => ?_
           simp (decide := true) only [TF, ↓reduceIte]
           refine hK _ _ ?_; clear hK K
           refine WP.weak (Weak.boxN 0 82 _ [.junk, .junk] rfl ⟨Le.junk _, Le.junk _, trivial⟩) ?_
           refine WP.ret ?_
           refine EndsT.ret (xR_ok hX) ?_
           refine Ends.imp (.inr rfl) rfl (Le.of_eq (by rw [hV]; simp (decide := true) only [W, Pr_prog, sz26, Par.cs])) ?_ ?_ ?_
           · simp
           · simp [lk, W, BClo]
           · simp [lk]
end Go.Proofs
namespace Go.Id
open Go
theorem Le.agg {l m : List D} (h : Les l m) : Le (.agg l) (.agg m) := fun M γ w v hr => by
 obtain ⟨h1, h2⟩ := h.at
 cases hr with
 | @agg _ vs hl hone hr =>
  refine .agg (by rw [hl, h1]) hone fun i d v hd hv => ?_
  have hi : i < l.length := by rw [h1]; exact (List.getElem?_eq_some_iff.1 hd).1
  exact h2 i _ d (List.getElem?_eq_getElem hi) hd _ _ _ _ (hr i _ v (List.getElem?_eq_getElem hi) hv)
theorem Le.tup {l m : List D} (h : Les l m) : Le (.tup l) (.tup m) := fun M γ w v hr => by
 obtain ⟨h1, h2⟩ := h.at
 cases hr with
 | @tup _ vs hl hr =>
  refine .tup (by rw [hl, h1]) fun i d v hd hv => ?_
  have hi : i < l.length := by rw [h1]; exact (List.getElem?_eq_some_iff.1 hd).1
  exact h2 i _ d (List.getElem?_eq_getElem hi) hd _ _ _ _ (hr i _ v (List.getElem?_eq_getElem hi) hv)
end Go.Id
namespace Go.Proofs
open Go Go.Id
theorem loopP_two : ∀ (ls : Wds) (n : Nat) (p : Par), (∃ a e, loopP n p ls = (zeroP, a, e) ∧ e ≠ 0) ∨ ∃ q, loopP n p ls = (q, 0, 0) := by
 have fin : ∀ (n : Nat) (p : Par), (∃ a e, finP n p = (zeroP, a, e) ∧ e ≠ 0) ∨ ∃ q, finP n p = (q, 0, 0) := by
  intro n p
  unfold finP
  split
  ·exact .inl ⟨_, _, rfl, by decide⟩
  ·split
   ·exact .inl ⟨_, _, rfl, by decide⟩
   ·exact .inr ⟨_, rfl⟩
 intro ls
 induction ls with
 | nil => intro n p; rw [loopP]; exact fin n p
 | cons l t ih =>
  intro n p
  cases t with
  | nil =>
   rw [loopP]
   split
   ·exact fin n p
   ·exact .inl ⟨_, _, rfl, by decide⟩
  | cons m t =>
   rw [loopP]
   split
   ·exact ih _ _
   ·rename_i he
    exact .inl ⟨_, _, rfl, he⟩
theorem le_zeroP (a b : D) : Le (.tup [.agg [.str [], .str [], .slice 0 true [] none, .int .i64 0, .int .i64 0], a, b]) (.tup [.agg zeroP.cs, a, b]) :=
 Le.tup ⟨Le.agg ⟨Le.refl _, Le.refl _, Le.nil _ _ _, Le.refl _, Le.refl _, trivial⟩, Le.refl _, Le.refl _, trivial⟩
theorem rep_badV (M : Nat → Nat → Prop) (γ : Nat → Option G) (w : World) (t : TypeId) (n e : Int) : Rep M γ w (.iface t (.agg [.int .i64 n, .int .i64 e])) (.iface t (badV n e)) := by
 refine .iface (.agg (cs := [D.int .i64 n, D.int .i64 e]) rfl (fun i v hv => ?_) fun i d v hd hv => ?_)
 ·match i with
  | 0 => simp at hv; subst hv; rfl
  | 1 => simp at hv; subst hv; rfl
  | i + 2 => simp at hv
 ·match i with
  | 0 => simp at hd hv; subst hd; subst hv; exact .int _ _
  | 1 => simp at hd hv; subst hd; subst hv; exact .int _ _
  | i + 2 => simp at hd
theorem c_partner_at (a : Nat) (s0 : List UInt8) (hs : s0.length ≤ 4096) : CallT Pr (xR (loopP 1 zeroP (cutA 10 [] s0))) 53 [.ref a 0] [(a, .box 82 [.str s0, .int .i64 0])] (vR (loopP 1 zeroP (cutA 10 [] s0))) [(a, .box 82 [.junk, .junk])] := by
 obtain ⟨f, g, h1, h2⟩ := ren_ex [a] (by simp)
 have := CallT.rename h1 (c_partner s0 hs)
 have f0 : f 0 = a := h2 0 a rfl
 have e : renD f (vR (loopP 1 zeroP (cutA 10 [] s0))) = vR (loopP 1 zeroP (cutA 10 [] s0)) := by
  unfold vR
  split
  ·simp [renD, Par.cs, renL, ren_keys]
  ·rfl
 rw [e] at this
 simpa [renS, renB, renD, renL, f0] using this
set_option maxRecDepth 10000
set_option maxHeartbeats 4000000
theorem c_m_parse (s : List UInt8) (hs : s.length ≤ 1099511627776) : CallP Pr 17 [.str s] (pPD (pP s)) := by
  by_cases hlong : 4096 < s.length
  · have hv : pP s = (zeroP, 0, 3) := by unfold pP; rw [if_pos hlong]
    rw [hv]
    refine CallP.of_wp Tryz.func17 rfl (by kernel_rfl) Tryz.ntmps17 (by simp) ?_
    simp only [frameOf]
    refine WP.sr [0, 2, 3, 4] (by kernel_rfl) fun K hK => ?_
    simp (decide := true) only [TF, EV, ↓reduceIte]
    refine hK _ _ ?_
    clear hK K
    refine WP.seq ?_
    refine WP.sr [0, 2, 3, 4, 7] (by kernel_rfl) fun K hK => ?_
    simp (decide := true) only [TF, EV, ↓reduceIte]
    refine hK _ _ ?_
    clear hK K
    refine WP.cond (b := _) rfl (fun q1 => ?_) (fun q1 => ?_)
    · refine WP.sr [0, 2, 3, 4] (by kernel_rfl) fun K hK => ?_
      simp (decide := true) only [TF, EV, ↓reduceIte]
      refine hK _ _ ?_
      clear hK K
      refine WP.ret ?_
      refine Ends.pure (.inr rfl) rfl (Le.trans (Le.of_eq ?_) (le_zeroP _ _)) ?_
      · simp (decide := true) only [TF, sz26]
      · simp [pPD, zeroP, Par.cs]
    · exfalso
      simp at q1
      omega
  · have hv : pP s = loopP 1 zeroP (cutA 10 [] s) := by unfold pP; rw [if_neg hlong]
    rw [hv]
    refine CallP.of_defer (q1 := _) (q2 := _) (o1 := _) (o2 := _) (call1 := _) (call2 := _) (st1 := ⟨[(0, .str s), (2, .ref 0 0), (3, .ref 1 0), (4, .ref 2 0)], [(0, .box 26 [.str [], .str [], .slice 0 true [] none, .int .i64 0, .int .i64 0]), (1, .box 3 [.int .i64 0]), (2, .box 29 [.int .i64 0])]⟩)
      Tryz.func17 rfl (by kernel_rfl) Tryz.ntmps17 (by simp) rfl rfl rfl rfl rfl rfl rfl rfl (by decide) Tryz.func52 rfl Tryz.ntmps52 rfl (by kernel_rfl) rfl rfl rfl rfl rfl rfl rfl rfl rfl (by decide) (by decide) (by decide) (by decide) (by decide) rfl ?_ ?_ ?_
    · simp [pPD, Par.cs]
    · simp only [frameOf]
      refine WP.region (by kernel_rfl) fun K hK => ?_
      simp (decide := true) only [TF, EV, ↓reduceIte]
      refine hK _ _ ⟨rfl, ?_⟩
      clear hK K
      refine WP.sr [0, 2, 3, 4, 7] (by kernel_rfl) fun K hK => ?_
      simp (decide := true) only [TF, EV, ↓reduceIte]
      refine hK _ _ ?_
      clear hK K
      refine WP.cond (b := _) rfl (fun q1 => ?_) (fun q1 => ?_)
      · exfalso
        simp at q1
        omega
      · refine WP.skip ⟨rfl, ?_⟩
        exact Weak.store (by simp [St.get, lk, W, Le.refl]) (by simp [lk]) (by simp [lk]) (by simp [BClo, lk]) (by simp [lk, MS])
    · simp only [List.map_cons, List.map_nil]
      rcases loopP_two (cutA 10 [] s) 1 zeroP with ⟨a, e, hX, he⟩ | ⟨q, hX⟩
      · have hc := c_partner_at 3 s (by omega)
        rw [xR_bad hX he, vR_bad hX he] at hc
        rw [hX]
        refine WP.seq ?_
        refine WP.callX 3 (x := .iface 78 (badV a e)) (by kernel_rfl) rfl rfl rfl fun K hK => ?_
        simp only [List.take_succ_cons, List.take_zero]
        simp (decide := true) only [TF, EV, ↓reduceIte]
        refine hK _ _ ?_
        clear hK K
        refine CallXK.imp hc rfl rfl (by simp [lk, BClo]) (by simp [lk]) (by simp [lk]) ?_
        refine ⟨_, _, .iface 78 (.agg [.int .i64 a, .int .i64 e]), _, .yes _, .inr ⟨rfl, rfl⟩, fun M γ w => rep_badV M γ w 78 a e, ?_⟩
        simp (decide := true) only [St.lay, lk, dl, frameOf, TF, Nat.reduceAdd, ↓reduceIte]
        refine WP.sr [0, 1, 2, 3, 8] (by kernel_rfl) fun K hK => ?_
        simp (decide := true) only [TF, EV, ↓reduceIte]
        refine hK _ _ ?_
        clear hK K
        refine WP.cond (b := true) rfl (fun _ => ?_) (fun q1 => by cases q1)
        refine WP.sr [0, 1, 2, 4] (by kernel_rfl) fun K hK => ?_
        simp (decide := true) only [TF, EV, ↓reduceIte]
        refine hK _ _ ?_
        clear hK K
        refine WP.drawn (by kernel_rfl) (by kernel_rfl) fun K hK => ?_
        simp (decide := true) only [TF, EV, ↓reduceIte]
        refine hK _ _ (by kernel_rfl) ?_
        clear hK K
        refine ⟨.inl rfl, _, rfl, Le.trans (Le.of_eq ?_) (le_zeroP _ _)⟩
        simp (decide := true) only [TF, sz26]
      · have hc := c_partner_at 3 s (by omega)
        rw [xR_ok hX, vR_ok hX] at hc
        simp only [Par.cs] at hc
        rw [hX]
        refine WP.sr [0, 2, 3, 4] (by kernel_rfl) fun K hK => ?_
        simp (decide := true) only [TF, EV, ↓reduceIte]
        refine CallK.imp hc rfl rfl (by simp [lk, BClo]) (by simp [lk]) (by simp [lk]) ?_
        simp (decide := true) only [TF, EV, ↓reduceIte]
        refine hK _ _ ?_
        clear hK K
        refine WP.ret ?_
        refine ⟨_, _, .niliface, _, .no, .inl ⟨.inr rfl, rfl⟩, fun M γ w => .niliface, ?_⟩
        simp (decide := true) only [lk, frameOf, TF, Nat.reduceAdd, ↓reduceIte]
        refine WP.sr [0, 1, 2, 3, 8] (by kernel_rfl) fun K hK => ?_
        simp (decide := true) only [TF, EV, ↓reduceIte]
        refine hK _ _ ?_
        clear hK K
        refine WP.cond (b := false) rfl (fun q1 => by cases q1) (fun _ => ?_)
        refine WP.skip ⟨.inl rfl, _, rfl, Le.of_eq ?_⟩
        simp (decide := true) only [TF, sz26, pPD, Par.cs]
def sigB (k : Key) (s : List UInt8) : List UInt8 := k.id ++ [58] ++ macB k.sec s
def signP (l : List Key) (s : List UInt8) (now : Int) : List UInt8 × Int := if eqK (sgK l now) zeroK = true then ([], 26) else (sigB (sgK l now) s, 0)
def sameP (a b : Par) : Bool := a.id == b.id && (a.addr == b.addr && ((a.f == b.f && a.u == b.u) && sameK a.keys b.keys))
def greatP (p : Par) : Bool := decide ((p.id.length : Int) > 300) || decide ((p.addr.length : Int) > 300) || greatB p.keys 20
theorem macB_len (k s : List UInt8) : (macB k s).length = 16 := txtB_len _
theorem sgK_ok {l : List Key} (now : Int) (h : ∀ k ∈ l, k.ok) : (sgK l now).ok := by
 cases he : eqK (sgK l now) zeroK with
 | true => rw [(eqK_iff _ _).1 he]; exact zeroK_ok
 | false => exact h _ (sgK_some he).2.1
theorem rm_yes {w s : List UInt8} (h : w.length < s.length) (h1 : s.take w.length = w) (h2 : s[w.length] = 32) : rmW w s = some (s.drop (w.length + 1)) := by
 have e : s = (w ++ [32]) ++ s.drop (w.length + 1) := by
  have := List.take_append_drop w.length s
  rw [h1, List.drop_eq_getElem_cons h, h2] at this
  simpa using this.symm
 unfold rmW
 rw [if_pos]
 rw [List.isPrefixOf_iff_prefix]
 exact ⟨_, e.symm⟩
theorem rm_pre {w s : List UInt8} (h : (rmW w s).isSome = true) : ∃ t, s = w ++ 32 :: t := by
 unfold rmW at h
 split at h
 ·rename_i hp
  rw [List.isPrefixOf_iff_prefix] at hp
  obtain ⟨t, ht⟩ := hp
  exact ⟨t, by rw [← ht]; simp⟩
 ·cases h
theorem rm_no1 {w s : List UInt8} (h : s.length ≤ w.length) : rmW w s = none := by
 cases hr : rmW w s with
 | none => rfl
 | some x =>
  obtain ⟨t, rfl⟩ := rm_pre (by rw [hr]; rfl)
  simp at h; omega
theorem rm_no2 {w s : List UInt8} (h : s.take w.length ≠ w) : rmW w s = none := by
 cases hr : rmW w s with
 | none => rfl
 | some x =>
  obtain ⟨t, rfl⟩ := rm_pre (by rw [hr]; rfl)
  simp at h
theorem rm_no3 {w s : List UInt8} (hl : w.length < s.length) (h : s[w.length] ≠ 32) : rmW w s = none := by
 cases hr : rmW w s with
 | none => rfl
 | some x =>
  obtain ⟨t, rfl⟩ := rm_pre (by rw [hr]; rfl)
  simp at h
theorem u32_eq {c : UInt8} (h : ((c.toNat : Int) != 32) = false) : c = 32 := by
 have : c.toNat = 32 := by have := bne_eq_false_iff_eq.1 h; omega
 exact UInt8.toNat_inj.1 this
theorem u32_ne {c : UInt8} (h : ((c.toNat : Int) != 32) = true) : c ≠ 32 := by
 rintro rfl
 simp at h
theorem rm_len {w s y : List UInt8} (h : rmW w s = some y) : y.length ≤ s.length := by
 unfold rmW at h
 split at h
 ·cases h; simp
 ·cases h
theorem c_m_signature (k : Key) (s : List UInt8) (hk : k.ok) (hs : s.length ≤ 1099511627776) : CallP Pr 57 [.agg [.str k.id, .str k.sec, .int .i64 k.sf, .int .i64 k.su, .int .i64 k.af, .int .i64 k.au], .str s] (.str (sigB k s)) := by
 refine CallP.W Tryz.func57 Tryz.ntmps57 ?_
 simp only [frameOf, Nat.zero_add]
 refine WP.S [1, 2, 4] fun _ z => ?_; simp +decide only [TF, ↓reduceIte]; apply z; clear z
 refine WP.D [1, 2, 4] fun _ z => ?_
 simp +decide only [TF, ↓reduceIte]
 refine ⟨by have := hk.1; omega, ?_⟩
 refine CallK.pure (c_mac k.sec s hk.2 hs) rfl (by simp [fg]) (by simp) ?_
 simp +decide only [TF, ↓reduceIte]
 refine ⟨by have := hk.1; have := macB_len k.sec s; simp; omega, ?_⟩
 refine z _ _ (by kernel_rfl) ?_; clear z
 apply WP.ret
 exact Ends.P rfl (Le.of_eq (by simp +decide only [St.get, W, sigB, ↓reduceIte]))
theorem c_r_signature (k : Key) (s : List UInt8) (hk : k.ok) (hs : s.length ≤ 1099511627776) : CallP Pr 59 [.agg [.str k.id, .str k.sec, .int .i64 k.sf, .int .i64 k.su, .int .i64 k.af, .int .i64 k.au], .str s] (.str (sigB k s)) := by
 refine CallP.W Tryz.func59 Tryz.ntmps59 ?_
 simp only [frameOf, Nat.zero_add]
 refine WP.S [1, 2, 4] fun _ z => ?_; simp +decide only [TF, ↓reduceIte]; apply z; clear z
 refine WP.D [1, 2, 4] fun _ z => ?_
 simp +decide only [TF, ↓reduceIte]
 refine ⟨by have := hk.1; omega, ?_⟩
 refine CallK.pure (c_r_mac k.sec s hk.2 hs) rfl (by simp [fg]) (by simp) ?_
 simp +decide only [TF, ↓reduceIte]
 refine ⟨by have := hk.1; have := macB_len k.sec s; simp; omega, ?_⟩
 refine z _ _ (by kernel_rfl) ?_; clear z
 apply WP.ret
 exact Ends.P rfl (Le.of_eq (by simp +decide only [St.get, W, sigB, ↓reduceIte]))
abbrev s_m_sign : List Nat := [0, 1, 2, 6, 7, 8, 9, 17]
theorem c_m_sign (l : List Key) (nl : Bool) (hn : l.length ≤ 1099511627776) (hnl : nl = true → l = []) (hl : ∀ k ∈ l, k.ok) (s : List UInt8) (hs : s.length ≤ 1099511627776) (now : Int) : CallP Pr 20 [.slice 6 nl (l.map Key.cs) none, .str s, .int .i64 now] (.tup [.str (signP l s now).1, .int .i64 (signP l s now).2]) := by
 have hok := sgK_ok now hl
 refine CallP.W Tryz.func20 Tryz.ntmps20 ?_
 simp only [frameOf, Nat.reduceAdd, Nat.zero_add]
 refine WP.S s_m_sign fun _ z => ?_; simp +decide only [TF, ↓reduceIte]; apply z; clear z
 refine WP.S s_m_sign fun _ z => ?_
 simp +decide only [TF, ↓reduceIte]
 refine CallK.P (c_signing l nl now hn hnl hl) rfl rfl ?_
 simp +decide only [TF, ↓reduceIte]
 apply z; clear z
 iterate 2 first | (refine WP.S s_m_sign fun _ z => ?_; simp +decide only [TF, ↓reduceIte]; apply z; clear z) | apply WP.seq
 refine WP.cond rfl (fun q1 => ?_) (fun q1 => ?_)
 ·simp only [Bool.not_eq_true', Bool.not_eq_false'] at q1
  refine WP.S s_m_sign fun _ z => ?_; simp +decide only [TF, q1, ↓reduceIte]; apply z; clear z
  apply WP.ret
  exact Ends.P (d := .tup [_, _]) rfl (Le.of_eq (by simp +decide only [St.get, lk, W, signP, q1, ↓reduceIte]))
 simp only [Bool.not_eq_true', Bool.not_eq_false'] at q1
 apply WP.skip; show WP ..
 refine WP.S s_m_sign fun _ z => ?_
 simp +decide only [TF, q1, ↓reduceIte]
 refine CallK.P (c_m_signature (sgK l now) s hok hs) rfl rfl ?_
 simp +decide only [TF, ↓reduceIte]
 apply z; clear z
 apply WP.ret
 exact Ends.P (d := .tup [_, _]) rfl (Le.of_eq (by simp +decide only [St.get, lk, W, signP, q1, ↓reduceIte]))
abbrev s_r_sign : List Nat := [0, 1, 2, 6, 7, 8, 9, 17]
theorem c_r_sign (l : List Key) (nl : Bool) (hn : l.length ≤ 1099511627776) (hnl : nl = true → l = []) (hl : ∀ k ∈ l, k.ok) (s : List UInt8) (hs : s.length ≤ 1099511627776) (now : Int) : CallP Pr 21 [.slice 6 nl (l.map Key.cs) none, .str s, .int .i64 now] (.tup [.str (signP l s now).1, .int .i64 (signP l s now).2]) := by
 have hok := sgK_ok now hl
 refine CallP.W Tryz.func21 Tryz.ntmps21 ?_
 simp only [frameOf, Nat.reduceAdd, Nat.zero_add]
 refine WP.S s_r_sign fun _ z => ?_; simp +decide only [TF, ↓reduceIte]; apply z; clear z
 refine WP.S s_r_sign fun _ z => ?_
 simp +decide only [TF, ↓reduceIte]
 refine CallK.P (c_r_signing l nl now hn hnl hl) rfl rfl ?_
 simp +decide only [TF, ↓reduceIte]
 apply z; clear z
 iterate 2 first | (refine WP.S s_r_sign fun _ z => ?_; simp +decide only [TF, ↓reduceIte]; apply z; clear z) | apply WP.seq
 refine WP.cond rfl (fun q1 => ?_) (fun q1 => ?_)
 ·simp only [Bool.not_eq_true', Bool.not_eq_false'] at q1
  refine WP.S s_r_sign fun _ z => ?_; simp +decide only [TF, q1, ↓reduceIte]; apply z; clear z
  apply WP.ret
  exact Ends.P (d := .tup [_, _]) rfl (Le.of_eq (by simp +decide only [St.get, lk, W, signP, q1, ↓reduceIte]))
 simp only [Bool.not_eq_true', Bool.not_eq_false'] at q1
 apply WP.skip; show WP ..
 refine WP.S s_r_sign fun _ z => ?_
 simp +decide only [TF, q1, ↓reduceIte]
 refine CallK.P (c_r_signature (sgK l now) s hok hs) rfl rfl ?_
 simp +decide only [TF, ↓reduceIte]
 apply z; clear z
 apply WP.ret
 exact Ends.P (d := .tup [_, _]) rfl (Le.of_eq (by simp +decide only [St.get, lk, W, signP, q1, ↓reduceIte]))
theorem c_r_same43 (p q : Par) (hp : p.ok) (hq : q.ok) : CallP Pr 18 [.agg [.str p.id, .str p.addr, .slice 6 p.nk (p.keys.map Key.cs) none, .int .i64 p.f, .int .i64 p.u], .agg [.str q.id, .str q.addr, .slice 6 q.nk (q.keys.map Key.cs) none, .int .i64 q.f, .int .i64 q.u]] (.bool (sameP p q)) := by
 refine CallP.W Tryz.func18 Tryz.ntmps18 ?_
 simp only [frameOf, Nat.zero_add]
 refine WP.S [2, 3, 4] fun _ z => ?_; simp +decide only [TF, ↓reduceIte]; apply z; clear z
 refine WP.S [2, 3, 4] fun _ z => ?_
 refine runOps.take 6 fun J hJ => ?_
 simp +decide only [TF, ↓reduceIte]
 refine hJ _ _ ?_; clear hJ J
 refine runOps.part 10 rfl (fun q1 => ?_) (fun q1 => ?_)
 ·refine runOps.take 7 fun J hJ => ?_
  simp +decide only [TF, q1, ↓reduceIte]
  refine hJ _ _ ?_; clear hJ J
  refine runOps.part 17 rfl (fun q2 => ?_) (fun q2 => ?_)
  ·refine runOps.take 7 fun J hJ => ?_
   simp +decide only [TF, q2, ↓reduceIte]
   refine hJ _ _ ?_; clear hJ J
   refine runOps.part 24 rfl (fun q3 => ?_) (fun q3 => ?_)
   ·simp +decide only [TF, q3, ↓reduceIte]
    refine CallK.P (c_r_same p.keys p.nk q.keys q.nk hp.2.2.1 hp.2.2.2.1 hq.2.2.1 hq.2.2.2.1) rfl rfl ?_
    simp +decide only [TF, ↓reduceIte]
    apply z; clear z
    apply WP.ret
    exact Ends.P rfl (Le.of_eq (by simp +decide only [St.get, W, sameP, q1, q2, q3, ↓reduceIte]))
   simp +decide only [TF, q3, ↓reduceIte]
   apply z; clear z
   apply WP.ret
   exact Ends.P rfl (Le.of_eq (by simp +decide only [St.get, W, sameP, q1, q2, q3, ↓reduceIte]))
  simp +decide only [TF, q2, ↓reduceIte]
  apply z; clear z
  apply WP.ret
  exact Ends.P rfl (Le.of_eq (by simp +decide only [St.get, W, sameP, q1, q2, ↓reduceIte]))
 simp +decide only [TF, q1, ↓reduceIte]
 apply z; clear z
 apply WP.ret
 exact Ends.P rfl (Le.of_eq (by simp +decide only [St.get, W, sameP, q1, ↓reduceIte]))
theorem c_r_great43 (p : Par) (hn : p.keys.length ≤ 9223372036854775807) (hnl : p.nk = true → p.keys = []) : CallP Pr 11 [.agg [.str p.id, .str p.addr, .slice 6 p.nk (p.keys.map Key.cs) none, .int .i64 p.f, .int .i64 p.u]] (.bool (greatP p)) := by
 refine CallP.W Tryz.func11 Tryz.ntmps11 ?_
 simp only [frameOf]
 refine WP.S [1, 2] fun _ z => ?_; simp +decide only [TF, ↓reduceIte]; apply z; clear z
 refine WP.S [1, 2] fun _ z => ?_
 refine runOps.take 5 fun J hJ => ?_
 simp +decide only [TF, ↓reduceIte]
 refine hJ _ _ ?_; clear hJ J
 refine runOps.part 7 rfl (fun q1 => ?_) (fun q1 => ?_)
 ·simp +decide only [TF, q1, ↓reduceIte]
  apply z; clear z
  apply WP.ret
  exact Ends.P rfl (Le.of_eq (by simp +decide only [St.get, W, greatP, q1, ↓reduceIte]))
 refine runOps.take 6 fun J hJ => ?_
 simp +decide only [TF, q1, ↓reduceIte]
 refine hJ _ _ ?_; clear hJ J
 refine runOps.part 13 rfl (fun q2 => ?_) (fun q2 => ?_)
 ·simp +decide only [TF, q2, ↓reduceIte]
  apply z; clear z
  apply WP.ret
  exact Ends.P rfl (Le.of_eq (by simp +decide only [St.get, W, greatP, q1, q2, ↓reduceIte]))
 simp +decide only [TF, q2, ↓reduceIte]
 refine CallK.P (c_great p.keys p.nk 20 hn hnl) rfl rfl ?_
 simp +decide only [TF, ↓reduceIte]
 apply z; clear z
 apply WP.ret
 exact Ends.P rfl (Le.of_eq (by simp +decide only [St.get, W, greatP, q1, q2, ↓reduceIte]))
abbrev s_r_after : List Nat := [0, 1, 4, 5, 6, 25]
theorem c_r_after (w s : List UInt8) (hw : w.length ≤ 100) (hs : s.length ≤ 1099511627776) : CallP Pr 99 [.str s, .str w] (.tup [.str ((rmW w s).getD []), .bool (rmW w s).isSome]) := by
 refine CallP.W Tryz.func99 Tryz.ntmps99 ?_
 simp only [frameOf, Nat.zero_add]
 iterate 3 first | (refine WP.S s_r_after fun _ z => ?_; simp +decide only [TF, ↓reduceIte]; apply z; clear z) | apply WP.seq
 refine WP.S s_r_after fun _ z => ?_
 refine runOps.take 5 fun J hJ => ?_
 simp +decide only [TF, ↓reduceIte]
 refine hJ _ _ ?_; clear hJ J
 refine runOps.part 13 rfl (fun q1 => ?_) (fun q1 => ?_)
 ·have hr := rm_no1 (w := w) (s := s) (by have := of_decide_eq_true q1; omega)
  simp +decide only [TF, q1, ↓reduceIte]
  apply z; clear z
  iterate 2 first | (refine WP.S s_r_after fun _ z => ?_; simp +decide only [TF, ↓reduceIte]; apply z; clear z) | refine WP.cT ?_
  apply WP.ret
  exact Ends.P (d := .tup [_, _]) rfl (Le.of_eq (by simp [St.get, lk, W, hr]))
 have hlt : w.length < s.length := by have := of_decide_eq_false q1; omega
 have hle : w.length ≤ s.length := by omega
 have hg : s[w.length]? = some s[w.length] := getE hlt
 refine runOps.take 7 fun J hJ => ?_
 simp +decide only [TF, q1, hle, ↓reduceIte]
 refine hJ _ _ ?_; clear hJ J
 refine runOps.part 20 rfl (fun q2 => ?_) (fun q2 => ?_)
 ·have hr := rm_no2 (w := w) (s := s) (by simpa using q2)
  simp +decide only [TF, q2, ↓reduceIte]
  apply z; clear z
  iterate 2 first | (refine WP.S s_r_after fun _ z => ?_; simp +decide only [TF, ↓reduceIte]; apply z; clear z) | refine WP.cT ?_
  apply WP.ret
  exact Ends.P (d := .tup [_, _]) rfl (Le.of_eq (by simp [St.get, lk, W, hr]))
 have hpre : s.take w.length = w := by simpa using q2
 simp +decide only [TF, hg, q2, ↓reduceIte]
 apply z; clear z
 refine WP.cond rfl (fun q3 => ?_) (fun q3 => ?_)
 ·have hr := rm_no3 (w := w) (s := s) hlt (u32_ne (by assumption))
  refine WP.S s_r_after fun _ z => ?_; simp +decide only [TF, q3, ↓reduceIte]; apply z; clear z
  apply WP.ret
  exact Ends.P (d := .tup [_, _]) rfl (Le.of_eq (by simp [St.get, lk, W, hr]))
 have hr := rm_yes (w := w) (s := s) hlt hpre (u32_eq (by assumption))
 have hw1 : IntKind.wrap .i64 ((w.length : Int) + 1) = ((w.length + 1 : Nat) : Int) := by rw [wrap_i64 (by omega) (by omega)]; rfl
 have hle1 : w.length + 1 ≤ s.length := by omega
 iterate 2 first | (refine WP.S s_r_after fun _ z => ?_; simp +decide only [TF, q3, hw1, hle1, ↓reduceIte]; apply z; clear z) | (apply WP.skip; show WP ..)
 apply WP.ret
 exact Ends.P (d := .tup [_, _]) rfl (Le.of_eq (by simp [St.get, lk, W, hr]))
theorem rdN_32 {s : List UInt8} (h : (32 : UInt8) ∈ s) : (rdN s).2 = 4 := by
 have key : ∀ (t : List UInt8) (z : Bool), (32 : UInt8) ∈ t → decOk t z = false := by
  intro t z ht
  cases hd : decOk t z with
  | false => rfl
  | true =>
   have := List.all_eq_true.1 (decOk_all hd) _ ht
   simp [dgB] at this
 unfold rdN
 split
 ·rfl
 ·rename_i c t
  split
  ·rename_i hc
   subst hc
   have ht : (32 : UInt8) ∈ t := by simpa using h
   rw [if_neg (by rw [key t false ht]; simp)]
  ·rw [if_neg (by rw [key _ true h]; simp)]
def vaV (x : List UInt8) : Int × Int := if vaE x = 0 then (numF x, numU x) else (0, 0)
theorem vaV_0 {x : List UInt8} (h : vaE x = 0) : vaV x = (numF x, numU x) := by unfold vaV; rw [if_pos h]
theorem vaV_n {x : List UInt8} {e : Int} (h : vaE x = e) (he : e ≠ 0) : vaV x = (0, 0) := by unfold vaV; rw [if_neg (by rw [h]; exact he)]
theorem va_cases (x : List UInt8) : ((((cutA 32 [] x).length : Int) != 2) = true ∧ vaE x = 4) ∨
  ∃ a b, cutA 32 [] x = [a, b] ∧ a.length + b.length ≤ x.length ∧ numF x = (rdN a).1 ∧ numU x = (rdN b).1 ∧
   numE x = if ((rdN a).2 == 4 || (rdN b).2 == 4) = true then 4 else if ((rdN a).2 != 0 || (rdN b).2 != 0) = true then 27 else 0 := by
 cases h : sp 32 x with
 | none =>
  refine .inl ⟨by rw [cutA_none h]; rfl, vaE_n (x := x) ?_ ▸ ?_⟩
  ·unfold numE; rw [cut_no h]; simp
  ·unfold numE; rw [cut_no h]; simp
 | some q =>
  obtain ⟨a, r⟩ := q
  have hc := cut_at h
  obtain ⟨hx, _⟩ := sp_some h
  cases h2 : sp 32 r with
  | none =>
   refine .inr ⟨a, r, by rw [cutA_at h, cutA_none h2], by rw [hx]; simp, by unfold numF; rw [hc], by unfold numU; rw [hc], ?_⟩
   unfold numE; rw [hc]; simp
  | some q2 =>
   obtain ⟨b, t⟩ := q2
   obtain ⟨hr, _⟩ := sp_some h2
   have h4 : (rdN r).2 = 4 := rdN_32 (by rw [hr]; simp)
   have hn : numE x = 4 := by unfold numE; rw [hc]; simp [h4]
   refine .inl ⟨?_, by rw [vaE_n (by rw [hn]; decide), hn]⟩
   rw [cutA_at h, cutA_at h2]
   obtain ⟨l, t', ht⟩ := cutA_cons 32 t
   rw [ht]
   simp; omega
theorem va_4 {x a b : List UInt8} (hn : numE x = if ((rdN a).2 == 4 || (rdN b).2 == 4) = true then 4 else if ((rdN a).2 != 0 || (rdN b).2 != 0) = true then 27 else 0) (h : ((rdN a).2 == 4 || (rdN b).2 == 4) = true) : vaE x = 4 := by
 rw [if_pos h] at hn; rw [vaE_n (by rw [hn]; decide), hn]
theorem va_27 {x a b : List UInt8} (hn : numE x = if ((rdN a).2 == 4 || (rdN b).2 == 4) = true then 4 else if ((rdN a).2 != 0 || (rdN b).2 != 0) = true then 27 else 0) (h : ((rdN a).2 == 4 || (rdN b).2 == 4) = false) (h' : ((rdN a).2 != 0 || (rdN b).2 != 0) = true) : vaE x = 27 := by
 rw [if_neg (by rw [h]; simp), if_pos h'] at hn; rw [vaE_n (by rw [hn]; decide), hn]
theorem va_0 {x a b : List UInt8} (hn : numE x = if ((rdN a).2 == 4 || (rdN b).2 == 4) = true then 4 else if ((rdN a).2 != 0 || (rdN b).2 != 0) = true then 27 else 0) (h : ((rdN a).2 == 4 || (rdN b).2 == 4) = false) (h' : ((rdN a).2 != 0 || (rdN b).2 != 0) = false) : numE x = 0 := by
 rw [if_neg (by rw [h]; simp), if_neg (by rw [h']; simp)] at hn; exact hn
end Go.Proofs
namespace Go.Proofs
open Go Go.Id
def keD (l : List Key) (x : List UInt8) : D := if keE l x = 0 then .tup [.slice 6 false ((l ++ [keR x]).map Key.cs) none, .int .i64 0] else .tup [.slice 6 true [] none, .int .i64 (keE l x)]
theorem keD_e {l : List Key} {x : List UInt8} {e : Int} (h : keE l x = e) (he : e ≠ 0) : keD l x = .tup [.slice 6 true [] none, .int .i64 e] := by unfold keD; rw [if_neg (by rw [h]; exact he), h]
theorem keD_0 {l : List Key} {x : List UInt8} (h : keE l x = 0) : keD l x = .tup [.slice 6 false ((l ++ [keR x]).map Key.cs) none, .int .i64 0] := by unfold keD; rw [if_pos h]
theorem ke_1 {l : List Key} {x : List UInt8} (h : ((rdK (cutA 32 [] x)).2 != 0) = true) : keE l x = (rdK (cutA 32 [] x)).2 := by unfold keE; rw [if_pos h]
theorem ke_2 {l : List Key} {x : List UInt8} (h : ((rdK (cutA 32 [] x)).2 != 0) = false) : keE l x = checkK (l ++ [keR x]) := by unfold keE; rw [if_neg (by rw [h]; simp)]
theorem keR_ok {x : List UInt8} (hx : x.length ≤ 4096) : (keR x).ok := rdK_ok fun w hw => Nat.le_trans (cutA_mem 32 x [] w hw) (by simpa using hx)
theorem keok {l : List Key} (x : List UInt8) (hx : x.length ≤ 4096) (h : ∀ k ∈ l, k.ok) : ∀ k ∈ l ++ [keR x], k.ok := by
 intro k hk
 rcases List.mem_append.1 hk with hk | hk
 ·exact h k hk
 ·rw [List.mem_singleton.1 hk]; exact keR_ok hx
@[simp] theorem clo_keD {S : Nat → Prop} (l : List Key) (x : List UInt8) : Clo S (keD l x) ↔ True := by
 unfold keD
 split
 ·simp only [clo_tup, clo_slice, iff_true, List.mem_cons, List.not_mem_nil, or_false, forall_eq_or_imp, forall_eq, clo_int, and_true]
  refine ⟨fun e he d hd => ?_, nofun⟩
  obtain ⟨k, hk, rfl⟩ := List.mem_map.1 he
  exact (clo_keys _).2 trivial k hk d hd
 ·simp
theorem clo_kl {S : Nat → Prop} (l : List Key) (nl : Bool) : ∀ d ∈ [D.slice 6 nl (l.map Key.cs) none], Clo S d := by
 intro d hd
 rw [List.mem_singleton.1 hd, clo_slice]
 refine ⟨fun e he d hd => ?_, nofun⟩
 obtain ⟨k, hk, rfl⟩ := List.mem_map.1 he
 exact (clo_keys _).2 trivial k hk d hd
set_option maxRecDepth 10000
set_option maxHeartbeats 4000000
abbrev s_r_valid : List Nat := [0, 2, 3, 4, 5, 6, 7, 8, 9, 14, 35, 42, 49]
theorem c_r_valid (x : List UInt8) (hx : x.length ≤ 4096) : CallP Pr 101 [.str x] (.tup [.agg [.int .i64 (vaV x).1, .int .i64 (vaV x).2], .int .i64 (vaE x)]) := by
 refine CallP.W Tryz.func101 Tryz.ntmps101 ?_
 simp only [frameOf]
 refine WP.S s_r_valid fun _ z => ?_; simp +decide only [TF, ↓reduceIte]; apply z; clear z
 rcases va_cases x with ⟨hc, hv⟩ | ⟨a, b, hc, hab, hF, hU, hN⟩
 ·have hz := vaV_n hv (by decide)
  refine WP.S s_r_valid fun _ z => ?_
  simp +decide only [TF, ↓reduceIte]
  refine CallK.P (c_r_cut x 32 (by omega)) rfl rfl ?_
  simp +decide only [TF, ↓reduceIte]
  apply z; clear z
  iterate 4 first | (refine WP.S s_r_valid fun _ z => ?_; simp +decide only [TF, hc, ↓reduceIte]; apply z; clear z) | refine WP.cT ?_ | apply WP.seq
  apply WP.ret
  exact Ends.P (d := .tup [_, _]) rfl (Le.of_eq (by simp +decide only [St.get, W, Pr_prog, sz24, ↓reduceIte, hv, hz]))
 refine WP.S s_r_valid fun _ z => ?_
 simp +decide only [TF, ↓reduceIte]
 refine CallK.P (c_r_cut x 32 (by omega)) rfl rfl ?_
 simp +decide only [TF, hc, ↓reduceIte]
 apply z; clear z
 iterate 4 first | (refine WP.S s_r_valid fun _ z => ?_; simp +decide only [TF, ↓reduceIte]; apply z; clear z) | (apply WP.skip; show WP ..) | refine WP.cF ?_ | apply WP.seq
 refine WP.S s_r_valid fun _ z => ?_
 simp +decide only [TF, ↓reduceIte]
 refine CallK.P (c_r_readint a (by omega)) rfl rfl ?_
 simp +decide only [TF, rdD, ↓reduceIte]
 apply z; clear z
 refine WP.S s_r_valid fun _ z => ?_
 simp +decide only [TF, ↓reduceIte]
 refine CallK.P (c_r_readint b (by omega)) rfl rfl ?_
 simp +decide only [TF, rdD, ↓reduceIte]
 apply z; clear z
 apply WP.seq
 refine WP.S s_r_valid fun _ z => ?_
 refine runOps.take 3 fun J hJ => ?_
 simp +decide only [TF, ↓reduceIte]
 refine hJ _ _ ?_; clear hJ J
 refine runOps.part 32 rfl (fun q1 => ?_) (fun q1 => ?_)
 ·have hv := va_4 hN (by simp_all)
  have hz := vaV_n hv (by decide)
  simp +decide only [TF, q1, ↓reduceIte]
  apply z; clear z
  iterate 2 first | (refine WP.S s_r_valid fun _ z => ?_; simp +decide only [TF, ↓reduceIte]; apply z; clear z) | refine WP.cT ?_
  apply WP.ret
  exact Ends.P (d := .tup [_, _]) rfl (Le.of_eq (by simp +decide only [St.get, W, Pr_prog, sz24, ↓reduceIte, hv, hz]))
 simp +decide only [TF, q1, ↓reduceIte]
 apply z; clear z
 refine WP.cond rfl (fun q2 => ?_) (fun q2 => ?_)
 ·have hv := va_4 hN (by simp_all)
  have hz := vaV_n hv (by decide)
  refine WP.S s_r_valid fun _ z => ?_; simp +decide only [TF, q2, ↓reduceIte]; apply z; clear z
  apply WP.ret
  exact Ends.P (d := .tup [_, _]) rfl (Le.of_eq (by simp +decide only [St.get, W, Pr_prog, sz24, ↓reduceIte, hv, hz]))
 have hn4 : ((rdN a).2 == 4 || (rdN b).2 == 4) = false := (by simp_all)
 iterate 2 first | (apply WP.skip; show WP ..) | apply WP.seq
 refine WP.S s_r_valid fun _ z => ?_
 refine runOps.take 3 fun J hJ => ?_
 simp +decide only [TF, q2, ↓reduceIte]
 refine hJ _ _ ?_; clear hJ J
 refine runOps.part 39 rfl (fun q3 => ?_) (fun q3 => ?_)
 ·have hv := va_27 hN hn4 (by simp_all)
  have hz := vaV_n hv (by decide)
  simp +decide only [TF, q3, ↓reduceIte]
  apply z; clear z
  iterate 2 first | (refine WP.S s_r_valid fun _ z => ?_; simp +decide only [TF, ↓reduceIte]; apply z; clear z) | refine WP.cT ?_
  apply WP.ret
  exact Ends.P (d := .tup [_, _]) rfl (Le.of_eq (by simp +decide only [St.get, W, Pr_prog, sz24, ↓reduceIte, hv, hz]))
 simp +decide only [TF, q3, ↓reduceIte]
 apply z; clear z
 refine WP.cond rfl (fun q4 => ?_) (fun q4 => ?_)
 ·have hv := va_27 hN hn4 (by simp_all)
  have hz := vaV_n hv (by decide)
  refine WP.S s_r_valid fun _ z => ?_; simp +decide only [TF, q4, ↓reduceIte]; apply z; clear z
  apply WP.ret
  exact Ends.P (d := .tup [_, _]) rfl (Le.of_eq (by simp +decide only [St.get, W, Pr_prog, sz24, ↓reduceIte, hv, hz]))
 have hn0 := va_0 hN hn4 (by simp_all)
 iterate 3 first | (refine WP.S s_r_valid fun _ z => ?_; simp +decide only [TF, q4, ↓reduceIte]; apply z; clear z) | (apply WP.skip; show WP ..) | apply WP.seq
 refine WP.S s_r_valid fun _ z => ?_
 simp +decide only [TF, ↓reduceIte]
 refine CallK.P (c_r_window _ _) rfl rfl ?_
 simp +decide only [TF, ↓reduceIte]
 apply z; clear z
 refine WP.cond rfl (fun q5 => ?_) (fun q5 => ?_)
 ·simp only [Bool.not_eq_true'] at q5
  have hv := vaE_2 (x := x) hn0 (by rw [hF, hU]; simpa using q5)
  have hz := vaV_n hv (by decide)
  refine WP.S s_r_valid fun _ z => ?_; simp +decide only [TF, q5, ↓reduceIte]; apply z; clear z
  apply WP.ret
  exact Ends.P (d := .tup [_, _]) rfl (Le.of_eq (by simp +decide only [St.get, W, Pr_prog, sz24, ↓reduceIte, hv, hz]))
 simp only [Bool.not_eq_false'] at q5
 have hv := vaE_0.2 ⟨hn0, by rw [hF, hU]; simpa using q5⟩
 have hz := vaV_0 hv
 iterate 2 first | (refine WP.S s_r_valid fun _ z => ?_; simp +decide only [TF, q5, ↓reduceIte]; apply z; clear z) | (apply WP.skip; show WP ..)
 apply WP.ret
 exact Ends.P (d := .tup [_, _]) rfl (Le.of_eq (by simp +decide only [St.get, W, Pr_prog, sz24, ↓reduceIte, hv, hz, hF, hU]))
abbrev s_r_key : List Nat := [0, 1, 4, 5, 6, 7, 8, 15, 26]
theorem c_r_key (l : List Key) (nl : Bool) (hn : l.length ≤ 4096) (hnl : nl = true → l = []) (hl : ∀ k ∈ l, k.ok) (x : List UInt8) (hx : x.length ≤ 4096) : CallP Pr 102 [.slice 6 nl (l.map Key.cs) none, .str x] (keD l x) := by
 refine CallP.W Tryz.func102 Tryz.ntmps102 ?_
 simp only [frameOf, Nat.zero_add]
 refine WP.S s_r_key fun _ z => ?_; simp +decide only [TF, ↓reduceIte]; apply z; clear z
 refine WP.S s_r_key fun _ z => ?_
 simp +decide only [TF, ↓reduceIte]
 refine CallK.P (c_r_read x hx) rfl rfl ?_
 simp +decide only [TF, rdD6, Key.cs, ↓reduceIte]
 apply z; clear z
 iterate 2 first | (refine WP.S s_r_key fun _ z => ?_; simp +decide only [TF, ↓reduceIte]; apply z; clear z) | apply WP.seq
 refine WP.cond rfl (fun q1 => ?_) (fun q1 => ?_)
 ·have hR := keD_e (l := l) (ke_1 q1) (by simpa using q1)
  refine WP.S s_r_key fun _ z => ?_; simp +decide only [TF, q1, ↓reduceIte]; apply z; clear z
  apply WP.ret
  exact Ends.P (d := .tup [_, _]) rfl (by rw [hR]; simp +decide only [St.get, lk, W, ↓reduceIte]; first | exact Le.nil2 | exact Le.trans (Le.fg _) (Le.of_eq (by simp [fg, fg0, keR, Key.cs])))
 have h0 := ke_2 (l := l) q1
 apply WP.skip; show WP ..
 refine WP.D s_r_key fun _ z => ?_
 simp +decide only [TF, q1, ↓reduceIte]
 refine ⟨⟨by omega, by omega⟩, ⟨by simp; omega, by simp; omega⟩, ?_⟩
 refine z _ _ (by kernel_rfl) ?_; clear z
 refine WP.S s_r_key fun _ z => ?_
 simp +decide only [TF, ↓reduceIte]
 refine CallK.pure (c_r_check (l ++ [keR x]) false (by simp; omega) nofun (keok x hx hl)) rfl (by simp [fg, keR, Key.cs]) (clo_kl _ _) ?_
 simp +decide only [TF, ↓reduceIte]
 apply z; clear z
 iterate 2 first | (refine WP.S s_r_key fun _ z => ?_; simp +decide only [TF, ↓reduceIte]; apply z; clear z) | apply WP.seq
 refine WP.cond rfl (fun q2 => ?_) (fun q2 => ?_)
 ·have hR := keD_e h0 (by simpa using q2)
  refine WP.S s_r_key fun _ z => ?_; simp +decide only [TF, q2, ↓reduceIte]; apply z; clear z
  apply WP.ret
  exact Ends.P (d := .tup [_, _]) rfl (by rw [hR]; simp +decide only [St.get, lk, W, ↓reduceIte]; first | exact Le.nil2 | exact Le.trans (Le.fg _) (Le.of_eq (by simp [fg, fg0, keR, Key.cs])))
 have hR := keD_0 (h0.trans (by simpa using q2))
 iterate 2 first | (refine WP.S s_r_key fun _ z => ?_; simp +decide only [TF, q2, ↓reduceIte]; apply z; clear z) | (apply WP.skip; show WP ..)
 apply WP.ret
 exact Ends.P (d := .tup [_, _]) rfl (by rw [hR]; simp +decide only [St.get, lk, W, ↓reduceIte]; first | exact Le.nil2 | exact Le.trans (Le.fg _) (Le.of_eq (by simp [fg, fg0, keR, Key.cs])))
def zpD : D := .agg [.str [], .str [], .slice 0 true [] none, .int .i64 0, .int .i64 0]
def lineD (n : Nat) (p : Par) (l : List UInt8) : D := if stE n p l = 0 then .tup [.agg (stP n p l).cs, .int .i64 0] else .tup [zpD, .int .i64 (stE n p l)]
theorem lineD_e {n : Nat} {p : Par} {l : List UInt8} {e : Int} (h : stE n p l = e) (he : e ≠ 0) : lineD n p l = .tup [zpD, .int .i64 e] := by unfold lineD; rw [if_neg (by rw [h]; exact he), h]
theorem lineD_0 {n : Nat} {p q : Par} {l : List UInt8} (h : stE n p l = 0) (hq : stP n p l = q) : lineD n p l = .tup [.agg q.cs, .int .i64 0] := by unfold lineD; rw [if_pos h, hq]
theorem lineD_two (n : Nat) (p : Par) (l : List UInt8) : (stE n p l ≠ 0 ∧ lineD n p l = .tup [zpD, .int .i64 (stE n p l)]) ∨ (stE n p l = 0 ∧ lineD n p l = .tup [.agg (stP n p l).cs, .int .i64 0]) := by
 by_cases h : stE n p l = 0
 ·exact .inr ⟨h, lineD_0 h rfl⟩
 ·exact .inl ⟨h, lineD_e rfl h⟩
theorem ln_cases (n : Nat) (h : 1 ≤ n) (l : List UInt8) : (n = 1 ∧ rmW idW l = none) ∨ (n = 1 ∧ ∃ y, rmW idW l = some y) ∨ (n = 2 ∧ rmW adW l = none) ∨ (n = 2 ∧ ∃ y, rmW adW l = some y) ∨ (n = 3 ∧ rmW vaW l = none) ∨ (n = 3 ∧ ∃ y, rmW vaW l = some y) ∨ (4 ≤ n ∧ rmW keW l = none) ∨ (4 ≤ n ∧ ∃ y, rmW keW l = some y) := by
 rcases (by omega : n = 1 ∨ n = 2 ∨ n = 3 ∨ 4 ≤ n) with rfl | rfl | rfl | h4
 ·cases rmW idW l <;> simp
 ·cases rmW adW l <;> simp
 ·cases rmW vaW l <;> simp
 ·cases rmW keW l <;> simp [h4]
theorem woP_ge {n : Nat} (h : 4 ≤ n) : woP n = keW := by unfold woP; rw [if_neg (by omega), if_neg (by omega), if_neg (by omega)]
theorem st_none {n : Nat} {p : Par} {l : List UInt8} (h : rmW (woP n) l = none) : stE n p l = 4 := by unfold stE; rw [h]
theorem st_1 {p : Par} {l y : List UInt8} (h : rmW idW l = some y) : stE 1 p l = idE y ∧ stP 1 p l = { p with id := y } := by
 have h' : rmW (woP 1) l = some y := h
 unfold stE stP; rw [h']; exact ⟨rfl, rfl⟩
theorem st_2 {p : Par} {l y : List UInt8} (h : rmW adW l = some y) : stE 2 p l = adE y ∧ stP 2 p l = { p with addr := adV y } := by
 have h' : rmW (woP 2) l = some y := h
 unfold stE stP; rw [h']; exact ⟨rfl, rfl⟩
theorem st_3 {p : Par} {l y : List UInt8} (h : rmW vaW l = some y) : stE 3 p l = vaE y ∧ stP 3 p l = { p with f := numF y, u := numU y } := by
 have h' : rmW (woP 3) l = some y := h
 unfold stE stP; rw [h']; exact ⟨rfl, rfl⟩
theorem st_4 {n : Nat} (hn : 4 ≤ n) {p : Par} {l y : List UInt8} (h : rmW keW l = some y) : stE n p l = keE p.keys y ∧ stP n p l = { p with keys := p.keys ++ [keR y], nk := false } := by
 have h' : rmW (woP n) l = some y := by rw [woP_ge hn]; exact h
 unfold stE stP; rw [h']
 simp only [if_neg (show ¬ n = 1 by omega), if_neg (show ¬ n = 2 by omega), if_neg (show ¬ n = 3 by omega)]
 exact ⟨trivial, trivial⟩
theorem ge_ne {n : Nat} (h : 4 ≤ n) : ((n : Int) == 1) = false ∧ ((n : Int) == 2) = false ∧ ((n : Int) == 3) = false := by
 refine ⟨?_, ?_, ?_⟩ <;> simp <;> omega
theorem fx_has (y : List UInt8) : decide (fxB 32 y 0 ≥ 0) = y.contains 32 := by
 rcases fx_cut 32 y 0 with ⟨h1, h2⟩ | ⟨j, h1, h2, h3⟩
 ·have hn : (32 : UInt8) ∉ y := by
   have := cutA_no 32 y [] (by simp) y (by rw [h2]; simp)
   exact this
  rw [h1]
  simpa using hn
 ·have hy : (32 : UInt8) ∈ y := by
   refine Classical.byContradiction fun hn => ?_
   have e := h3 []
   rw [cutA_word 32 y hn] at e
   obtain ⟨a, t, ht⟩ := cutA_ne 32 (y.drop (j + 1))
   rw [ht] at e
   simp at e
  have : (fxB 32 y 0 ≥ 0) := by omega
  simp [this, hy]
theorem c_r_unesc (s : List UInt8) (hs : s.length ≤ 1099511627776) : CallP Pr 100 [.str s] (.tup [.str (adV s), .int .i64 (ueB s)]) := unD_ue s ▸ c_r_unescape s hs
theorem ke_two (l : List Key) (x : List UInt8) : (keE l x ≠ 0 ∧ keD l x = .tup [.slice 6 true [] none, .int .i64 (keE l x)]) ∨ (keE l x = 0 ∧ keD l x = .tup [.slice 6 false ((l ++ [keR x]).map Key.cs) none, .int .i64 0]) := by
 by_cases h : keE l x = 0
 ·exact .inr ⟨h, keD_0 h⟩
 ·exact .inl ⟨h, keD_e rfl h⟩
@[simp] theorem clo_lineD {S : Nat → Prop} (n : Nat) (p : Par) (l : List UInt8) : Clo S (lineD n p l) ↔ True := by
 unfold lineD zpD
 split <;> simp [Par.cs]
abbrev s_r_line43 : List Nat := [1, 2, 3, 6, 7, 8, 9, 10, 11, 12, 13, 15, 17, 26, 28, 37, 43, 47, 49, 64, 66, 75]
theorem c_r_line43 (n : Nat) (h0 : 1 ≤ n) (p : Par) (hp : p.ok) (hp4 : p.keys.length ≤ 4096) (l : List UInt8) (hl : l.length ≤ 4096) : CallP Pr 56 [.agg [.str p.id, .str p.addr, .slice 6 p.nk (p.keys.map Key.cs) none, .int .i64 p.f, .int .i64 p.u], .str l, .int .i64 n] (lineD n p l) := by
 refine CallP.W Tryz.func56 Tryz.ntmps56 ?_
 simp only [frameOf, Nat.reduceAdd, Nat.zero_add]
 refine WP.S s_r_line43 fun _ z => ?_; simp +decide only [TF, ↓reduceIte]; apply z; clear z
 rcases ln_cases n h0 l with ⟨rfl, hr⟩ | ⟨rfl, y, hr⟩ | ⟨rfl, hr⟩ | ⟨rfl, y, hr⟩ | ⟨rfl, hr⟩ | ⟨rfl, y, hr⟩ | ⟨h4, hr⟩ | ⟨h4, y, hr⟩
 ·have hR := lineD_e (p := p) (st_none (show rmW (woP 1) l = none from hr)) (by decide)
  iterate 7 first | (refine WP.S s_r_line43 fun _ z => ?_; simp +decide only [TF, ↓reduceIte]; apply z; clear z) | (refine WP.R fun _ z => ?_; simp +decide only [TF, ↓reduceIte]; apply z; clear z; show WP ..) | apply WP.block | refine WP.cT ?_ | apply WP.seq
  refine WP.S s_r_line43 fun _ z => ?_
  simp +decide only [TF, ↓reduceIte]
  refine CallK.P (c_r_after idW l (by decide) (by omega)) rfl rfl ?_
  simp +decide only [TF, hr, ↓reduceIte]
  apply z; clear z
  iterate 4 first | (refine WP.S s_r_line43 fun _ z => ?_; simp +decide only [TF, ↓reduceIte]; apply z; clear z) | refine WP.cT ?_ | apply WP.seq
  apply WP.ret
  exact Ends.P (d := .tup [_, _]) rfl (Le.of_eq (by rw [hR]; simp +decide only [St.get, W, Pr_prog, sz26, zpD, ↓reduceIte]))
 ·have hs1 := (st_1 hr : stE 1 p l = _ ∧ _).1
  have hs2 := (st_1 hr : _ ∧ stP 1 p l = _).2
  have hyl := rm_len hr
  iterate 7 first | (refine WP.S s_r_line43 fun _ z => ?_; simp +decide only [TF, ↓reduceIte]; apply z; clear z) | (refine WP.R fun _ z => ?_; simp +decide only [TF, ↓reduceIte]; apply z; clear z; show WP ..) | apply WP.block | refine WP.cT ?_ | apply WP.seq
  refine WP.S s_r_line43 fun _ z => ?_
  simp +decide only [TF, ↓reduceIte]
  refine CallK.P (c_r_after idW l (by decide) (by omega)) rfl rfl ?_
  simp +decide only [TF, hr, ↓reduceIte]
  apply z; clear z
  iterate 12 first | (refine WP.S s_r_line43 fun _ z => ?_; simp +decide only [TF, ↓reduceIte]; apply z; clear z) | (apply WP.skip; show WP ..) | refine WP.cF ?_ | apply WP.block | refine WP.cT ?_ | apply WP.seq
  refine WP.S s_r_line43 fun _ z => ?_
  simp +decide only [TF, ↓reduceIte]
  refine CallK.P (c_r_first y 32 (by omega)) rfl rfl ?_
  simp +decide only [TF, ↓reduceIte]
  apply z; clear z
  refine WP.cond rfl (fun q1 => ?_) (fun q1 => ?_)
  ·have hR := lineD_e (hs1.trans (idE_4 ((fx_has y).symm.trans q1))) (by decide)
   refine WP.S s_r_line43 fun _ z => ?_; simp +decide only [TF, q1, ↓reduceIte]; apply z; clear z
   apply WP.ret
   exact Ends.P (d := .tup [_, _]) rfl (Le.of_eq (by rw [hR]; simp +decide only [St.get, W, Pr_prog, sz26, zpD, ↓reduceIte]))
  have hc32 := (fx_has y).symm.trans q1
  apply WP.skip; show WP ..
  refine WP.S s_r_line43 fun _ z => ?_
  simp +decide only [TF, q1, ↓reduceIte]
  refine CallK.P (c_r_word y (by omega)) rfl rfl ?_
  simp +decide only [TF, ↓reduceIte]
  apply z; clear z
  refine WP.cond rfl (fun q2 => ?_) (fun q2 => ?_)
  ·simp only [Bool.not_eq_true'] at q2
   have hR := lineD_e (hs1.trans (idE_5 hc32 (by simpa using q2))) (by decide)
   refine WP.S s_r_line43 fun _ z => ?_; simp +decide only [TF, q2, ↓reduceIte]; apply z; clear z
   apply WP.ret
   exact Ends.P (d := .tup [_, _]) rfl (Le.of_eq (by rw [hR]; simp +decide only [St.get, W, Pr_prog, sz26, zpD, ↓reduceIte]))
  simp only [Bool.not_eq_false'] at q2
  have hR := lineD_0 (hs1.trans (idE_ok (by simpa using q2))) hs2
  iterate 6 first | (refine WP.S s_r_line43 fun _ z => ?_; simp +decide only [TF, q2, ↓reduceIte]; apply z; clear z) | (apply WP.skip; show WP ..) | refine WP.cF ?_ | apply WP.seq
  apply WP.ret
  exact Ends.P (d := .tup [_, _]) rfl (Le.of_eq (by rw [hR]; simp +decide only [St.get, W, Pr_prog, sz26, Par.cs, ↓reduceIte]))
 ·have hR := lineD_e (p := p) (st_none (show rmW (woP 2) l = none from hr)) (by decide)
  iterate 9 first | (refine WP.S s_r_line43 fun _ z => ?_; simp +decide only [TF, ↓reduceIte]; apply z; clear z) | (refine WP.R fun _ z => ?_; simp +decide only [TF, ↓reduceIte]; apply z; clear z; show WP ..) | apply WP.block | refine WP.cF ?_ | refine WP.cT ?_ | apply WP.seq
  refine WP.S s_r_line43 fun _ z => ?_
  simp +decide only [TF, ↓reduceIte]
  refine CallK.P (c_r_after adW l (by decide) (by omega)) rfl rfl ?_
  simp +decide only [TF, hr, ↓reduceIte]
  apply z; clear z
  iterate 4 first | (refine WP.S s_r_line43 fun _ z => ?_; simp +decide only [TF, ↓reduceIte]; apply z; clear z) | refine WP.cT ?_ | apply WP.seq
  apply WP.ret
  exact Ends.P (d := .tup [_, _]) rfl (Le.of_eq (by rw [hR]; simp +decide only [St.get, W, Pr_prog, sz26, zpD, ↓reduceIte]))
 ·have hs1 := (st_2 hr : stE 2 p l = _ ∧ _).1
  have hs2 := (st_2 hr : _ ∧ stP 2 p l = _).2
  have hyl := rm_len hr
  iterate 9 first | (refine WP.S s_r_line43 fun _ z => ?_; simp +decide only [TF, ↓reduceIte]; apply z; clear z) | (refine WP.R fun _ z => ?_; simp +decide only [TF, ↓reduceIte]; apply z; clear z; show WP ..) | apply WP.block | refine WP.cF ?_ | refine WP.cT ?_ | apply WP.seq
  refine WP.S s_r_line43 fun _ z => ?_
  simp +decide only [TF, ↓reduceIte]
  refine CallK.P (c_r_after adW l (by decide) (by omega)) rfl rfl ?_
  simp +decide only [TF, hr, ↓reduceIte]
  apply z; clear z
  iterate 12 first | (refine WP.S s_r_line43 fun _ z => ?_; simp +decide only [TF, ↓reduceIte]; apply z; clear z) | (apply WP.skip; show WP ..) | refine WP.cF ?_ | apply WP.block | refine WP.cT ?_ | apply WP.seq
  refine WP.S s_r_line43 fun _ z => ?_
  simp +decide only [TF, ↓reduceIte]
  refine CallK.P (c_r_unesc y (by omega)) rfl rfl ?_
  simp +decide only [TF, ↓reduceIte]
  apply z; clear z
  refine WP.S s_r_line43 fun _ z => ?_
  refine runOps.take 3 fun J hJ => ?_
  simp +decide only [TF, ↓reduceIte]
  refine hJ _ _ ?_; clear hJ J
  refine runOps.part 59 rfl (fun q3 => ?_) (fun q3 => ?_)
  ·have hR := lineD_e (hs1.trans (adE_a q3)) (by decide)
   simp +decide only [TF, q3, ↓reduceIte]
   apply z; clear z
   iterate 2 first | (refine WP.S s_r_line43 fun _ z => ?_; simp +decide only [TF, ↓reduceIte]; apply z; clear z) | refine WP.cT ?_
   apply WP.ret
   exact Ends.P (d := .tup [_, _]) rfl (Le.of_eq (by rw [hR]; simp +decide only [St.get, W, Pr_prog, sz26, zpD, ↓reduceIte]))
  simp +decide only [TF, q3, ↓reduceIte]
  refine CallK.P (c_r_address43 (adV y) (by have := adV_len y; omega)) rfl rfl ?_
  simp +decide only [TF, ↓reduceIte]
  apply z; clear z
  refine WP.cond rfl (fun q4 => ?_) (fun q4 => ?_)
  ·have hR := lineD_e (hs1.trans (adE_b (by assumption) (by assumption))) (by decide)
   refine WP.S s_r_line43 fun _ z => ?_; simp +decide only [TF, q4, ↓reduceIte]; apply z; clear z
   apply WP.ret
   exact Ends.P (d := .tup [_, _]) rfl (Le.of_eq (by rw [hR]; simp +decide only [St.get, W, Pr_prog, sz26, zpD, ↓reduceIte]))
  have hR := lineD_0 (hs1.trans (adE_c (by assumption) (by assumption))) hs2
  iterate 6 first | (refine WP.S s_r_line43 fun _ z => ?_; simp +decide only [TF, q3, q4, ↓reduceIte]; apply z; clear z) | (apply WP.skip; show WP ..) | refine WP.cF ?_ | apply WP.seq
  apply WP.ret
  exact Ends.P (d := .tup [_, _]) rfl (Le.of_eq (by rw [hR]; simp +decide only [St.get, W, Pr_prog, sz26, Par.cs, ↓reduceIte]))
 ·have hR := lineD_e (p := p) (st_none (show rmW (woP 3) l = none from hr)) (by decide)
  iterate 11 first | (refine WP.S s_r_line43 fun _ z => ?_; simp +decide only [TF, ↓reduceIte]; apply z; clear z) | (refine WP.R fun _ z => ?_; simp +decide only [TF, ↓reduceIte]; apply z; clear z; show WP ..) | apply WP.block | refine WP.cF ?_ | refine WP.cT ?_ | apply WP.seq
  refine WP.S s_r_line43 fun _ z => ?_
  simp +decide only [TF, ↓reduceIte]
  refine CallK.P (c_r_after vaW l (by decide) (by omega)) rfl rfl ?_
  simp +decide only [TF, hr, ↓reduceIte]
  apply z; clear z
  iterate 4 first | (refine WP.S s_r_line43 fun _ z => ?_; simp +decide only [TF, ↓reduceIte]; apply z; clear z) | refine WP.cT ?_ | apply WP.seq
  apply WP.ret
  exact Ends.P (d := .tup [_, _]) rfl (Le.of_eq (by rw [hR]; simp +decide only [St.get, W, Pr_prog, sz26, zpD, ↓reduceIte]))
 ·have hs1 := (st_3 hr : stE 3 p l = _ ∧ _).1
  have hs2 := (st_3 hr : _ ∧ stP 3 p l = _).2
  have hyl := rm_len hr
  iterate 11 first | (refine WP.S s_r_line43 fun _ z => ?_; simp +decide only [TF, ↓reduceIte]; apply z; clear z) | (refine WP.R fun _ z => ?_; simp +decide only [TF, ↓reduceIte]; apply z; clear z; show WP ..) | apply WP.block | refine WP.cF ?_ | refine WP.cT ?_ | apply WP.seq
  refine WP.S s_r_line43 fun _ z => ?_
  simp +decide only [TF, ↓reduceIte]
  refine CallK.P (c_r_after vaW l (by decide) (by omega)) rfl rfl ?_
  simp +decide only [TF, hr, ↓reduceIte]
  apply z; clear z
  iterate 14 first | (refine WP.S s_r_line43 fun _ z => ?_; simp +decide only [TF, ↓reduceIte]; apply z; clear z) | (apply WP.skip; show WP ..) | refine WP.cF ?_ | apply WP.block | refine WP.cT ?_ | apply WP.seq
  refine WP.R fun _ z => ?_
  simp +decide only [TF, ↓reduceIte]
  refine CallK.P (c_r_valid y (by omega)) rfl rfl ?_
  simp +decide only [TF, ↓reduceIte]
  apply z; clear z
  show WP ..
  iterate 2 first | (refine WP.S s_r_line43 fun _ z => ?_; simp +decide only [TF, ↓reduceIte]; apply z; clear z) | apply WP.seq
  refine WP.cond rfl (fun q5 => ?_) (fun q5 => ?_)
  ·have hR := lineD_e hs1 (by simpa using q5)
   refine WP.S s_r_line43 fun _ z => ?_; simp +decide only [TF, q5, ↓reduceIte]; apply z; clear z
   apply WP.ret
   exact Ends.P (d := .tup [_, _]) rfl (Le.of_eq (by rw [hR]; simp +decide only [St.get, W, Pr_prog, sz26, zpD, ↓reduceIte]))
  have hv0 : vaE y = 0 := by simpa using q5
  have hz := vaV_0 hv0
  have hR := lineD_0 (hs1.trans hv0) hs2
  iterate 2 first | (refine WP.S s_r_line43 fun _ z => ?_; simp +decide only [TF, q5, hz, ↓reduceIte]; apply z; clear z) | (apply WP.skip; show WP ..)
  apply WP.ret
  exact Ends.P (d := .tup [_, _]) rfl (Le.of_eq (by rw [hR]; simp +decide only [St.get, W, Pr_prog, sz26, Par.cs, ↓reduceIte]))
 ·obtain ⟨g1, g2, g3⟩ := ge_ne h4
  have hR := lineD_e (p := p) (st_none (by rw [woP_ge h4]; exact hr)) (by decide)
  iterate 11 first | (refine WP.S s_r_line43 fun _ z => ?_; simp +decide only [TF, g1, g2, g3, ↓reduceIte]; apply z; clear z) | (apply WP.skip; show WP ..) | apply WP.block | refine WP.cF ?_ | apply WP.seq
  refine WP.S s_r_line43 fun _ z => ?_
  simp +decide only [TF, ↓reduceIte]
  refine CallK.P (c_r_after keW l (by decide) (by omega)) rfl rfl ?_
  simp +decide only [TF, hr, ↓reduceIte]
  apply z; clear z
  iterate 4 first | (refine WP.S s_r_line43 fun _ z => ?_; simp +decide only [TF, ↓reduceIte]; apply z; clear z) | refine WP.cT ?_ | apply WP.seq
  apply WP.ret
  exact Ends.P (d := .tup [_, _]) rfl (Le.of_eq (by rw [hR]; simp +decide only [St.get, W, Pr_prog, sz26, zpD, ↓reduceIte]))
 obtain ⟨g1, g2, g3⟩ := ge_ne h4
 have hs1 := (st_4 h4 hr : stE n p l = _ ∧ _).1
 have hs2 := (st_4 h4 hr : _ ∧ stP n p l = _).2
 have hyl := rm_len hr
 iterate 11 first | (refine WP.S s_r_line43 fun _ z => ?_; simp +decide only [TF, g1, g2, g3, ↓reduceIte]; apply z; clear z) | (apply WP.skip; show WP ..) | apply WP.block | refine WP.cF ?_ | apply WP.seq
 refine WP.S s_r_line43 fun _ z => ?_
 simp +decide only [TF, ↓reduceIte]
 refine CallK.P (c_r_after keW l (by decide) (by omega)) rfl rfl ?_
 simp +decide only [TF, hr, ↓reduceIte]
 apply z; clear z
 iterate 14 first | (refine WP.S s_r_line43 fun _ z => ?_; simp +decide only [TF, g1, g2, g3, ↓reduceIte]; apply z; clear z) | (apply WP.skip; show WP ..) | refine WP.cF ?_ | apply WP.block | apply WP.seq
 rcases ke_two p.keys y with ⟨he, hk⟩ | ⟨he, hk⟩
 ·have hR := lineD_e hs1 he
  have hke : (keE p.keys y != 0) = true := by simpa using he
  refine WP.R fun _ z => ?_
  simp +decide only [TF, ↓reduceIte]
  refine CallK.P (c_r_key p.keys p.nk hp4 hp.2.2.2.1 hp.2.2.2.2 y (by omega)) rfl rfl ?_
  simp +decide only [TF, hk, ↓reduceIte]
  apply z; clear z
  show WP ..
  iterate 4 first | (refine WP.S s_r_line43 fun _ z => ?_; simp +decide only [TF, hke, ↓reduceIte]; apply z; clear z) | refine WP.cT ?_ | apply WP.seq
  apply WP.ret
  exact Ends.P (d := .tup [_, _]) rfl (Le.of_eq (by rw [hR]; simp +decide only [St.get, W, Pr_prog, sz26, zpD, ↓reduceIte]))
 have hR := lineD_0 (hs1.trans he) hs2
 refine WP.R fun _ z => ?_
 simp +decide only [TF, ↓reduceIte]
 refine CallK.P (c_r_key p.keys p.nk hp4 hp.2.2.2.1 hp.2.2.2.2 y (by omega)) rfl rfl ?_
 simp +decide only [TF, hk, ↓reduceIte]
 apply z; clear z
 show WP ..
 iterate 5 first | (refine WP.S s_r_line43 fun _ z => ?_; simp +decide only [TF, ↓reduceIte]; apply z; clear z) | (apply WP.skip; show WP ..) | refine WP.cF ?_ | apply WP.seq
 apply WP.ret
 exact Ends.P (d := .tup [_, _]) rfl (Le.of_eq (by rw [hR]; simp +decide only [St.get, W, Pr_prog, sz26, Par.cs, ↓reduceIte]))
theorem pP_long {s : List UInt8} (h : 4096 < s.length) : pP s = (zeroP, 0, 3) := by unfold pP; rw [if_pos h]
theorem pP_short {s : List UInt8} (h : s.length ≤ 4096) : pP s = loopP 1 zeroP (cutA 10 [] s) := by unfold pP; rw [if_neg (by omega)]
theorem lp_next {n : Nat} {p : Par} {r l b : List UInt8} (h : cutA 10 [] r = l :: cutA 10 [] b) (he : stE n p l = 0) : loopP n p (cutA 10 [] r) = loopP (n + 1) (stP n p l) (cutA 10 [] b) := by
 obtain ⟨m, t, hm⟩ := cutA_cons 10 b
 rw [h, hm, loopP, if_pos he]
theorem lp_err {n : Nat} {p : Par} {r l b : List UInt8} (h : cutA 10 [] r = l :: cutA 10 [] b) (he : stE n p l ≠ 0) : loopP n p (cutA 10 [] r) = (zeroP, (n : Int), stE n p l) := by
 obtain ⟨m, t, hm⟩ := cutA_cons 10 b
 rw [h, hm, loopP, if_neg he]
theorem lp_one {n : Nat} {p : Par} {r : List UInt8} (h : cutA 10 [] r = [r]) (hr : r ≠ []) : loopP n p (cutA 10 [] r) = (zeroP, (n : Int), 4) := by
 rw [h, loopP, if_neg hr]
theorem stP_ok {n : Nat} {p : Par} {l : List UInt8} (hp : p.ok) (hk : p.keys.length ≤ 4096) (hl : l.length ≤ 4096) : (stP n p l).ok ∧ (stP n p l).keys.length ≤ p.keys.length + 1 := by
 unfold stP
 cases h : rmW (woP n) l with
 | none => exact ⟨hp, by simp⟩
 | some x =>
  have hx := rm_len h
  have ha := adV_len x
  simp only
  split
  ·exact ⟨⟨by show x.length ≤ _; omega, hp.2⟩, Nat.le_succ _⟩
  ·split
   ·exact ⟨⟨hp.1, by show (adV x).length ≤ _; omega, hp.2.2⟩, Nat.le_succ _⟩
   ·split
    ·exact ⟨hp, Nat.le_succ _⟩
    ·exact ⟨⟨hp.1, hp.2.1, by show (p.keys ++ [keR x]).length ≤ _; simp; omega, nofun, keok x (by omega) hp.2.2.2.2⟩, by simp⟩
theorem zeroP_ok : zeroP.ok := ⟨by simp [zeroP], by simp [zeroP], by simp [zeroP], fun _ => rfl, by simp [zeroP]⟩
end Go.Proofs
