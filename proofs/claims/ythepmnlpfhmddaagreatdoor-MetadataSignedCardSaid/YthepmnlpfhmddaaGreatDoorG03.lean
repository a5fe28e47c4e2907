import Derived.Test.YthepmnlpfhmddaaGreatDoorG02
import Derived.RecoverIn
set_option linter.unusedVariables false
set_option linter.unusedSimpArgs false
set_option linter.unnecessarySimpa false
namespace Go.Id
open Go
section
variable {P : Prg} {ent : List Nat} {N : Nat} {E : Ent P}
end
inductive Recovers : FrameMode → Value → FrameMode → Prop
 | no : Recovers .returning .nilIface .returning
 | yes (y : Value) : Recovers (.panicking [{ v := y, recovered := false }]) y (.panicking [{ v := y, recovered := true }])
theorem deferred_clos {P : Prg} {g : FuncId} {gfn : Func} {N2 r0 n : Nat} {ops0 : Array Oper} {o1 o2 : Oper} {ta tb : Tmp} {gc : Code} (hf : P.prog.funcs[g]? = some gfn) (hb : gfn.body = some (.seq (.region r0 ops0 false) gc)) (hN : gfn.ntmps = N2) (hres : gfn.results = #[])
  (hops : ops0 = #[o1, o2]) (g1 : o1.guard = none) (g2 : o2.guard = none) (d1 : o1.dst = some ta) (d2 : o2.dst = some tb) (p2 : o2.op = .assign (.tmp ta))
  {c1 : Call} (p1 : o1.op = .call c1) (pc : c1.callee = .builtin .recover) (pa : c1.args = #[])
  {u u' : FrameMode} {x : D} {xv : Value} (hrec : Recovers u xv u') (hx : ∀ (M : Nat → Nat → Prop) (γ : Nat → Option G) (w : World), Rep M γ w x xv)
  {m : Nat → Nat → Prop} {γ : Nat → Option G} {σl : List (Nat × Blk)} {w : World} (hst : Store (P.base m) γ (lk σl) w) {cs : List D} {vs : Array Value} (hlen : vs.size = cs.length) (ha : cs.length ≤ ta) (hNl : cs.length ≤ N2) (ha2 : ta < N2) (hb2 : tb < N2) (hab : ta ≠ tb)
  (hr : ∀ (i : Nat) d v, cs[i]? = some d → vs[i]? = some v → Rep (Mall (P.base m) γ) γ w d v) {Q : List (Nat × Blk) → Prop}
  (hwp : WP P (MS :: σl.map (·.1)) N2 gc (fun e st' => (e = .normal ∨ e = .ret) ∧ Q st'.σ) ⟨(tb, x) :: frameOf 0 cs, σl⟩)
  {R : Ending → FrameMode → World → Prop} (hR : ∀ w' γ' σ', Store (P.base m) γ' (lk σ') w' → Evolve (Mall (P.base m) γ) γ w (Mall (P.base m) γ') γ' w' → Q σ' → ∀ v, R (.returned v) u' w') :
  CallsDIn Fence.wide n P.prog g vs u w R := by
 subst hops
 refine callsDIn_of_wpSIn hf hb trivial fun c₀ fs hu => ?_
 refine wpSIn_seq (wpSIn_region ?_)
 have hrng : List.range (#[o1, o2] : Array Oper).size = [0, 1] := rfl
 rw [hrng]
 have hsem1 : ∀ (a : Act) (w : World), (execOp a.eval o1).run P.prog w = .ok .recover w := by
  intro a w
  obtain ⟨cal, ars, tys⟩ := c1
  simp only at pc pa
  subst pc; subst pa
  simp only [execOp, p1, resolve, invoke, Sem.run_bind, Sem.run_pure, Result.andThen_ok]
  rfl
 have hsem2 : ∀ (a : Act) (w : World), (execOp a.eval o2).run P.prog w = .ok (.value (a.eval (.tmp ta))) w := by
  intro a w
  simp only [execOp, p2, Sem.run_pure]
 let a0 : Act := { tmps := vs ++ Array.replicate (gfn.ntmps - vs.size) undef, defers := [] }
 have hsz0 : a0.tmps.size = N2 := by simp [a0, hN]; omega
 let a1 := a0.put (some ta) xv
 let a2 := a1.put (some tb) xv
 have hev : a1.eval (.tmp ta) = xv := by
  show (a0.put (some ta) xv).tmps.getD ta undef = _
  rw [put_get (by intro t e; cases e; rw [hsz0]; exact ha2), if_pos rfl]
 have hrel : Rel (⟨m, γ, w, 0, Nat.zero_le _, []⟩ : Ent P) (MS :: σl.map (·.1)) N2 (St.get ⟨(tb, x) :: frameOf 0 cs, σl⟩) (lk σl) a2 w := by
  refine ⟨γ, fun b g' hg => ?_, hst, Evolve.refl _ _ _, by rw [put_size, put_size]; exact hsz0, Marks.nil _ _ _ _, fun t => ?_⟩
  ·rcases hst.names b with ⟨blk, g'', q1, _⟩ | ⟨_, q1⟩
   ·exact List.mem_cons_of_mem _ (List.mem_map.2 ⟨(b, blk), lk_mem _ _ _ q1, rfl⟩)
   ·have hg' : γ b = some g' := hg
    rw [hg'] at q1; cases q1
  ·rw [put_get (by intro t' e; cases e; rw [put_size, hsz0]; exact hb2)]
   by_cases htb : tb = t
   ·subst htb
    rw [if_pos rfl]
    simp only [St.get, lk, if_true, Option.getD_some]
    exact hx _ _ _
   ·rw [if_neg (by simpa using htb), put_get (by intro t' e; cases e; rw [hsz0]; exact ha2)]
    have hget : St.get ⟨(tb, x) :: frameOf 0 cs, σl⟩ t = (cs[t]?).getD .junk := by
     simp only [St.get, lk, lk_frameOf, Nat.zero_le, if_true, Nat.sub_zero]
     rw [if_neg (fun e => htb e.symm)]
    rw [hget]
    by_cases hta : ta = t
    ·subst hta
     rw [List.getElem?_eq_none (by omega)]
     exact .junk _
    ·rw [if_neg (by simpa using hta)]
     by_cases ht : t < cs.length
     ·have h1 : a0.tmps.getD t undef = vs[t]'(by omega) := by
       simp only [a0, Array.getD_eq_getD_getElem?]
       rw [Array.getElem?_append_left (by omega), Array.getElem?_eq_getElem (by omega)]
       rfl
      rw [h1, List.getElem?_eq_getElem ht]
      exact hr t _ _ (List.getElem?_eq_getElem ht) (Array.getElem?_eq_getElem (by omega))
     ·rw [List.getElem?_eq_none (by omega)]
      exact .junk _
 have hthen : ∀ fs', fs' = { c₀ with mode := u' } :: fs → Exit.thenS (gc.wpSIn Fence.wide n P.prog (bodyPostS P.prog gfn c₀ fs R)) (bodyPostS P.prog gfn c₀ fs R) .normal a2 fs' w := by
  rintro fs' rfl
  show gc.wpSIn Fence.wide n P.prog (bodyPostS P.prog gfn c₀ fs R) a2 _ w
  refine wpSIn_of_wpIn rfl (wpIn_mono (hwp Fence.wide n (.wide _) _ _ _ hrel) ?_)
  rintro e a' w' ⟨st', ⟨he, hq⟩, γ', h1, h2, h3, h4, h5, h6⟩
  have hresult : (results gfn a'.tmps).run P.prog w' = .ok (.tuple #[]) w' := by
   unfold results
   rw [hres]
   simp
  have hnil : a'.defers = [] := by
   obtain ⟨Ds, ⟨k1, k2⟩, _⟩ := h5
   rw [k1, k2 (by simp)]; rfl
  have hfin : bodyPostS P.prog gfn c₀ fs R .normal a' ({ c₀ with mode := u' } :: fs) w' :=
   ⟨hnil, u', rfl, _, hresult, hR w' γ' st'.σ h2 h3 hq _⟩
  rcases he with rfl | rfl <;> exact hfin
 have hop1 : ∀ (a : Act) (w : World), o1.about P.prog w a.eval = none ∨ ∀ f : FuncId, Fence.wide.fn f := fun _ _ => .inr fun _ => trivial
 unfold wpOpsSIn
 rw [show (#[o1, o2] : Array Oper)[0]? = some o1 from rfl]
 dsimp only
 refine ⟨fun f _ => trivial, ?_⟩
 rw [if_pos (by simp [Region.wanted, g1]), hsem1]
 dsimp only
 have tail : ∀ fs', fs' = { c₀ with mode := u' } :: fs → wpOpsSIn Fence.wide n P.prog #[o1, o2] (Exit.thenS (gc.wpSIn Fence.wide n P.prog (bodyPostS P.prog gfn c₀ fs R)) (bodyPostS P.prog gfn c₀ fs R)) [1] (a0.put o1.dst xv) fs' w := by
  intro fs' hfs
  unfold wpOpsSIn
  rw [show (#[o1, o2] : Array Oper)[1]? = some o2 from rfl]
  dsimp only
  refine ⟨fun f _ => trivial, ?_⟩
  rw [if_pos (by simp [Region.wanted, g2]), hsem2]
  dsimp only
  rw [d1, d2, hev]
  exact hthen fs' hfs
 cases hrec with
 | no =>
  have : recoverD (c₀ :: fs) = none := by simp [recoverD, hu]
  rw [this]
  exact tail _ (by rw [← hu])
 | yes y =>
  have : recoverD (c₀ :: fs) = some (xv, { c₀ with mode := .panicking [{ v := xv, recovered := true }] } :: fs) := by simp [recoverD, hu]
  rw [this]
  exact tail _ rfl
structure DEnd (P : Prg) (fn : Func) (N2 : Nat) (tb : Tmp) (gc : Code) (cs : List D) (val : D) (e : Exit) (st : St) (u u' : FrameMode) (x : D) (xv : Value) : Prop where
 rcv : Recovers u xv u'
 how : ((e = .normal ∨ e = .ret) ∧ u = .returning) ∨ (e = .panic [{ v := xv, recovered := false }] ∧ u = .panicking [{ v := xv, recovered := false }])
 rep : ∀ (M : Nat → Nat → Prop) (γ : Nat → Option G) (w : World), Rep M γ w x xv
 wp : WP P (MS :: st.σ.map (·.1)) N2 gc (fun e st' => (e = .normal ∨ e = .ret) ∧ ∃ d, resD P.prog fn ⟨st.F, st'.σ⟩ = some d ∧ Le d val) ⟨(tb, x) :: frameOf 0 cs, st.σ⟩
theorem rel_enter {P : Prg} {fn : Func} {args : List D} {ent : List Nat} {N : Nat} {m : Nat → Nat → Prop} {γ : Nat → Option G} {w : World} {vs : List Value} (hN : fn.ntmps = N) (hle : args.length ≤ N) (hst : Store (P.base m) γ (lk []) w) (hl : vs.length = args.length)
  (hr : ∀ (i : Nat) d v, args[i]? = some d → vs[i]? = some v → Rep (Mall (P.base m) γ) γ w d v) :
  Rel (⟨m, γ, w, max w.heap.size P.n, Nat.le_refl _, []⟩ : Ent P) ent N (St.get ⟨frameOf 0 args, []⟩) (lk []) { tmps := vs.toArray ++ Array.replicate (fn.ntmps - vs.toArray.size) undef, defers := [] } w := by
 refine ⟨γ, fun b g hg => ?_, hst, Evolve.refl _ _ _, ?_, Marks.nil _ _ _ _, fun t => ?_⟩
 ·rcases hst.names b with ⟨blk, g', q1, _⟩ | ⟨_, q1⟩
  ·cases q1
  ·have hg' : γ b = some g := hg
   rw [hg'] at q1; cases q1
 ·simp [hl]; omega
 ·simp only [St.get, lk_frameOf, Nat.zero_le, if_true, Nat.sub_zero]
  rw [Array.getD_eq_getD_getElem?]
  by_cases ht : t < vs.length
  ·have h1 : (vs.toArray ++ Array.replicate (fn.ntmps - vs.toArray.size) undef)[t]? = vs[t]? := by
    rw [Array.getElem?_append_left (by simpa using ht)]; simp
   have h2 : t < args.length := by omega
   rw [h1, List.getElem?_eq_getElem ht, List.getElem?_eq_getElem h2]
   exact hr t _ _ (List.getElem?_eq_getElem h2) (List.getElem?_eq_getElem ht)
  ·rw [List.getElem?_eq_none (by omega : args.length ≤ t)]
   exact .junk _
theorem CallP.of_defer {P : Prg} {k : FuncId} {fn : Func} {c0 c1 rest : Code} {r3 : Nat} {q1 q2 : Oper} {t9 : Tmp} {caps : Array Operand} {args : List D} {val : D} {N : Nat}
  {g : FuncId} {gfn : Func} {N2 r0 : Nat} {ops0 : Array Oper} {o1 o2 : Oper} {ta tb : Tmp} {gc : Code} {call1 call2 : Call}
  (hf : P.prog.funcs[k]? = some fn) (hb : fn.body = some (.seq c0 (.seq c1 (.seq (.region r3 #[q1, q2] false) rest)))) (hn : (fn.name == "runtime.NumGoroutine") = false) (hN : fn.ntmps = N) (hle : args.length ≤ N)
  (e1 : q1.op = .makeFunc (.func g) #[] caps) (e2 : q2.op = .defer call2) (ec : call2.callee = .value (.tmp t9)) (ea : call2.args = #[]) (eg1 : q1.guard = none) (eg2 : q2.guard = none) (ed1 : q1.dst = some t9) (ed2 : q2.dst = none) (h9 : t9 < N)
  (gf : P.prog.funcs[g]? = some gfn) (gb : gfn.body = some (.seq (.region r0 ops0 false) gc)) (gN : gfn.ntmps = N2) (gres : gfn.results = #[]) (gname : (gfn.name == "runtime.NumGoroutine") = false)
  (hops : ops0 = #[o1, o2]) (g1 : o1.guard = none) (g2 : o2.guard = none) (d1 : o1.dst = some ta) (d2 : o2.dst = some tb) (p2 : o2.op = .assign (.tmp ta)) (p1 : o1.op = .call call1) (pc : call1.callee = .builtin .recover) (pa : call1.args = #[])
  (ha : caps.size ≤ ta) (hNl : caps.size ≤ N2) (ha2 : ta < N2) (hb2 : tb < N2) (hab : ta ≠ tb) (st1 : St) (hj : st1.get t9 = .junk) (hcl : Clo (fun _ => False) val)
  (h01 : WP P [MS] N c0 (fun e st' => e = .normal ∧ WP P [MS] N c1 (fun e st'' => e = .normal ∧ Weak [MS] st'' st1) st') ⟨frameOf 0 args, []⟩)
  (hrest : WP P (st1.σ.map (·.1)) N rest (fun e st => ∃ u u' x xv, DEnd P fn N2 tb gc (caps.toList.map (evalD st1.get)) val e st u u' x xv) st1) : CallP P k args val := by
 refine ⟨⟨fn, hf, hn, by simp [hb]⟩, fun m γ w vs hst hl hr => ?_⟩
 refine callsIn_wide.1 (callsIn_of_wp_marks (n := 0) hf hb trivial ?_ rfl)
 have hrel0 := rel_enter (P := P) (fn := fn) (ent := [MS]) hN hle hst hl hr
 refine wpIn_seq (wpIn_mono (h01 Fence.wide 0 (OkF.wide _) _ _ _ hrel0) ?_)
 rintro e a1 w1 ⟨st', ⟨rfl, h1⟩, hr1⟩
 show Code.wpIn _ _ _ _ _ _ _
 refine wpIn_seq (wpIn_mono (h1 Fence.wide 0 (OkF.wide _) _ _ _ hr1) ?_)
 rintro e a2 w2 ⟨st'', ⟨rfl, hw⟩, hr2⟩
 show Code.wpIn _ _ _ _ _ _ _
 obtain ⟨γ2, k1, k2, k3, k4, k5, k6⟩ := hw P _ N a2 w2 hr2
 have hdf : a2.defers = [] := by
  obtain ⟨Ds, ⟨x1, x2⟩, _⟩ := k5
  rw [x1, x2 (by simp)]; rfl
 refine wpIn_seq (wpIn_region ?_)
 rw [show List.range (#[q1, q2] : Array Oper).size = [0, 1] from rfl]
 refine ops_hand (o := q1) rfl eg1 ⟨fun f _ => trivial, ?_⟩
 rw [Oper.semAt_plain Fence.wide _ _ (by rw [e1]; intro c hc; cases hc)]
 have hrun1 : (execOp a2.eval q1).run P.prog w2 = .ok (.value (.func (.func g) #[] (caps.map a2.eval))) w2 := by
  simp [execOp, e1, Instr.makeFunc]
 rw [hrun1]
 show wpOpsIn _ _ _ _ _ _ _ _
 refine ops_hand (o := q2) rfl eg2 ⟨fun f _ => trivial, ?_⟩
 rw [show Oper.semAt Fence.wide.round = Oper.semAt none from rfl, Oper.semAt_none, ed1]
 have he9 : (a2.put (some t9) (.func (.func g) #[] (caps.map a2.eval))).eval (.tmp t9) = .func (.func g) #[] (caps.map a2.eval) := by
  show (a2.put (some t9) _).tmps.getD t9 undef = _
  rw [put_get (by intro t' e; cases e; rw [k4]; exact h9), if_pos rfl]
 have hrun2 : (execOp (a2.put (some t9) (.func (.func g) #[] (caps.map a2.eval))).eval q2).run P.prog w2 = .ok (.defer { target := .fn (.func g) (caps.map a2.eval), args := #[] }) w2 := by
  obtain ⟨cal, ars, tys⟩ := call2
  simp only at ec ea
  subst ec; subst ea
  simp only [execOp, e2, resolve, he9, Deferred.ofValue, Sem.run_bind, Sem.run_pure, Result.andThen_ok]
  simp
 rw [hrun2]
 rw [Oper.uponIn_defer, ed2]
 show Code.wpIn _ _ _ _ _ _ _
 have hrel3 : Rel (⟨m, γ2, w2, max w2.heap.size P.n, Nat.le_refl _, [{ target := .fn (.func g) (caps.map a2.eval), args := #[] }]⟩ : Ent P) (st1.σ.map (·.1)) N st1.get (lk st1.σ)
   (Act.put { (a2.put (some t9) (.func (.func g) #[] (caps.map a2.eval))) with defers := { target := .fn (.func g) (caps.map a2.eval), args := #[] } :: (a2.put (some t9) (.func (.func g) #[] (caps.map a2.eval))).defers } none undef) w2 := by
  refine ⟨γ2, fun b g' hg => ?_, k2, Evolve.refl _ _ _, ?_, ?_, fun t => ?_⟩
  ·rcases k2.names b with ⟨blk, g'', y1, _⟩ | ⟨_, y1⟩
   ·exact List.mem_map.2 ⟨(b, blk), lk_mem _ _ _ y1, rfl⟩
   ·have hg' : γ2 b = some g' := hg
    rw [hg'] at y1; cases y1
  ·rw [put_size]
   show (a2.put (some t9) _).tmps.size = N
   rw [put_size]; exact k4
  ·have : (Act.put { (a2.put (some t9) (.func (.func g) #[] (caps.map a2.eval))) with defers := { target := .fn (.func g) (caps.map a2.eval), args := #[] } :: (a2.put (some t9) (.func (.func g) #[] (caps.map a2.eval))).defers } none undef).defers = [{ target := .fn (.func g) (caps.map a2.eval), args := #[] }] := by
    rw [put_defers]
    show _ :: (a2.put (some t9) _).defers = _
    rw [put_defers, hdf]
   rw [this]
   exact Marks.nil _ _ _ _
  ·show Rep _ _ _ _ ((a2.put (some t9) _).tmps.getD t undef)
   rw [put_get (by intro t' e; cases e; rw [k4]; exact h9)]
   by_cases ht : t9 = t
   ·subst ht
    rw [hj]; exact .junk _
   ·rw [if_neg (by simpa using ht)]
    exact k6 t
 refine wpIn_mono (hrest Fence.wide 0 (OkF.wide _) _ _ _ hrel3) ?_
 rintro e a' w' ⟨st, ⟨u, u', x, xv, hd⟩, γ', r1, r2, r3, r4, r5, r6⟩
 obtain ⟨Ds, ⟨z1, _⟩, z2, z3⟩ := r5
 have hune : u ≠ .run := by
  have := hd.rcv
  cases this <;> simp
 have hset : settle u' = .returning := by
  have := hd.rcv
  cases this <;> simp [settle]
 have key := leaves_marks (P := P) (E := ⟨m, γ2, w2, max w2.heap.size P.n, Nat.le_refl _, [{ target := .fn (.func g) (caps.map a2.eval), args := #[] }]⟩) (fn := fn) (tmps := a'.tmps) (F := st.get) (σ := lk st.σ) (γ := γ2) (γ' := γ') (w := w2)
  (T := [{ target := .fn (.func g) (caps.map a2.eval), args := #[] }]) (n := max w2.heap.size P.n) (by omega) (u := u) hune
  (R := fun e w' => ∃ v γ', e = .returned v ∧ Store (P.base m) γ' (lk []) w' ∧ Evolve (Mall (P.base m) γ) γ w (Mall (P.base m) γ') γ' w' ∧ Rep (Mall (P.base m) γ') γ' w' val v)
  (fun w4 g2' g3' g6' => by
   refine ⟨hune, .inr ⟨(fun e => by cases e), .func g, caps.map a2.eval, g, #[] ++ caps.map a2.eval, rfl, ?_, fun _ _ => trivial, ?_⟩⟩
   ·simp only [invoke, callFunc, Sem.run_bind, run_program, Result.andThen_ok, gf, gname]
    simp [gb]
   ·refine deferred_clos (cs := caps.toList.map (evalD st1.get)) (Q := fun σ' => ∃ d, resD P.prog fn ⟨st.F, σ'⟩ = some d ∧ Le d val) gf gb gN gres hops g1 g2 d1 d2 p2 p1 pc pa hd.rcv hd.rep g2' (by simp) (by simpa using ha) (by simpa using hNl) ha2 hb2 hab (fun i d v hi hv => ?_) hd.wp ?_
    ·have hi' : i < caps.size := by
      have := (List.getElem?_eq_some_iff.1 hi).1
      simpa using this
     rw [List.getElem?_map] at hi
     obtain ⟨o, ho, rfl⟩ := Option.map_eq_some_iff.1 hi
     have hv' : v = a2.eval o := by
      have ho' : caps[i]? = some o := by simpa using ho
      rw [Array.empty_append, Array.getElem?_map, ho'] at hv
      simpa using hv.symm
     rw [hv']
     exact (eval_rep k6 o).evolve g3'
    ·rintro w5 γ5 σ5 s5 ev5 ⟨dd, hdd, hle'⟩ v
     show LeavesInM _ _ _ _ _ _ [] (settle u') w5
     rw [hset]
     show ∃ v, _
     obtain ⟨v', y1, y2⟩ := resD_spec (E := (⟨m, γ2, w2, max w2.heap.size P.n, Nat.le_refl _, []⟩ : Ent P)) (st := ⟨st.F, σ5⟩) s5 (a := a') (fun t => (g6' t).evolve ev5) hdd
     have evAll : Evolve (Mall (P.base m) γ) γ w (Mall (P.base m) γ5) γ5 w5 := (k3.trans g3').trans ev5
     obtain ⟨γ6, m1, m2, m3⟩ := Store.forget s5 evAll (l := []) (by simp) (by simp) (fun b g' hg => by
      have := k1 b g' hg
      rcases hst.names b with ⟨blk, g'', y1, _⟩ | ⟨_, y1⟩
      ·cases y1
      ·rw [hg] at y1; cases y1)
     exact ⟨v', y1, v', γ6, rfl, m1, m2, m3 _ _ (hle' _ _ _ _ y2) (hcl.mono fun _ h => h.elim)⟩) (by omega) Ds a'.defers w' z1 z2 z3 r2 r3 r6
 rcases hd.how with ⟨he, rfl⟩ | ⟨rfl, rfl⟩
 ·rcases he with rfl | rfl <;> exact key
 ·exact key
section
variable {P : Prg} {f g : Nat → Nat} {m : Nat → Nat → Prop}
theorem CallT.rename (h : ∀ n, g (f n) = n) {k : FuncId} {args : List D} {ins outs : List (Nat × Blk)} {val : D} {x0 : Option Value} (hc : CallT P x0 k args ins val outs) : CallT P x0 k (args.map (renD f)) (renS f ins) (renD f val) (renS f outs) := by
 refine ⟨hc.1, fun M γ' w vs hst hl hr => ?_⟩
 have hb := fun {c x} (q : γ' c = some x) => back_of h hst q
 refine (hc.2 M (fun b => γ' (f b)) w vs (hst.back h) (by simpa using hl) (fun i d v hd hv => ?_)).mono ?_
 ·have := ((hr i (renD f d) v (by rw [List.getElem?_map, hd]; rfl) hv).ren (γ' := fun b => γ' (f b)) (f := g) (fun c y hy => by show γ' (f (g c)) = some y; rw [hb hy]; exact hy)).same (fun B off => mall_back h hst B off)
  rw [renD_back h] at this
  exact this
 ·rintro e w' ⟨v, γ₂, rfl, q1, q2, q3⟩
  refine ⟨v, fwd f g γ₂, rfl, q1.forth h, ?_, ?_⟩
  ·refine ⟨q2.os, q2.tape, q2.output, q2.size, fun B off u hm hu => q2.cell B off u (fun q => hm ((mall_back h hst B off).1 q)) hu, fun B off hm hlt => (mall_back h hst B off).1 (q2.wr B off ((mall_fwd h γ₂ B off).1 hm) hlt), fun c x hx => ?_, fun B hB hn => q2.block B hB (fun b x hx => hn (f b) x hx), fun c x B hx hB hlt => ?_⟩
   ·obtain ⟨x', r1, r2⟩ := q2.names (g c) x (by show γ' (f (g c)) = some x; rw [hb hx]; exact hx)
    exact ⟨x', by rw [← hb hx, fwd_at h]; exact r1, r2⟩
   ·obtain ⟨b', x', r1, r2⟩ := q2.old (g c) x B (fwd_inv hx).2 hB hlt
    exact ⟨f b', x', r1, r2⟩
  ·exact (q3.ren (γ' := fwd f g γ₂) (f := f) (fun b y hy => (fwd_at h γ₂ b).trans hy)).same (fun B off => mall_fwd h γ₂ B off)
end
end Go.Id
namespace Go.Id
open Go
def Fixd : Blk → Prop
 | .box .. | .arr .. | .map .. => True
 | _ => False
theorem ent_fixed {P : Prg} {E : Ent P} {ent : List Nat} {σ : Nat → Option Blk} {γ : Nat → Option G} {w : World} {t : Nat} (h1 : ∀ b g, E.γ b = some g → b ∈ ent) (h2 : Store E.M γ σ w) (h3 : Evolve (Mall E.M E.γ) E.γ E.w (Mall E.M γ) γ w)
  (hent : ∀ b ∈ ent, b ≠ t ∧ ∃ blk, σ b = some blk ∧ Fixd blk) : ∀ b g, E.γ b = some g → b ≠ t ∧ γ b = some g := by
 intro b g hg
 obtain ⟨hne, blk, hb, hf⟩ := hent b (h1 b g hg)
 obtain ⟨g', hg', hle⟩ := h3.names b g hg
 refine ⟨hne, ?_⟩
 cases g with
 | tip sz e v n =>
  obtain ⟨v', n', rfl, _⟩ := hle
  obtain ⟨g2, q1, q2⟩ := h2.hit hb
  rw [hg'] at q1; cases q1
  cases q2 <;> exact hf.elim
 | _ => rw [hg']; exact congrArg some hle
theorem Weak.tipArrE {ent : List Nat} {st : St} (t : Nat) (e : TypeId) (sz : Nat) (es : List (List D)) (k0 : Nat) {F' : List (Nat × D)} {σ' : List (Nat × Blk)} (hk : st.get k0 = .slice sz false es (some t)) (hb : lk st.σ t = some (.tip e sz es.length)) (hes : ∀ x ∈ es, ∀ d ∈ x, Fr t d)
  (hσt : lk σ' t = some (.arr e es.flatten)) (hσ : ∀ b, b ≠ t → lk σ' b = lk st.σ b) (hσc : ∀ p ∈ st.σ, p.1 ≠ t → BFr t p.2) (hF : ∀ p ∈ F', (p.1 = k0 ∧ p.2 = .arr t sz es.length) ∨ (st.get p.1 = p.2 ∧ Fr t p.2)) (hent : ∀ b ∈ ent, b ≠ t ∧ ∃ blk, lk st.σ b = some blk ∧ Fixd blk) : Weak ent st ⟨F', σ'⟩ := by
 rintro P E N a w ⟨γ, h1, h2, h3, h4, h5, h6⟩
 have hE := ent_fixed h1 h2 h3 hent
 obtain ⟨g, q1, q2⟩ := h2.hit hb
 have hsl := h6 k0
 rw [hk] at hsl
 generalize hv0 : a.tmps.getD k0 undef = v0 at hsl
 rcases rep_slice_cells hsl with ⟨_, _, hn⟩ | ⟨ad, cap, vs, rfl, _, hspot, hvs, hcap, hsz, hcell, hr, htip⟩
 ·cases hn
 cases q2 with
 | @tip _ _ _ v xs ho =>
  obtain ⟨_, _, v', n', p1, p2, p3⟩ := htip t rfl
  rw [q1] at p1
  simp only [Option.some.injEq, G.tip.injEq] at p1
  obtain ⟨rfl, rfl, rfl, rfl⟩ := p1
  have hv := p3 rfl
  rcases ho.2 with ⟨h0, _⟩ | ⟨B, cap', cur, hvB, _, hB, hnc, hcm, hcs, htake⟩
  ·rw [h0] at hv; cases hv
  rw [hvB] at hv
  simp only [Value.slice.injEq, Option.some.injEq, true_and] at hv
  obtain ⟨rfl, rfl⟩ := hv
  let g' : G := .arr B cap sz
  have hnew : ¬ B < E.w.heap.size := fun hlt => by
   obtain ⟨b', g0, r1, r2⟩ := h3.old t _ B q1 (by rw [hvB]; rfl) hlt
   obtain ⟨hne, hg⟩ := hE b' g0 r1
   exact hne (h2.dist b' t g0 _ B hg q1 r2 (by rw [hvB]; rfl))
  have hgB : (G.tip sz e v es.length).block = some B := by rw [hvB]; rfl
  have hother : ∀ i, i ≠ t → upd γ t (some g') i = γ i := fun i hi => upd_other _ _ hi
  have hback : ∀ i gi, upd γ t (some g') i = some gi → ∃ g0, γ i = some g0 ∧ g0.block = gi.block := by
   intro i gi hg
   by_cases hi : i = t
   ·subst hi; rw [upd_same] at hg; cases hg; exact ⟨_, q1, hgB⟩
   ·rw [hother i hi] at hg; exact ⟨gi, hg, rfl⟩
  have hflen := flat_len es hsz
  have hMB : ∀ off, ¬ E.M.M B off := fun off hm => h2.apart t _ B off q1 hgB hm
  refine ⟨upd γ t (some g'), h1, ⟨fun i => ?_, fun i i' gi gi' B' a1 a2 a3 a4 => ?_, h2.outer, fun i gi B' off a1 a2 => ?_, h2.inv, fun i gi B' a1 a2 => ?_, h2.big⟩, ?_, h4, h5.back (fun b g B q1 q2 => by obtain ⟨g0, r1, r2⟩ := hback _ _ q1; exact ⟨b, g0, r1, r2.trans q2⟩), fun k => ?_⟩
  ·by_cases hi : i = t
   ·subst hi
    refine .inl ⟨.arr e es.flatten, g', hσt, upd_same _ _ _, ?_⟩
    refine .arr cur e (0, 0) hB (by rw [hflen, hcs]; exact Nat.mul_le_mul_right _ hcap) (fun j u hj hu => ⟨?_, by simp [World.frozen?, hB]⟩) (fun j d u hd hu => ?_) ⟨rfl, hcs, hcm⟩
    ·have hjv : j < vs.length := by omega
     have := hcell j _ (List.getElem?_eq_getElem hjv)
     simp only [Nat.zero_add] at this
     have hc := this.1
     rw [cell_of_row w B j cur e _ hB, hu] at hc
     have : u = vs[j] := by simpa using hc
     rw [this]; exact (hcell j _ (List.getElem?_eq_getElem hjv)).2.2
    ·obtain ⟨x, r1, r2⟩ := flat_at es hsz j d hd
     have hjv : j < vs.length := by have := (List.getElem?_eq_some_iff.1 hd).1; omega
     have := hcell j _ (List.getElem?_eq_getElem hjv)
     simp only [Nat.zero_add] at this
     have hc := this.1
     rw [cell_of_row w B j cur e _ hB, hu] at hc
     have hu' : u = vs[j] := by simpa using hc
     have h7 := hr (j / sz) (j % sz) x d vs[j] r1 r2 (by rw [Nat.div_add_mod']; exact List.getElem?_eq_getElem hjv)
     rw [hu']
     exact (hes x (List.mem_of_getElem? r1) d (List.mem_of_getElem? r2)).rep hother h7
   ·show (∃ blk g, lk σ' i = some blk ∧ _) ∨ (lk σ' i = none ∧ _)
    rw [hσ i hi, hother i hi]
    rcases h2.names i with ⟨blk, gi, a1, a2, a3⟩ | ⟨a1, a2⟩
    ·exact .inl ⟨blk, gi, a1, a2, (hσc _ (lk_mem _ _ _ a1) hi).rel hother a3⟩
    ·exact .inr ⟨a1, a2⟩
  ·obtain ⟨g1, b1, b2⟩ := hback _ _ a1
   obtain ⟨g2, b3, b4⟩ := hback _ _ a2
   exact h2.dist i i' g1 g2 B' b1 b3 (b2.trans a3) (b4.trans a4)
  ·obtain ⟨g1, b1, b2⟩ := hback _ _ a1
   exact h2.apart i g1 B' off b1 (b2.trans a2)
  ·obtain ⟨g1, b1, b2⟩ := hback _ _ a1
   exact h2.low i g1 B' b1 (b2.trans a2)
  ·refine ⟨h3.os, h3.tape, h3.output, h3.size, h3.cell, fun B' off hm hlt => ?_, fun b g0 hg => ⟨g0, by rw [hother b (hE b g0 hg).1]; exact (hE b g0 hg).2, G.le_refl g0⟩, fun B' hlt hno => h3.block B' hlt hno, fun b g0 B' hg hgB' hlt => ?_⟩
   ·rcases hm with hm | ⟨i, gi, hg, hw⟩
    ·exact h3.wr B' off (.inl hm) hlt
    ·by_cases hi : i = t
     ·subst hi; rw [upd_same] at hg; cases hg
      have : B' = B := hw
      subst this
      exact absurd hlt hnew
     ·rw [hother i hi] at hg; exact h3.wr B' off (.inr ⟨i, gi, hg, hw⟩) hlt
   ·obtain ⟨g1, b1, b2⟩ := hback _ _ hg
    exact h3.old b g1 B' b1 (b2.trans hgB') hlt
  ·have h0 := h6 k
   show Rep _ _ _ ((lk F' k).getD .junk) _
   cases hl : lk F' k with
   | none => exact .junk _
   | some d =>
    rcases hF _ (lk_mem _ _ _ hl) with ⟨rfl, rfl⟩ | ⟨r1, r2⟩
    ·rw [hv0]
     exact .arr (upd_same _ _ _) hcap
    ·dsimp only at r1 r2
     rw [r1] at h0
     exact r2.rep hother h0
end Go.Id
namespace Go.Id
open Go
def withV (es : List (List UInt8 × D × Nat)) (vs : List Value) : List (List UInt8 × D × Nat) := (es.zip vs).map fun p => (p.1.1, .val p.2, p.1.2.2)
theorem withV_len {es : List (List UInt8 × D × Nat)} {vs : List Value} (h : vs.length = es.length) : (withV es vs).length = es.length := by simp [withV, h]
theorem withV_at {es : List (List UInt8 × D × Nat)} {vs : List Value} {j : Nat} {k : List UInt8} {d : D} {n : Nat} {v : Value} (h1 : es[j]? = some (k, d, n)) (h2 : vs[j]? = some v) : (withV es vs)[j]? = some (k, .val v, n) := by
 unfold withV
 rw [List.getElem?_map, (List.getElem?_zip_eq_some (z := ((k, d, n), v))).2 ⟨h1, h2⟩]
 rfl
theorem withV_of {es : List (List UInt8 × D × Nat)} {vs : List Value} {j : Nat} {k : List UInt8} {d : D} {n : Nat} (h : (withV es vs)[j]? = some (k, d, n)) : ∃ d0 v, es[j]? = some (k, d0, n) ∧ vs[j]? = some v ∧ d = .val v := by
 unfold withV at h
 rw [List.getElem?_map, Option.map_eq_some_iff] at h
 obtain ⟨⟨⟨k0, d0, n0⟩, v⟩, h1, h2⟩ := h
 rw [List.getElem?_zip_eq_some] at h1
 simp only [Prod.mk.injEq] at h2
 obtain ⟨rfl, rfl, rfl⟩ := h2
 exact ⟨d0, v, h1.1, h1.2, rfl⟩
theorem CallE.mapVals {P : Prg} {k : FuncId} {args : List D} {val : D} {b : Nat} {es : List (List UInt8 × D × Nat)} {c : Nat} {rest : List (Nat × Blk)}
  (h : ∀ vs : List Value, vs.length = es.length → CallE P k args ((b, .map (withV es vs) c) :: rest) val ((b, .map (withV es vs) c) :: rest)) : CallE P k args ((b, .map es c) :: rest) val ((b, .map es c) :: rest) := by
 refine ⟨(h (List.replicate es.length undef) (by simp)).1, fun M γ w as hst hl hr => ?_⟩
 have hlk : ∀ (x : Blk) (i : Nat), lk ((b, x) :: rest) i = if b = i then some x else lk rest i := fun x i => by simp only [lk]; by_cases h : b = i <;> simp [h, eq_comm]
 obtain ⟨g, q1, q2⟩ := hst.hit (b := b) (show lk ((b, .map es c) :: rest) b = some (.map es c) by rw [hlk, if_pos rfl])
 cases q2 with
 | @map _ _ B en hB hlen hk =>
  have hvl : (en.toList.map (·.val)).length = es.length := by simpa using hlen
  have hst' : Store (P.base M) γ (lk ((b, .map (withV es (en.toList.map (·.val))) c) :: rest)) w := by
   refine ⟨fun i => ?_, hst.dist, hst.outer, hst.apart, hst.inv, hst.low, hst.big⟩
   by_cases hi : b = i
   ·subst hi
    refine .inl ⟨_, _, by rw [hlk, if_pos rfl], q1, .map en hB (by rw [withV_len hvl]; exact hlen) fun j e k d n he hd => ?_⟩
    obtain ⟨d0, v, h1, h2, rfl⟩ := withV_of hd
    obtain ⟨r1, r2, r3⟩ := hk j e k d0 n he h1
    rw [List.getElem?_map, Array.getElem?_toList, he] at h2
    simp only [Option.map_some, Option.some.injEq] at h2
    subst h2
    exact ⟨r1, r2, .val _⟩
   ·have := hst.names i
    rw [hlk, if_neg hi] at this
    rw [hlk, if_neg hi]
    exact this
  refine ((h _ hvl).2 M γ w as hst' hl hr).mono ?_
  rintro e w' ⟨v, γ', rfl, s1, ev, rv⟩
  refine ⟨v, γ', rfl, ⟨fun i => ?_, s1.dist, s1.outer, s1.apart, s1.inv, s1.low, s1.big⟩, ev, rv⟩
  by_cases hi : b = i
  ·subst hi
   obtain ⟨g', r1, r2⟩ := s1.hit (b := b) (show lk ((b, .map (withV es (en.toList.map (·.val))) c) :: rest) b = some _ by rw [hlk, if_pos rfl])
   refine .inl ⟨_, g', by rw [hlk, if_pos rfl], r1, ?_⟩
   cases r2 with
   | @map _ _ B' en' hB' hlen' hk' =>
    rw [withV_len hvl] at hlen'
    refine .map en' hB' hlen' fun j e k d n he hd => ?_
    have hj : j < en.size := by rw [hlen]; exact (List.getElem?_eq_some_iff.1 hd).1
    have hv : (en.toList.map (·.val))[j]? = some (en[j].val) := by
     rw [List.getElem?_map, Array.getElem?_toList, Array.getElem?_eq_getElem hj]; rfl
    obtain ⟨a1, a2, a3⟩ := hk' j e k _ n he (withV_at hd hv)
    obtain ⟨_, _, b3⟩ := hk j en[j] k d n (Array.getElem?_eq_getElem hj) hd
    have hval : e.val = en[j].val := by
     generalize e.val = u at a3
     cases a3; rfl
    rw [hval]
    exact ⟨a1, a2, b3.evolve ev⟩
  ·have := s1.names i
   rw [hlk, if_neg hi] at this
   rw [hlk, if_neg hi]
   exact this
end Go.Id
