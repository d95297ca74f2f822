/-
  The evaluator answers what the model's runs come to: functions; what a function that only looks and makes hands back.
-/
import Derived.Test.YtohhkgieggfpeaaF1
set_option linter.unusedVariables false
namespace Go.Rf
open Go

/-- A function, as the evaluator knows it, is the program's. -/
structure FnOk (P : Program) (f : FuncId) (fi : FnI) : Prop where
  ex : ∃ fn, P.funcs[f]? = some fn ∧ fn.body = some fi.code ∧ fn.ntmps = fi.nt ∧ fn.results.toList = fi.res ∧ (fn.name == "runtime.NumGoroutine") = false
  ok : codeOk fi.code = true
def FnsOk (P : Program) (Γ : Ctx) : Prop := ∀ f fi, look Γ.fns f = some fi → FnOk P f fi
/-- What is told of loops is so. -/
def LpOk (P : Program) (Γ : Ctx) : Prop := ∀ f fi, look Γ.fns f = some fi → ∀ c ∈ loopsIn fi.code, LoopSem P fi.nt c (Γ.lp f (lid c))

section
variable {β0 : Bm} {H0 : List Blk} {w0 : World} {β : Bm} {H : List Blk} {w : World} {P : Program} {Γ : Ctx}

theorem argTm_get : ∀ (l : List AV) (i d : Nat), get (argTm i l) d = if i ≤ d then (l[d - i]?).getD .top else .top
  | [], i, d => by simp [argTm, get, look]
  | v :: r, i, d => by
    simp only [argTm]
    rw [look_put]
    by_cases e : i = d
    · subst e; simp
    · rw [if_neg e, argTm_get r (i + 1) d]
      by_cases h : i ≤ d
      · rw [if_pos h, if_pos (by omega), show d - i = (d - (i + 1)) + 1 by omega, List.getElem?_cons_succ]
      · rw [if_neg h, if_neg (by omega)]

def resOne (tmps : Array Value) : ResultVar → Sem Value
  | .tmp t => pure (tmps.getD t undef)
  | .cell a t => do loadVar t (← asAddr (tmps.getD a undef))
theorem results_eq (fn : Func) (tmps : Array Value) : results fn tmps = (do let vs ← fn.results.mapM (resOne tmps); pure (if h : vs.size = 1 then vs[0] else .tuple vs)) := by
  unfold results
  congr 1
theorem run_resOne (hT : chkTab P Γ.ty = true) (hw : WR β H w) {tm : List (Nat × AV)} {tmps : Array Value} (hv : RTm β H tm tmps) : ∀ {rs : List ResultVar} {xs : List TV}, resTV Γ tm H rs = some xs →
    ∃ vs : List Value, (rs.mapM (resOne tmps) : Sem (List Value)).run P w = .ok vs w ∧ All2 (RT β H) xs vs
  | [], xs, h => by simp only [resTV] at h; cases h; exact ⟨[], by simp, .nil⟩
  | .tmp t :: r, xs, h => by
    simp only [resTV] at h
    split at h
    · rename_i x hx
      split at h
      · rename_i ys hys
        cases h
        obtain ⟨vs, h1, h2⟩ := run_resOne hT hw hv hys
        have e := hv t
        rw [hx] at e
        refine ⟨tmps.getD t undef :: vs, ?_, .cons e h2⟩
        simp only [List.mapM_cons, Sem.run_bind, resOne, Sem.run_pure, Result.andThen_ok]
        rw [h1]; rfl
      · cases h
    · cases h
  | .cell t T :: r, xs, h => by
    simp only [resTV] at h
    split at h
    · rename_i u off ext hx
      have e := hv t
      rw [hx] at e
      have e : RAt β H (.ptr u off ext) (tmps.getD t undef) := e
      split at h
      · rename_i i b hi hb
        have fin : ∀ {x : TV}, (i.agg = false → i.size = 1) → (match i.agg with | true => ∃ cs, getN b.body off i.size = some cs ∧ x = .agg cs | false => ∃ a, b.body.get off = some a ∧ x = .one a) → i.size ≤ ext →
            (match resTV Γ tm H r with | some xs => some (x :: xs) | none => none) = some xs → ∃ vs : List Value, ((ResultVar.cell t T :: r).mapM (resOne tmps) : Sem (List Value)).run P w = .ok vs w ∧ All2 (RT β H) xs vs := by
          intro x h1 h2 hle h
          split at h
          · rename_i ys hys
            cases h
            obtain ⟨vs, g1, g2⟩ := run_resOne hT hw hv hys
            obtain ⟨u', k1, k2⟩ := run_load_ptr (tab_fact hT hi) hw e hb hle h1 h2
            obtain ⟨B, o, C, _, _, _, he⟩ := e
            rw [he] at k1
            simp only [Instr.loadAt, Instr.sureAddr, Sem.run_bind, Sem.run_pure, Result.andThen_ok] at k1
            refine ⟨u' :: vs, ?_, .cons k2 g2⟩
            have ha : (asAddr (tmps.getD t undef)).run P w = .ok ⟨B, o + off, none⟩ w := by rw [he]; rfl
            simp only [List.mapM_cons, resOne, Sem.run_bind, ha, Sem.run_pure, Result.andThen_ok, k1]
            rw [g1]; rfl
          · cases h
        split at h
        · cases h
        · rename_i hle
          have hle := ble_le hle
          split at h
          · rename_i hag
            split at h
            · rename_i cs hcs
              exact fin (by rw [hag]; intro q; cases q) (by rw [hag]; exact ⟨cs, hcs, rfl⟩) hle h
            · cases h
          · rename_i hag
            split at h
            · rename_i hs1
              split at h
              · rename_i q hq
                split at h
                · cases h
                · exact fin (fun _ => beq_eq hs1) (by rw [hag]; exact ⟨q, hq, rfl⟩) hle h
              · cases h
            · cases h
      · cases h
    · cases h

theorem run_res (hT : chkTab P Γ.ty = true) (hw : WR β H w) {tm : List (Nat × AV)} {tmps : Array Value} (hv : RTm β H tm tmps) {fn : Func} {x : AV} (h : resAV Γ tm H fn.results.toList = some x) : ∃ v, (results fn tmps).run P w = .ok v w ∧ RV β H x v := by
  unfold resAV at h
  have arr : ∀ vs : List Value, (fn.results.toList.mapM (resOne tmps) : Sem (List Value)).run P w = .ok vs w →
      (results fn tmps).run P w = .ok (if h : vs.toArray.size = 1 then vs.toArray[0] else .tuple vs.toArray) w := by
    intro vs hvs
    rw [results_eq, Array.mapM_eq_mapM_toList]
    simp only [Sem.run_bind, Sem.run_map, hvs, Result.andThen_ok, Sem.run_pure]
  split at h
  · rename_i y hy
    cases h
    obtain ⟨vs, h1, h2⟩ := run_resOne hT hw hv hy
    cases h2 with
    | cons k1 k2 =>
      cases k2
      exact ⟨_, arr _ h1, k1⟩
  · rename_i xs hne hxs
    cases h
    obtain ⟨vs, h1, h2⟩ := run_resOne hT hw hv hxs
    have hlen : vs.length ≠ 1 := by
      rw [← h2.length]
      intro hl
      match xs, hl, hne with
      | [y], _, hne => exact hne y rfl
    refine ⟨_, arr _ h1, ?_⟩
    rw [dif_neg (by simpa using hlen)]
    exact ⟨vs.toArray, rfl, by simpa using h2⟩
  · cases h

theorem evBody_sound {R : Type} (hT : chkTab P Γ.ty = true) {hd : FuncId → List AV → List Blk → (AV → List Blk → Option R) → Option R} (hH : HdOk P hd) (hS : SumOk P Γ) (hm : P.follows .mixedOrders = true) {f : FuncId} {fi : FnI} (hf : FnOk P f fi) (hl : ∀ c ∈ loopsIn fi.code, LoopSem P fi.nt c (Γ.lp f (lid c))) {fuel : Nat} {args : List AV} {k : AV → List Blk → Option R} {r : R}
    (h : evBody Γ hd f fi fuel args H k = some r) {vals : Array Value} (hw : WR β H w) (hv : All2 (RV β H) args vals.toList) : CallRes P f vals w fun u w' => ∃ β' v H', Inv β H w β' H' w' ∧ RV β' H' v u ∧ k v H' = some r := by
  obtain ⟨⟨fn, h1, h2, h3, h4, h5⟩, hok⟩ := hf
  unfold evBody at h
  split at h
  · cases h
  · rename_i hle
    have hle := ble_le hle
    have hlen : vals.size = args.length := by rw [hv.length]; simp
    right
    refine ⟨?_, ?_⟩
    · have h5' : fn.name ≠ "runtime.NumGoroutine" := by simpa using h5
      simp [callFunc, h1, h5', h2]
    · refine calls_of_wp h1 h2 ?_
      have hR : Rel β H w fi.nt ⟨argTm 0 args, H⟩ { tmps := vals ++ Array.replicate (fn.ntmps - vals.size) undef, defers := [] } w := by
        refine ⟨β, Inv.start hw, fun d => ?_, ?_, rfl⟩
        · simp only
          rw [argTm_get, if_pos (Nat.zero_le _), Nat.sub_zero]
          by_cases hd' : d < args.length
          · obtain ⟨v, g1, g2⟩ := hv.get d _ (List.getElem?_eq_getElem hd')
            rw [List.getElem?_eq_getElem hd']
            have : (vals ++ Array.replicate (fn.ntmps - vals.size) undef).getD d undef = v := by
              rw [Array.getD_eq_getD_getElem?, Array.getElem?_append_left (by omega)]
              have : vals[d]? = some v := by simpa using g1
              rw [this]; rfl
            rw [this]; exact g2
          · rw [List.getElem?_eq_none (by omega)]; trivial
        · simp only [Array.size_append, Array.size_replicate]; omega
      refine wp_mono (evC_sound hT hH hS hm fi.code hl hok _ _ _ w hR h) fun e a' w' hq => ?_
      have fin : ∀ st, Rel β H w fi.nt st a' w' → (match resAV Γ st.tm st.H fi.res with
          | some v => match denilR fi.rn v st.H with | (v, H1) => match compact H.length [(0, v)] H1 with | ⟨tm, H'⟩ => k (get tm 0) H'
          | none => none) = some r → a'.defers = [] ∧ ∃ v, (results fn a'.tmps).run P w' = .ok v w' ∧ ∃ u, Ending.returned v = .returned u ∧ ∃ β' x H', Inv β H w β' H' w' ∧ RV β' H' x u ∧ k x H' = some r := by
        intro st hR h
        obtain ⟨β1, hI, hv1, hs, hdf⟩ := hR
        split at h
        · rename_i x hx
          rw [← h4] at hx
          obtain ⟨v, g1, g2⟩ := run_res hT hI.wr hv1 hx
          obtain ⟨β2, d1, d2⟩ := denilR_sound hI g2 fi.rn
          obtain ⟨β', c1, c2⟩ := compact_sound d1 [(0, (denilR fi.rn x st.H).1)]
          exact ⟨hdf, v, g1, v, rfl, β', _, _, c1, c2 0 v d2, h⟩
        · cases h
      cases e with
      | normal => obtain ⟨st, q1, q2⟩ := hq; exact fin st q1 q2
      | ret => obtain ⟨st, q1, q2⟩ := hq; exact fin st q1 q2
      | exit id => obtain ⟨st, q1, q2⟩ := hq; cases q2
      | _ => exact hq.elim

theorem evFn_sound {R : Type} (hT : chkTab P Γ.ty = true) (hF : FnsOk P Γ) (hL : LpOk P Γ) (hS : SumOk P Γ) (hm : P.follows .mixedOrders = true) {fuel : Nat} : ∀ (d : Nat), HdOk (R := R) P (evFn Γ fuel d)
  | 0 => fun g args H k r h => by cases h
  | d + 1 => fun g args H k r h => by
    simp only [evFn] at h
    split at h
    · rename_i fi hfi
      intro β w vals hw hv
      exact evBody_sound hT (evFn_sound hT hF hL hS hm d) hS hm (hF g fi hfi) (hL g fi hfi) h hw hv
    · cases h

/-! ### What is handed in, deep -/
def impA (n : Nat) : PV → At × List Blk
  | .s a => (a, [])
  | .row sz len b => (.vw n 0 len sz, [⟨false, b⟩])
def impAs : Nat → List PV → List At × List Blk
  | _, [] => ([], [])
  | n, p :: r => match impA n p with | (a, x) => match impAs (n + x.length) r with | (as, y) => (a :: as, x ++ y)
def impT (n : Nat) : PT → AV × List Blk
  | .one p => match impA n p with | (a, x) => (.v (.one a), x)
  | .agg ps => match impAs n ps with | (as, x) => (.v (.agg as), x)
  | .ptr ps => match impAs n ps with | (as, x) => (.v (.one (.ptr (n + x.length) 0 as.length)), x ++ [⟨false, .cells as⟩])
  | .fn f ps => match impAs n ps with | (as, x) => (.v (.one (.fn f as)), x)
def impTs : Nat → List PT → List AV × List Blk
  | _, [] => ([], [])
  | n, p :: r => match impT n p with | (a, x) => match impTs (n + x.length) r with | (as, y) => (a :: as, x ++ y)

/-- Memory of which nothing is the call's own. -/
def Foreign (H : List Blk) : Prop := ∀ t b, nth H t = some b → b.own = false
theorem Foreign.own {β : Bm} {H : List Blk} (h : Foreign H) (B : Nat) : ¬ OwnB β H B := fun ⟨t, b, o, C, h1, h2, h3⟩ => by rw [h t b h1] at h2; cases h2

theorem nth_app1 (H : List Blk) (b : Blk) (t : Nat) : nth (H ++ [b]) t = if t < H.length then nth H t else if t = H.length then some b else none := by
  rw [nth_app]
  by_cases h : t < H.length
  · rw [if_pos h, if_pos h]
  · rw [if_neg h, if_neg h]
    by_cases e : t = H.length
    · subst e; rw [if_pos rfl, Nat.sub_self]; rfl
    · rw [if_neg e]
      obtain ⟨k, hk⟩ : ∃ k, t - H.length = k + 1 := ⟨t - H.length - 1, by omega⟩
      rw [hk]; cases k <;> rfl

theorem push (hw : WR β H w) (hf : Foreign H) {b : Blk} (hb : b.own = false) {x : Option (Nat × Nat × Nat)}
    (hx : match x with | none => b.body.size = 0 | some (B, o, C) => B < w.heap.size ∧ ∀ j a, j < b.body.size → b.body.get j = some a → ∃ v, w.cell? ⟨B, o + j, none⟩ = some v ∧ RAt β H a v) :
    WR (upd β H.length x) (H ++ [b]) w ∧ Foreign (H ++ [b]) ∧ ∀ t, Mv β H (upd β H.length x) (H ++ [b]) t := by
  have hmv : ∀ t, Mv β H (upd β H.length x) (H ++ [b]) t := fun t y hy ht => by
    refine ⟨by rw [upd_ne _ _ (by omega)]; exact hy, by simp; omega, ?_⟩
    unfold szH
    rw [nth_app1, if_pos ht]
    exact Nat.le_refl _
  have hfor : Foreign (H ++ [b]) := by
    intro t c hc
    rw [nth_app1] at hc
    split at hc
    · exact hf t c hc
    · split at hc
      · cases hc; exact hb
      · cases hc
  refine ⟨⟨fun t c hc => ?_, fun t t' c c' y y' _ h1 _ ho _ _ _ => by rw [hfor t c h1] at ho; cases ho⟩, hfor, hmv⟩
  rw [nth_app1] at hc
  by_cases ht : t < H.length
  · rw [if_pos ht] at hc
    rw [upd_ne _ _ (by omega)]
    have := hw.blk t c hc
    split
    · rename_i e; rw [e] at this; exact this
    · rename_i B o C e
      rw [e] at this
      exact ⟨fun j a q1 q2 => (this.cell j a q1 q2).imp fun v hv => ⟨hv.1, hv.2.move fun t _ => hmv t⟩, this.own, this.lt⟩
  · rw [if_neg ht] at hc
    split at hc
    · rename_i e
      subst e
      cases hc
      rw [upd_same]
      cases x with
      | none => exact hx
      | some y =>
        obtain ⟨B, o, C⟩ := y
        exact ⟨fun j a q1 q2 => (hx.2 j a q1 q2).imp fun v hv => ⟨hv.1, hv.2.move fun t _ => hmv t⟩, (fun ho => by rw [hb] at ho; cases ho), hx.1⟩
    · cases hc

theorem R0_of_plain {a : At} {v : Value} (h : R0 NoB [] a v) : RAt β H a v := (RAt_iff β H a v).2 (.inr (h.move fun t _ x hx => by cases hx))

theorem impA_sound (hw : WR β H w) (hf : Foreign H) {p : PV} {v : Value} (hp : DA w p v) : ∃ β', WR β' (H ++ (impA H.length p).2) w ∧ Foreign (H ++ (impA H.length p).2) ∧ (∀ t, Mv β H β' (H ++ (impA H.length p).2) t) ∧ RAt β' (H ++ (impA H.length p).2) (impA H.length p).1 v := by
  cases p with
  | s a =>
    simp only [impA, List.append_nil]
    exact ⟨β, hw, hf, fun t x hx ht => ⟨hx, ht, Nat.le_refl _⟩, R0_of_plain hp⟩
  | row sz len b =>
    obtain ⟨hr, hsz, a, cap, rfl, hc, h⟩ := hp
    simp only [impA]
    by_cases hl : 0 < len
    · obtain ⟨B, o, rfl, hlt, hcell⟩ := h hl
      obtain ⟨k1, k2, k3⟩ := push hw hf (b := ⟨false, b⟩) rfl (x := some (B, o, 0)) ⟨hlt, fun j q hj hq => (hcell j q hj hq).imp fun u hu => ⟨hu.1, R0_of_plain hu.2⟩⟩
      refine ⟨_, k1, k2, k3, _, cap, rfl, hc, fun _ => ⟨B, o, 0, upd_same _ _ _, by simp, ?_, by simp⟩⟩
      unfold szH
      rw [nth_app1, if_neg (Nat.lt_irrefl _), if_pos rfl]
      simp only; omega
    · obtain rfl : len = 0 := by omega
      obtain ⟨k1, k2, k3⟩ := push hw hf (b := ⟨false, b⟩) rfl (x := none) (by simpa using hsz)
      exact ⟨_, k1, k2, k3, a, cap, rfl, hc, fun hh => absurd hh (Nat.lt_irrefl _)⟩
theorem impAs_sound : ∀ {ps : List PV} {vs : List Value} {β : Bm} {H : List Blk} (hw : WR β H w) (hf : Foreign H) (hp : All2 (DA w) ps vs), ∃ β', WR β' (H ++ (impAs H.length ps).2) w ∧ Foreign (H ++ (impAs H.length ps).2) ∧ (∀ t, Mv β H β' (H ++ (impAs H.length ps).2) t) ∧ All2 (RAt β' (H ++ (impAs H.length ps).2)) (impAs H.length ps).1 vs
  | [], [], β, H, hw, hf, .nil => by
    simp only [impAs, List.append_nil]
    exact ⟨β, hw, hf, fun t x hx ht => ⟨hx, ht, Nat.le_refl _⟩, .nil⟩
  | p :: ps, v :: vs, β, H, hw, hf, .cons h1 h2 => by
    obtain ⟨β1, a1, a2, a3, a4⟩ := impA_sound hw hf h1
    obtain ⟨β2, b1, b2, b3, b4⟩ := impAs_sound a1 a2 h2
    rw [List.length_append, List.append_assoc] at b1 b2 b4
    simp only [List.length_append, List.append_assoc] at b3
    simp only [impAs]
    exact ⟨β2, b1, b2, fun t => (a3 t).trans (b3 t), .cons (a4.move fun t _ => b3 t) b4⟩

theorem impT_sound (hw : WR β H w) (hf : Foreign H) {p : PT} {v : Value} (hp : DT w p v) : ∃ β', WR β' (H ++ (impT H.length p).2) w ∧ Foreign (H ++ (impT H.length p).2) ∧ (∀ t, Mv β H β' (H ++ (impT H.length p).2) t) ∧ RV β' (H ++ (impT H.length p).2) (impT H.length p).1 v := by
  cases p with
  | one p => exact impA_sound hw hf hp
  | agg ps =>
    obtain ⟨arr, rfl, h⟩ := hp
    obtain ⟨β', a1, a2, a3, a4⟩ := impAs_sound hw hf h
    exact ⟨β', a1, a2, a3, arr, rfl, a4⟩
  | ptr ps =>
    obtain ⟨B, o, rfl, hlt, h⟩ := hp
    -- the cells there
    have hvs : ∃ vs : List Value, All2 (DA w) ps vs ∧ ∀ (j : Nat) (u : Value), vs[j]? = some u → w.cell? ⟨B, o + j, none⟩ = some u := by
      have : ∀ (qs : List PV) (k : Nat), (∀ j p, qs[j]? = some p → ∃ u, w.cell? ⟨B, o + (k + j), none⟩ = some u ∧ DA w p u) → ∃ vs : List Value, All2 (DA w) qs vs ∧ ∀ (j : Nat) (u : Value), vs[j]? = some u → w.cell? ⟨B, o + (k + j), none⟩ = some u := by
        intro qs
        induction qs with
        | nil => intro k _; exact ⟨[], .nil, fun j u hu => by simp at hu⟩
        | cons q qs ih =>
          intro k hq
          obtain ⟨u, h1, h2⟩ := hq 0 q rfl
          obtain ⟨vs, h3, h4⟩ := ih (k + 1) fun j p hp => by
            have := hq (j + 1) p (by simpa using hp)
            rwa [show k + (j + 1) = k + 1 + j by omega] at this
          refine ⟨u :: vs, .cons h2 h3, fun j u' hu' => ?_⟩
          cases j with
          | zero => simp at hu'; subst hu'; exact h1
          | succ j => have := h4 j u' (by simpa using hu'); rwa [show k + 1 + j = k + (j + 1) by omega] at this
      have := this ps 0 (by simpa using h)
      simpa using this
    obtain ⟨vs, h1, h2⟩ := hvs
    obtain ⟨β', a1, a2, a3, a4⟩ := impAs_sound hw hf h1
    obtain ⟨k1, k2, k3⟩ := push a1 a2 (b := ⟨false, .cells (impAs H.length ps).1⟩) rfl (x := some (B, o, 0)) ⟨hlt, fun j q hj hq => by
      simp only [Body.get, nth_eq] at hq
      obtain ⟨u, g1, g2⟩ := a4.get j q hq
      exact ⟨u, h2 j u g1, g2⟩⟩
    simp only [impT]
    rw [← List.append_assoc]
    refine ⟨_, k1, k2, fun t => (a3 t).trans (k3 t), B, o, 0, ?_, by simp, ?_, by simp⟩
    · rw [← List.length_append]; exact upd_same _ _ _
    · unfold szH
      rw [nth_app1, if_neg (by simp), if_pos (by simp)]
      simp [Body.size]
  | fn f ps =>
    obtain ⟨cs, rfl, h⟩ := hp
    obtain ⟨β', a1, a2, a3, a4⟩ := impAs_sound hw hf h
    refine ⟨β', a1, a2, a3, cs, rfl, ?_⟩
    -- no part of a closure is a function
    have hnf : ∀ {ps : List PV} {vs : List Value} {n : Nat}, All2 (DA w) ps vs → ∀ a ∈ (impAs n ps).1, isFn a = false := by
      intro ps
      induction ps with
      | nil => intro vs n _ a ha; simp [impAs] at ha
      | cons p ps ih =>
        intro vs n hh a ha
        cases hh with
        | cons q1 q2 =>
          simp only [impAs, List.mem_cons] at ha
          rcases ha with rfl | ha
          · cases p with
            | s a =>
              cases a <;> first | rfl | (exfalso; exact q1)
            | row sz len b => rfl
          · exact ih q2 a ha
    have hnf := hnf (n := H.length) h
    exact a4.mono fun a v ha hv => by
      rcases (RAt_iff _ _ a v).1 hv with ⟨f', caps, rfl, _⟩ | h0
      · have := hnf _ ha; cases this
      · exact h0
theorem impTs_sound : ∀ {ps : List PT} {vs : List Value} {β : Bm} {H : List Blk} (hw : WR β H w) (hf : Foreign H) (hp : All2 (DT w) ps vs), ∃ β', WR β' (H ++ (impTs H.length ps).2) w ∧ Foreign (H ++ (impTs H.length ps).2) ∧ (∀ t, Mv β H β' (H ++ (impTs H.length ps).2) t) ∧ All2 (RV β' (H ++ (impTs H.length ps).2)) (impTs H.length ps).1 vs
  | [], [], β, H, hw, hf, .nil => by
    simp only [impTs, List.append_nil]
    exact ⟨β, hw, hf, fun t x hx ht => ⟨hx, ht, Nat.le_refl _⟩, .nil⟩
  | p :: ps, v :: vs, β, H, hw, hf, .cons h1 h2 => by
    obtain ⟨β1, a1, a2, a3, a4⟩ := impT_sound hw hf h1
    obtain ⟨β2, b1, b2, b3, b4⟩ := impTs_sound a1 a2 h2
    rw [List.length_append, List.append_assoc] at b1 b2 b4
    simp only [List.length_append, List.append_assoc] at b3
    simp only [impTs]
    exact ⟨β2, b1, b2, fun t => (a3 t).trans (b3 t), .cons (a4.move fun t _ => b3 t) b4⟩

/-! ### What is handed back -/
def un0 (lo : Nat) : At → Option At
  | .ptr t o e => match Nat.ble lo t with | true => some (.ptr (t - lo) o e) | false => none
  | .sl t o l z => match Nat.ble lo t with | true => some (.sl (t - lo) o l z) | false => none
  | .vw t o l z => match Nat.ble lo t with | true => some (.vw (t - lo) o l z) | false => none
  | a => some a
def un0s (lo : Nat) : List At → Option (List At)
  | [] => some []
  | a :: r => match un0 lo a with | some a => (match un0s lo r with | some r => some (a :: r) | none => none) | none => none
def un1 (lo : Nat) : At → Option At
  | .fn f caps => match un0s lo caps with | some caps => some (.fn f caps) | none => none
  | a => un0 lo a
def un1s (lo : Nat) : List At → Option (List At)
  | [] => some []
  | a :: r => match un1 lo a with | some a => (match un1s lo r with | some r => some (a :: r) | none => none) | none => none
def unT (lo : Nat) : TV → Option TV
  | .one a => match un1 lo a with | some a => some (.one a) | none => none
  | .agg cs => match un1s lo cs with | some cs => some (.agg cs) | none => none
def unTs (lo : Nat) : List TV → Option (List TV)
  | [] => some []
  | a :: r => match unT lo a with | some a => (match unTs lo r with | some r => some (a :: r) | none => none) | none => none
def unV (lo : Nat) : AV → Option AV
  | .top => none
  | .v x => match unT lo x with | some x => some (.v x) | none => none
  | .tup vs => match unTs lo vs with | some vs => some (.tup vs) | none => none
def unB (lo : Nat) : Body → Option Body
  | .cells cs => match un1s lo cs with | some cs => some (.cells cs) | none => none
  | .dead _ => none
  | b => some b
def unH (lo : Nat) : List Blk → Option (List Blk)
  | [] => some []
  | b :: r => match b.own with
    | false => none
    | true => match unB lo b.body with | some c => (match unH lo r with | some r => some (⟨true, c⟩ :: r) | none => none) | none => none
def dropL {α : Type} : Nat → List α → List α
  | 0, l => l
  | _, [] => []
  | n + 1, _ :: r => dropL n r
/-- What a call answers, what it has made: numbered from 0 on, naming nothing else. -/
def expo (lo : Nat) (v : AV) (H : List Blk) : Option (AV × List Blk) :=
  match unV lo v with
  | some v => match unH lo (dropL lo H) with | some news => some (v, news) | none => none
  | none => none
theorem dropL_nth {α : Type} : ∀ (n : Nat) (l : List α) (i : Nat), nth (dropL n l) i = nth l (n + i)
  | 0, l, i => by simp [dropL]
  | n + 1, [], i => by cases i <;> simp [dropL, nth]
  | n + 1, a :: r, i => by simp only [dropL]; rw [dropL_nth n r i, show n + 1 + i = (n + i) + 1 by omega]; rfl

section un
variable {γ : Bm} {news : List Blk} {lo : Nat}
def UnOk (β : Bm) (H : List Blk) (γ : Bm) (news : List Blk) (lo : Nat) : Prop := ∀ t x, lo ≤ t → β t = some x → t < H.length → γ (t - lo) = some x ∧ t - lo < news.length ∧ szH H t ≤ szH news (t - lo)
theorem R0.un (hm : UnOk β H γ news lo) {a a' : At} {v : Value} (h : R0 β H a v) (hu : un0 lo a = some a') : R0 γ news a' v := by
  cases a with
  | ptr t off ext =>
    obtain ⟨B, o, C, h1, h2, h3, h4⟩ := h
    simp only [un0] at hu
    split at hu
    · rename_i hb
      cases hu
      obtain ⟨k1, k2, k3⟩ := hm t _ (ble_le hb) h1 h2
      exact ⟨B, o, C, k1, k2, Nat.le_trans h3 k3, h4⟩
    · cases hu
  | sl t off len sz =>
    simp only [un0] at hu
    split at hu
    · rename_i hb
      cases hu
      rcases h with ⟨B, o, C, cap, h1, h2, h3, h4, h5, h6⟩ | h
      · obtain ⟨k1, k2, k3⟩ := hm t _ (ble_le hb) h1 h2
        exact .inl ⟨B, o, C, cap, k1, k2, Nat.le_trans h3 k3, h4, h5, h6⟩
      · exact .inr h
    · cases hu
  | vw t off len sz =>
    simp only [un0] at hu
    split at hu
    · rename_i hb
      cases hu
      obtain ⟨a, cap, h1, h2, h3⟩ := h
      refine ⟨a, cap, h1, h2, fun hl => ?_⟩
      obtain ⟨B, o, C, h4, h5, h6, h7⟩ := h3 hl
      obtain ⟨k1, k2, k3⟩ := hm t _ (ble_le hb) h4 h5
      exact ⟨B, o, C, k1, k2, Nat.le_trans h6 k3, h7⟩
    · cases hu
  | _ => simp only [un0] at hu; cases hu; exact h
theorem R0s.un (hm : UnOk β H γ news lo) : ∀ {as as' : List At} {vs : List Value}, All2 (R0 β H) as vs → un0s lo as = some as' → All2 (R0 γ news) as' vs
  | [], as', [], .nil, hu => by simp only [un0s] at hu; cases hu; exact .nil
  | a :: as, as', v :: vs, .cons h1 h2, hu => by
    simp only [un0s] at hu
    split at hu
    · rename_i b hb
      split at hu
      · rename_i r hr
        cases hu
        exact .cons (h1.un hm hb) (R0s.un hm h2 hr)
      · cases hu
    · cases hu
theorem un0_fn {a : At} {f : FuncId} {caps : List At} (h : isFn a = false) : un0 lo a ≠ some (.fn f caps) := by
  cases a <;> simp only [un0] <;> intro q <;> first | (cases q; done) | (cases q; cases h; done) | (split at q <;> cases q)
theorem RAt.un (hm : UnOk β H γ news lo) {a a' : At} {v : Value} (h : RAt β H a v) (hu : un1 lo a = some a') : RAt γ news a' v := by
  rcases (RAt_iff β H a v).1 h with ⟨f, caps, rfl, cs, h1, h2⟩ | h0
  · simp only [un1] at hu
    split at hu
    · rename_i c hc
      cases hu
      exact ⟨cs, h1, R0s.un hm h2 hc⟩
    · cases hu
  · have : un0 lo a = some a' := by cases a <;> first | exact hu | exact h0.elim
    exact (RAt_iff γ news _ v).2 (.inr (h0.un hm this))
theorem RAts.un (hm : UnOk β H γ news lo) : ∀ {as as' : List At} {vs : List Value}, All2 (RAt β H) as vs → un1s lo as = some as' → All2 (RAt γ news) as' vs
  | [], as', [], .nil, hu => by simp only [un1s] at hu; cases hu; exact .nil
  | a :: as, as', v :: vs, .cons h1 h2, hu => by
    simp only [un1s] at hu
    split at hu
    · rename_i b hb
      split at hu
      · rename_i r hr
        cases hu
        exact .cons (h1.un hm hb) (RAts.un hm h2 hr)
      · cases hu
    · cases hu
theorem RT.un (hm : UnOk β H γ news lo) {a a' : TV} {v : Value} (h : RT β H a v) (hu : unT lo a = some a') : RT γ news a' v := by
  cases a with
  | one a =>
    simp only [unT] at hu
    split at hu
    · rename_i b hb; cases hu; exact RAt.un hm h hb
    · cases hu
  | agg cs =>
    obtain ⟨arr, h1, h2⟩ := h
    simp only [unT] at hu
    split at hu
    · rename_i b hb; cases hu; exact ⟨arr, h1, RAts.un hm h2 hb⟩
    · cases hu
theorem RTs.un (hm : UnOk β H γ news lo) : ∀ {as as' : List TV} {vs : List Value}, All2 (RT β H) as vs → unTs lo as = some as' → All2 (RT γ news) as' vs
  | [], as', [], .nil, hu => by simp only [unTs] at hu; cases hu; exact .nil
  | a :: as, as', v :: vs, .cons h1 h2, hu => by
    simp only [unTs] at hu
    split at hu
    · rename_i b hb
      split at hu
      · rename_i r hr
        cases hu
        exact .cons (h1.un hm hb) (RTs.un hm h2 hr)
      · cases hu
    · cases hu
theorem RV.un (hm : UnOk β H γ news lo) {a a' : AV} {v : Value} (h : RV β H a v) (hu : unV lo a = some a') : RV γ news a' v := by
  cases a with
  | top => cases hu
  | v x =>
    simp only [unV] at hu
    split at hu
    · rename_i b hb; cases hu; exact RT.un hm h hb
    · cases hu
  | tup vs =>
    obtain ⟨arr, h1, h2⟩ := h
    simp only [unV] at hu
    split at hu
    · rename_i b hb; cases hu; exact ⟨arr, h1, RTs.un hm h2 hb⟩
    · cases hu
end un

theorem un1s_get {lo : Nat} : ∀ {cs ds : List At} {j : Nat} {a : At}, un1s lo cs = some ds → ds[j]? = some a → ∃ c, cs[j]? = some c ∧ un1 lo c = some a
  | [], ds, j, a, h, hj => by simp only [un1s] at h; cases h; simp at hj
  | c :: cs, ds, j, a, h, hj => by
    simp only [un1s] at h
    split at h
    · rename_i b hb
      split at h
      · rename_i r hr
        cases h
        cases j with
        | zero => simp at hj; subst hj; exact ⟨c, rfl, hb⟩
        | succ j =>
          obtain ⟨q, e1, e2⟩ := un1s_get hr (j := j) (a := a) (by simpa using hj)
          exact ⟨q, by simpa using e1, e2⟩
      · cases h
    · cases h
theorem un1s_len {lo : Nat} : ∀ {cs ds : List At}, un1s lo cs = some ds → ds.length = cs.length
  | [], ds, h => by simp only [un1s] at h; cases h; rfl
  | c :: cs, ds, h => by
    simp only [un1s] at h
    split at h
    · split at h
      · rename_i r hr; cases h; simp [un1s_len hr]
      · cases h
    · cases h
theorem unB_facts {lo : Nat} {b c : Body} (h : unB lo b = some c) : c.size = b.size ∧ isDead c = false ∧ ∀ j a, c.get j = some a → ∃ q, b.get j = some q ∧ (un1 lo q = some a ∨ (a = q ∧ ∀ u, m1 u q = false)) := by
  cases b with
  | cells cs =>
    simp only [unB] at h
    split at h
    · rename_i ds hds
      cases h
      refine ⟨un1s_len hds, rfl, fun j a ha => ?_⟩
      simp only [Body.get, nth_eq] at ha ⊢
      obtain ⟨q, h1, h2⟩ := un1s_get hds ha
      exact ⟨q, h1, .inl h2⟩
    · cases h
  | dead n => cases h
  | _ => cases h; exact ⟨rfl, rfl, fun j a ha => ⟨a, ha, .inr ⟨rfl, fun u => by cases ha; rfl⟩⟩⟩
theorem unH_facts {lo : Nat} : ∀ {l news : List Blk}, unH lo l = some news → news.length = l.length ∧ ∀ i c, nth news i = some c → ∃ b, nth l i = some b ∧ b.own = true ∧ c.own = true ∧ unB lo b.body = some c.body
  | [], news, h => by simp only [unH] at h; cases h; exact ⟨rfl, fun i c hc => by cases i <;> cases hc⟩
  | b :: r, news, h => by
    simp only [unH] at h
    split at h
    · cases h
    · rename_i ho
      split at h
      · rename_i c hc
        split at h
        · rename_i rs hrs
          cases h
          obtain ⟨h1, h2⟩ := unH_facts hrs
          refine ⟨by simp [h1], fun i c' hc' => ?_⟩
          cases i with
          | zero => cases hc'; exact ⟨b, rfl, ho, rfl, hc⟩
          | succ i => exact h2 i c' hc'
        · cases h
      · cases h

/-- What a call of a function hands back whose memory is foreign, is new. -/
theorem expo_sound {w' : World} (hf : Foreign H) {β' : Bm} {H' : List Blk} (hI : Inv β H w β' H' w') {v : AV} {u : Value} (hv : RV β' H' v u) {x : AV} {news : List Blk} (h : expo H.length v H' = some (x, news)) : ∃ γ, Fresh γ news w w' ∧ RV γ news x u := by
  unfold expo at h
  split at h
  · rename_i y hy
    split at h
    · rename_i ns hns
      cases h
      obtain ⟨hlen, hfacts⟩ := unH_facts hns
      have hget : ∀ {i : Nat} {c : Blk}, nth news i = some c → ∃ b, nth H' (H.length + i) = some b ∧ b.own = true ∧ c.own = true ∧ unB H.length b.body = some c.body := by
        intro i c hc
        obtain ⟨b, h1, h2⟩ := hfacts i c hc
        rw [dropL_nth] at h1
        exact ⟨b, h1, h2⟩
      have hdl : ∀ (n : Nat) (l : List Blk), (dropL n l).length = l.length - n := by
        intro n
        induction n with
        | zero => intro l; simp [dropL]
        | succ n ih => intro l; cases l with | nil => simp [dropL] | cons a r => simp only [dropL]; rw [ih r]; simp
      rw [hdl] at hlen
      have hex := hI.ext.len
      have hnn : ∀ i, i < news.length → ∃ c, nth news i = some c := fun i hi => ⟨news[i], by rw [nth_eq]; exact List.getElem?_eq_getElem hi⟩
      have hun : UnOk β' H' (fun t => if t < news.length then β' (t + H.length) else none) news H.length := by
        intro t z hle hz ht
        have hlt : t - H.length < news.length := by omega
        refine ⟨?_, hlt, ?_⟩
        · simp only [if_pos hlt]
          rw [show t - H.length + H.length = t by omega]; exact hz
        · obtain ⟨c, hc⟩ := hnn _ hlt
          obtain ⟨b, h1, h2, h3, h4⟩ := hget hc
          rw [show H.length + (t - H.length) = t by omega] at h1
          rw [szH_of h1, szH_of hc, (unB_facts h4).1]
          exact Nat.le_refl _
      refine ⟨_, ⟨⟨fun i c hc => ?_, fun i j c c' z z' hne h1 h2 hoc hd hz hz' => ?_⟩, fun t z hz => ?_, ?_⟩, hv.un hun hy⟩
      · have hi := nth_lt hc
        simp only [if_pos hi]
        obtain ⟨b, h1, h2, h3, h4⟩ := hget hc
        obtain ⟨f1, f2, f3⟩ := unB_facts h4
        rw [show i + H.length = H.length + i by omega]
        have := hI.wr.blk _ b h1
        split
        · rename_i e; rw [e] at this; rw [f1]; exact this
        · rename_i B o C e
          rw [e] at this
          refine ⟨fun j a q1 q2 => ?_, fun _ => ?_, this.lt⟩
          · obtain ⟨q, g1, g2⟩ := f3 j a q2
            obtain ⟨v', g3, g4⟩ := this.cell j q (by omega) g1
            rcases g2 with g2 | ⟨rfl, hp⟩
            · exact ⟨v', g3, g4.un hun g2⟩
            · exact ⟨v', g3, g4.move fun u hu => by rw [hp u] at hu; cases hu⟩
          · obtain ⟨k1, k2, k3⟩ := this.own h2
            exact ⟨k1, f2, k3⟩
      · have hi := nth_lt h1
        have hj := nth_lt h2
        simp only [if_pos hi] at hz
        simp only [if_pos hj] at hz'
        obtain ⟨b, g1, g2, g3, g4⟩ := hget h1
        obtain ⟨b', g5, g6, g7, g8⟩ := hget h2
        rw [show i + H.length = H.length + i by omega] at hz
        rw [show j + H.length = H.length + j by omega] at hz'
        have hd' : isDead b'.body = false := by
          cases hb : b'.body <;> rw [hb] at g8 <;> first | rfl | cases g8
        exact hI.wr.sep _ _ b b' z z' (by omega) g1 g5 g2 hd' hz hz'
      · by_cases ht : t < news.length
        · simp only [if_pos ht] at hz
          obtain ⟨c, hc⟩ := hnn _ ht
          obtain ⟨b, g1, g2, g3, g4⟩ := hget hc
          rw [show t + H.length = H.length + t by omega] at hz
          rcases hI.own z.1 ⟨_, b, z.2.1, z.2.2, g1, g2, hz⟩ with hh | hh
          · exact absurd hh (hf.own _)
          · exact hh
        · simp only [if_neg ht] at hz; cases hz
      · exact ⟨hI.fr.os, hI.fr.tape, hI.fr.output, hI.fr.size, fun k hk _ => hI.fr.block k hk (hf.own k)⟩
    · cases h
  · cases h

/-- Words are in their one form. -/
def canW (k : FloatKind) (x : Nat) : Prop := x < 2 ^ k.format.width ∧ cn k x = x
def CanA : At → Prop
  | .flt k x => canW k x
  | .cx k x y => canW k x ∧ canW k y
  | _ => True
def CanB : Body → Prop
  | .fl k xs => ∀ x ∈ xs, canW k x
  | _ => True
def CanP : PV → Prop
  | .s a => CanA a
  | .row sz len b => b.size = len * sz ∧ CanB b
def CanT : PT → Prop
  | .one p => CanP p
  | .agg ps => ∀ p ∈ ps, CanP p
  | .ptr ps => ∀ p ∈ ps, CanP p
  | .fn _ ps => ∀ p ∈ ps, CanP p
def CanTs : List PT → Prop
  | [] => True
  | p :: r => CanT p ∧ CanTs r
theorem cn_lt {k : FloatKind} {b : Nat} (h : wfW k b) : cn k b < 2 ^ k.format.width := by
  cases hn : nanB k b with
  | true => rw [cn_of_nan hn]; cases k <;> decide
  | false => rw [cn_of_not hn]; exact h
theorem canW_of {k : FloatKind} {b : Nat} (h : wfW k b) : canW k (cn k b) := ⟨cn_lt h, cn_cn k b⟩
theorem canA_of {β : Bm} {H : List Blk} {a : At} {v : Value} (h : R0 β H a v) : CanA a := by
  cases a with
  | flt k x => obtain ⟨b, _, h1, rfl⟩ := h; exact canW_of h1
  | cx k x y => obtain ⟨a, b, _, h1, h2, rfl, rfl⟩ := h; exact ⟨canW_of h1, canW_of h2⟩
  | _ => trivial
theorem canP_of {p : PV} {v : Value} (h : DA w p v) : CanP p := by
  cases p with
  | s a => exact canA_of h
  | row sz len b =>
    obtain ⟨hr, hsz, a, cap, rfl, _, hc⟩ := h
    refine ⟨hsz, ?_⟩
    cases b with
    | fl k xs =>
      intro x hx
      obtain ⟨j, hj, rfl⟩ := List.getElem_of_mem hx
      have hs : xs.length = len * sz := hsz
      have hl : 0 < len := by
        rcases Nat.eq_zero_or_pos len with e | e
        · rw [e] at hs; simp at hs; rw [hs] at hj; simp at hj
        · exact e
      obtain ⟨B, o, _, _, hcell⟩ := hc hl
      obtain ⟨u, _, hu⟩ := hcell j (.flt k xs[j]) hj (by simp [Body.get, List.getD_eq_getElem?_getD, hj])
      exact canA_of hu
    | _ => trivial
theorem canPs_of : ∀ {ps : List PV} {vs : List Value}, All2 (DA w) ps vs → ∀ p ∈ ps, CanP p
  | [], [], .nil, p, hp => by cases hp
  | q :: ps, v :: vs, .cons h1 h2, p, hp => by
    rcases List.mem_cons.1 hp with rfl | hp
    · exact canP_of h1
    · exact canPs_of h2 p hp
theorem canT_of {p : PT} {v : Value} (h : DT w p v) : CanT p := by
  cases p with
  | one p => exact canP_of h
  | agg ps => obtain ⟨arr, rfl, h⟩ := h; exact canPs_of h
  | ptr ps =>
    obtain ⟨B, o, rfl, _, h⟩ := h
    intro p hp
    obtain ⟨j, hj, rfl⟩ := List.getElem_of_mem hp
    obtain ⟨u, _, hu⟩ := h j _ (List.getElem?_eq_getElem hj)
    exact canP_of hu
  | fn f ps => obtain ⟨cs, rfl, h⟩ := h; exact canPs_of h
theorem canTs_of : ∀ {ps : List PT} {vs : List Value}, All2 (DT w) ps vs → CanTs ps
  | [], [], .nil => trivial
  | p :: ps, v :: vs, .cons h1 h2 => ⟨canT_of h1, canTs_of h2⟩

theorem fin_eq {p : Bool} {V v : AV} {N n : List Blk} (h : some (p, V, N) = some (true, v, n)) : grd p (some (V, N)) = some (v, n) := by
  injection h with h
  injection h with h1 h
  injection h with h2 h3
  rw [h1, h2, h3]
  rfl

/-- One function: what it answers. -/
def SumOne (P : Program) (g : FuncId) (F : List PT → Option (Bool × AV × List Blk)) : Prop := ∀ pts v news, F pts = some (true, v, news) → ∀ w (vals : Array Value), All2 (DT w) pts vals.toList → CallRes P g vals w fun u w' => ∃ γ, Fresh γ news w w' ∧ RV γ news v u

theorem sum_of (hT : chkTab P Γ.ty = true) (hF : FnsOk P Γ) (hL : LpOk P Γ) (hS : SumOk P Γ) (hm : P.follows .mixedOrders = true) {g : FuncId} {F : List PT → Option (Bool × AV × List Blk)} {fuel d : Nat}
    (h : ∀ pts v news, F pts = some (true, v, news) → CanTs pts → evFn Γ fuel d g (impTs 0 pts).1 (impTs 0 pts).2 (expo (impTs 0 pts).2.length) = some (v, news)) : SumOne P g F := by
  intro pts v news hp w vals hv
  have hw : WR NoB [] w := ⟨(fun t b hb => by cases t <;> cases hb), (fun t t' b b' x x' _ hb => by cases t <;> cases hb)⟩
  have hf0 : Foreign [] := fun t b hb => by cases t <;> cases hb
  obtain ⟨β, h1, h2, h3, h4⟩ := impTs_sound hw hf0 hv
  simp only [List.length_nil, List.nil_append] at h1 h2 h4
  exact (evFn_sound hT hF hL hS hm d g _ _ _ _ (h pts v news hp (canTs_of hv)) β w vals h1 h4).mono fun u w' ⟨β', x, H', k1, k2, k3⟩ => expo_sound h2 k1 k2 k3

/-- A great number that the kernel does not look into. -/
noncomputable def big : Nat := Classical.choose (⟨2 ^ 48, rfl⟩ : ∃ n : Nat, n = 2 ^ 48)
theorem big_eq : big = 2 ^ 48 := Classical.choose_spec (⟨2 ^ 48, rfl⟩ : ∃ n : Nat, n = 2 ^ 48)

/-- The loop of a number. -/
def findL (id : Nat) : List Code → Code
  | [] => .skip
  | c :: r => match Nat.beq (lid c) id with | true => c | false => findL id r
def noTwo : List Nat → Bool
  | [] => true
  | t :: r => match mem t r with | true => false | false => noTwo r
def lids : List Code → List Nat
  | [] => []
  | c :: r => lid c :: lids r
theorem mem_lids {c : Code} : ∀ {l : List Code}, c ∈ l → mem (lid c) (lids l) = true
  | x :: r, h => by
    simp only [lids, mem]
    split
    · rfl
    · rename_i hb
      rcases List.mem_cons.1 h with rfl | h
      · simp [Nat.beq_refl] at hb
      · exact mem_lids h
theorem findL_of {c : Code} : ∀ {l : List Code}, noTwo (lids l) = true → c ∈ l → findL (lid c) l = c
  | x :: r, hn, h => by
    simp only [lids, noTwo] at hn
    split at hn
    · cases hn
    · rename_i hm
      simp only [findL]
      split
      · rename_i hb
        rcases List.mem_cons.1 h with rfl | h
        · rfl
        · have := mem_lids h
          rw [beq_eq hb] at hm
          rw [hm] at this; cases this
      · rename_i hb
        rcases List.mem_cons.1 h with rfl | h
        · simp [Nat.beq_refl] at hb
        · exact findL_of hn h

/-- One loop: what it comes to. -/
def LoopOne (P : Program) (tbl : List (Nat × FnI)) (f id : Nat) (F : Nat → St → Option (Bool × LO)) : Prop := ∀ fi, Rf.look tbl f = some fi → ∀ c ∈ loopsIn fi.code, lid c = id → LoopSem P fi.nt c F
theorem codeOk_loop {c : Code} : ∀ {x : Code}, codeOk x = true → c ∈ loopsIn x → codeOk c = true
  | .skip, _, h => by cases h
  | .region .., _, h => by cases h
  | .seq a b, hc, h => by
    simp only [codeOk] at hc
    split at hc
    case h_2 => cases hc
    rename_i ha
    rcases List.mem_append.1 h with h | h
    · exact codeOk_loop ha h
    · exact codeOk_loop hc h
  | .cond _ a b, hc, h => by
    simp only [codeOk] at hc
    split at hc
    case h_2 => cases hc
    rename_i ha
    rcases List.mem_append.1 h with h | h
    · exact codeOk_loop ha h
    · exact codeOk_loop hc h
  | .block _ a, hc, h => codeOk_loop (x := a) hc h
  | .loop a, hc, h => by
    rcases List.mem_cons.1 h with rfl | h
    · exact hc
    · exact codeOk_loop (x := a) hc h
  | .exit _, _, h => by cases h
  | .ret, _, h => by cases h
  | .rangeFunc .., _, h => by cases h
  | .scope .., _, h => by cases h
  | .label .., _, h => by cases h
  | .goto .., _, h => by cases h
  | .refuse .., _, h => by cases h
theorem loopsIn_sub {c d : Code} : ∀ {x : Code}, c ∈ loopsIn x → d ∈ loopsIn c → d ∈ loopsIn x
  | .skip, h, _ => by cases h
  | .region .., h, _ => by cases h
  | .seq a b, h, k => by
    rcases List.mem_append.1 h with h | h
    · exact List.mem_append.2 (.inl (loopsIn_sub h k))
    · exact List.mem_append.2 (.inr (loopsIn_sub h k))
  | .cond _ a b, h, k => by
    rcases List.mem_append.1 h with h | h
    · exact List.mem_append.2 (.inl (loopsIn_sub h k))
    · exact List.mem_append.2 (.inr (loopsIn_sub h k))
  | .block _ a, h, k => loopsIn_sub (x := a) h k
  | .loop a, h, k => by
    rcases List.mem_cons.1 h with rfl | h
    · exact List.mem_cons.2 (.inr k)
    · exact List.mem_cons.2 (.inr (loopsIn_sub (x := a) h k))
  | .exit _, h, _ => by cases h
  | .ret, h, _ => by cases h
  | .rangeFunc .., h, _ => by cases h
  | .scope .., h, _ => by cases h
  | .label .., h, _ => by cases h
  | .goto .., h, _ => by cases h
  | .refuse .., h, _ => by cases h

theorem lp_of (hT : chkTab P Γ.ty = true) (hF : FnsOk P Γ) (hL : LpOk P Γ) (hS : SumOk P Γ) (hm : P.follows .mixedOrders = true) {f id : Nat} {fi : FnI} (hfi : Rf.look Γ.fns f = some fi) (hu : noTwo (lids (loopsIn fi.code)) = true) {F : Nat → St → Option (Bool × LO)}
    (h : ∀ lo st out, F lo st = some (true, out) → ∃ fuel d n, iter f id lo (evC Γ (evFn Γ fuel d) f lo fi.nt fi.live fi.nl fuel (findL id (loopsIn fi.code))) n st (fun e st => some (e, st)) = some (pick out)) : LoopOne P Γ.fns f id F := by
  intro fi' hfi' c hc hid β0 H0 w0 st out a w hF' hR
  rw [hfi] at hfi'
  cases hfi'
  subst hid
  obtain ⟨fuel, d, n, hi⟩ := h _ _ _ hF'
  rw [findL_of hu hc] at hi
  exact wp_loop_rounds n (iter_sound (fun st k a w h1 h2 => evC_sound hT (evFn_sound hT hF hL hS hm d) hS hm c (fun c' h' => hL f fi hfi c' (loopsIn_sub hc h')) (codeOk_loop (hF f fi hfi).ok hc) st k a w h1 h2) n hR hi)

theorem look_mem {α : Type} {g : Nat} {F : α} : ∀ {l : List (Nat × α)}, Rf.look l g = some F → (g, F) ∈ l
  | [], h => by cases h
  | (a, b) :: r, h => by
    simp only [Rf.look] at h
    split at h
    · rename_i hb
      cases h
      have := beq_eq hb
      subst this
      simp
    · exact List.mem_cons_of_mem _ (look_mem h)
def FnL (P : Program) (l : List (Nat × FnI)) : Prop := ∀ p ∈ l, FnOk P p.1 p.2
theorem FnL.nil : FnL P [] := fun p hp => by cases hp
theorem FnL.cons {k : Nat} {fi : FnI} {l : List (Nat × FnI)} (h : FnOk P k fi) (t : FnL P l) : FnL P ((k, fi) :: l) := fun p hp => by
  rcases List.mem_cons.1 hp with rfl | hp
  · exact h
  · exact t p hp
theorem FnL.ok {ty : List (Nat × TI)} {l : List (Nat × FnI)} (h : FnL P l) (sum : FuncId → List PT → Option (Bool × AV × List Blk)) (lp) : FnsOk P ⟨ty, l, sum, lp⟩ := fun f fi hf => h _ (look_mem hf)

/-- A table of loops. -/
def tblLp (tbl : List ((Nat × Nat) × (Nat → St → Option (Bool × LO)))) (f id lo : Nat) (st : St) : Option (Bool × LO) :=
  match tbl with
  | [] => none
  | ((g, j), F) :: r => match Nat.beq g f with
    | true => match Nat.beq j id with
      | true => match F lo st with
        | some x => some x
        | none => tblLp r f id lo st
      | false => tblLp r f id lo st
    | false => tblLp r f id lo st
def LpL (P : Program) (fns : List (Nat × FnI)) (tbl : List ((Nat × Nat) × (Nat → St → Option (Bool × LO)))) : Prop := ∀ p ∈ tbl, LoopOne P fns p.1.1 p.1.2 p.2
theorem LpL.nil {fns : List (Nat × FnI)} : LpL P fns [] := fun p hp => by cases hp
theorem LpL.cons {fns : List (Nat × FnI)} {f id : Nat} {F : Nat → St → Option (Bool × LO)} {l : List ((Nat × Nat) × (Nat → St → Option (Bool × LO)))} (h : LoopOne P fns f id F) (t : LpL P fns l) : LpL P fns (((f, id), F) :: l) := fun p hp => by
  rcases List.mem_cons.1 hp with rfl | hp
  · exact h
  · exact t p hp
theorem LpL.sem {fns : List (Nat × FnI)} {f : Nat} {fi : FnI} (hfi : Rf.look fns f = some fi) {c : Code} (hc : c ∈ loopsIn fi.code) : ∀ {tbl : List ((Nat × Nat) × (Nat → St → Option (Bool × LO)))}, LpL P fns tbl → LoopSem P fi.nt c (tblLp tbl f (lid c))
  | [], _ => fun β0 H0 w0 st out a w h _ => by cases h
  | ((g, j), F) :: r, h => by
    have ht : LpL P fns r := fun p hp => h p (List.mem_cons_of_mem _ hp)
    intro β0 H0 w0 st out a w hF hR
    simp only [tblLp] at hF
    split at hF
    · rename_i hg
      split at hF
      · rename_i hj
        have := h _ (List.mem_cons_self ..) fi (by rw [← hfi, beq_eq hg]) c hc (beq_eq hj).symm
        split at hF
        · rename_i x hx
          cases hF
          exact this β0 H0 w0 st out a w hx hR
        · exact LpL.sem hfi hc ht β0 H0 w0 st out a w hF hR
      · exact LpL.sem hfi hc ht β0 H0 w0 st out a w hF hR
    · exact LpL.sem hfi hc ht β0 H0 w0 st out a w hF hR
theorem LpL.ok {ty : List (Nat × TI)} {fns : List (Nat × FnI)} {sum : FuncId → List PT → Option (Bool × AV × List Blk)} {tbl : List ((Nat × Nat) × (Nat → St → Option (Bool × LO)))} (h : LpL P fns tbl) : LpOk P ⟨ty, fns, sum, tblLp tbl⟩ := fun f fi hfi c hc => LpL.sem hfi hc h

/-- A table of such functions: the first that answers. -/
def tblSum (tbl : List (Nat × (List PT → Option (Bool × AV × List Blk)))) (g : FuncId) (pts : List PT) : Option (Bool × AV × List Blk) :=
  match tbl with
  | [] => none
  | (k, F) :: r => match Nat.beq k g with
    | true => match F pts with
      | some x => some x
      | none => tblSum r g pts
    | false => tblSum r g pts
def SumL (P : Program) (tbl : List (Nat × (List PT → Option (Bool × AV × List Blk)))) : Prop := ∀ p ∈ tbl, SumOne P p.1 p.2
theorem SumL.nil : SumL P [] := fun p hp => by cases hp
theorem SumL.cons {k : Nat} {F : List PT → Option (Bool × AV × List Blk)} {l : List (Nat × (List PT → Option (Bool × AV × List Blk)))} (h : SumOne P k F) (t : SumL P l) : SumL P ((k, F) :: l) := fun p hp => by
  rcases List.mem_cons.1 hp with rfl | hp
  · exact h
  · exact t p hp
theorem SumL.one : ∀ {tbl : List (Nat × (List PT → Option (Bool × AV × List Blk)))}, SumL P tbl → ∀ g pts v news, tblSum tbl g pts = some (true, v, news) → ∃ F, SumOne P g F ∧ F pts = some (true, v, news)
  | [], _, g, pts, v, news, h => by cases h
  | (k, F) :: r, hl, g, pts, v, news, h => by
    have ht : SumL P r := fun p hp => hl p (List.mem_cons_of_mem _ hp)
    simp only [tblSum] at h
    split at h
    · rename_i hk
      split at h
      · rename_i x hx
        cases h
        have h1 := hl _ (List.mem_cons_self ..)
        rw [beq_eq hk] at h1
        exact ⟨F, h1, hx⟩
      · exact SumL.one ht g pts v news h
    · exact SumL.one ht g pts v news h
theorem SumL.ok {ty : List (Nat × TI)} {fns : List (Nat × FnI)} {tbl : List (Nat × (List PT → Option (Bool × AV × List Blk)))} (h : SumL P tbl) (lp) : SumOk P ⟨ty, fns, tblSum tbl, lp⟩ := by
  intro g pts v news hs
  obtain ⟨F, h1, h2⟩ := SumL.one h g pts v news hs
  exact h1 pts v news h2
end

/-! ### Trees -/
theorem br_out {α β : Type} {o : α → β} {c : Bool} {a b : β} {a' b' : α} (h : a = o a') (k : b = o b') : br c a b = o (br c a' b') := by
  cases c
  · exact k
  · exact h
theorem grd_out {α β : Type} {o : Option α → Option β} (h0 : o none = none) {g : Bool} {a : Option β} {a' : Option α} (h : a = o a') : grd g a = o (grd g a') := by
  cases g
  · exact h0.symm
  · exact h
theorem fin_out {α : Type} {o : Option α → Option (AV × List Blk)} {x : Option α} {d : α} {V : α → AV × List Blk} {v : AV} {news : List Blk} (ho : ∀ r, o (some r) = some (V r)) (hp : some (x.isSome, V (x.getD d)) = some (true, v, news)) : o x = some (v, news) := by
  injection hp with hp
  injection hp with h1 h2
  cases x with
  | none => cases h1
  | some r => rw [ho]; exact congrArg some h2
/-- Which of two. -/
def oL {α β : Type} : Option (α ⊕ β) → Bool
  | some (.inl _) => true
  | _ => false
def tL {α β : Type} : Option (α ⊕ β) → Option α
  | some (.inl a) => some a
  | _ => none
def tR {α β : Type} : Option (α ⊕ β) → Option β
  | some (.inr a) => some a
  | _ => none

/-! ### Functions without a body -/
def okU (k : FloatKind) (n : Int) : Bool := decide (0 ≤ n ∧ n.toNat < 2 ^ k.format.width)
def cnI (k : FloatKind) (n : Int) : Nat := cn k n.toNat
theorem okU_lt {k : FloatKind} {n : Int} (h : okU k n = true) : wfW k n.toNat := (of_decide_eq_true h).2
theorem fint_eq {way : Ieee.Toward} {b : Nat} (h : nanB .f64 b = false) : fint way b = FloatKind.f64.format.write ((FloatKind.f64.format.read b).integral way) ∧ ((FloatKind.f64.format.read b).integral way).isNaN = false := by
  refine ⟨?_, ?_⟩
  · unfold fint
    rw [h]; rfl
  · have hd : (FloatKind.f64.format.read b).isNaN = false := h
    cases hr : FloatKind.f64.format.read b with
    | number s m e => rfl
    | infinity s => rfl
    | nan s f => rw [hr] at hd; cases hd
theorem fint_rel {way : Ieee.Toward} {b : Nat} (h : nanB .f64 b = false) : ∃ c, Value.float .f64 (fint way b) = .float .f64 c ∧ wfW .f64 c ∧ cn .f64 c = fint way b := by
  obtain ⟨h1, h2⟩ := fint_eq (way := way) h
  refine ⟨_, rfl, ?_, ?_⟩
  · rw [h1]; exact FloatKind.f64.format.write_lt _
  · rw [cn_of_not]
    rw [h1]
    exact nanB_write .f64 h2
theorem run_fint {P : Program} {w : World} {name : String} {way : Ieee.Toward} {b : Nat} (h : nanB .f64 b = false) : (Extern.MathFloor.toIntegral name way #[.float .f64 b]).run P w = .ok (.float .f64 (fint way b)) w := by
  have hd : (FloatKind.f64.decode b).isNaN = false := h
  have hf : fint way b = FloatKind.f64.encode ((FloatKind.f64.decode b).integral way) := by
    unfold fint
    rw [h]; rfl
  rw [hf]
  change (match FloatKind.f64.decode b with | .nan s t => _ | d => (pure (Value.float .f64 (FloatKind.f64.encode (d.integral way))) : Sem Value)).run P w = _
  generalize FloatKind.f64.decode b = d at hd
  cases d with
  | number s m e => rfl
  | infinity s => rfl
  | nan s f => cases hd
theorem root_not_nan {n : Nat} {x d : Ieee.Datum} (h : x.root n = some d) : d.isNaN = false := by
  cases x with
  | nan s f => cases h
  | infinity s =>
    simp only [Ieee.Datum.root] at h
    split at h
    · cases h
    · cases h; rfl
  | number s m i =>
    simp only [Ieee.Datum.root] at h
    split at h
    · cases h; rfl
    · split at h
      · cases h
      · cases h; rfl
theorem run_sqrt {P : Program} {w : World} (b : Nat) (hb : wfW .f64 b) : ∃ c w', (Extern.MathSqrt.sqrt #[.float .f64 b]).run P w = .ok (.float .f64 c) w' ∧ Same w w' ∧ wfW .f64 c ∧ cn .f64 c = fsqrt (cn .f64 b) := by
  have hcn : FloatKind.f64.format.sqrt (cn .f64 b) = FloatKind.f64.format.sqrt b := by
    unfold Ieee.Format.sqrt
    rcases read_cn .f64 b with e | ⟨⟨s, f, e⟩, s', f', e'⟩
    · rw [e]
    · rw [e, e']; rfl
  unfold fsqrt
  rw [hcn]
  have e : Extern.MathSqrt.sqrt #[.float .f64 b] = (match FloatKind.f64.format.sqrt b with
      | some r => (pure (Value.float .f64 r) : Sem Value)
      | none => do pure (Value.float .f64 (← choose (.nanBits .f64 b b)))) := rfl
  rw [e]
  cases hs : FloatKind.f64.format.sqrt b with
  | some r =>
    refine ⟨r, w, rfl, Same.refl w, FloatKind.f64.format.sqrt_lt hs, ?_⟩
    rw [cn_of_not]
    · rfl
    · unfold Ieee.Format.sqrt at hs
      rcases hd : (FloatKind.f64.format.read b).root (FloatKind.f64.format.fractionBits + 2) with _ | d <;> rw [hd] at hs <;> cases hs
      exact nanB_write .f64 (root_not_nan hd)
  | none =>
    have hc := nan_cut .f64 (w.tape w.drawn (.nanBits .f64 b b))
    refine ⟨_, w.drew, by simp [run_choose, Question.forced]; rfl, Same.drew w, ?_, ?_⟩
    · exact hc.2
    · rw [cn_of_nan]
      · rfl
      · exact hc.1
end Go.Rf
