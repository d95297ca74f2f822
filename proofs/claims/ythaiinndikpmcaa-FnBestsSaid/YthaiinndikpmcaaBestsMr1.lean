/-
  Regions in the rounds of a range over a function: what the evaluator answers holds there too.
-/
import Derived.Test.YthaiinndikpmcaaBestsS1
import Derived.RangeFuncNested
import Derived.RangeFuncBound
import Derived.RangeFuncCalls
import Derived.RangeFuncLeaves
import Derived.RangeFuncWrites
import Derived.WalkKit
import Derived.OwnWalkIn
import Derived.TacticsInMore
import Derived.LoopNIn
import Derived.LoopIn
set_option linter.unusedVariables false
set_option linter.unusedSimpArgs false
namespace Go.Rf
open Go Go.RowKit
section
variable {P : Program} {Γ : Ctx} {β0 : Bm} {H0 : List Blk} {w0 w : World} {Q : Exit → Act → World → Prop} {o : Oper} {a : Act} {l n : Nat} {ops : Array Oper}

theorem oper_in {next next' : Act → World → Prop} (hq : ¬ LetsOut Q) (hd : ∀ c, o.op ≠ .defer c) (hn : ∀ a w, next a w → next' a w) (h : o.wp P a w next Q) : o.wpIn (Fence.wide.inRound l) n P a w next' Q := by
  refine ⟨fun f _ => trivial, ?_⟩
  have hs : o.semAt (Fence.wide.inRound l).round a.eval = execOp a.eval o := Oper.semAt_some l _ _ hd
  rw [hs]
  unfold Oper.wp at h
  have hdep : (Fence.wide.inRound l).depth.isSome = true → 1 ≤ n := fun h => by cases h
  cases hr : (execOp a.eval o).run P w with
  | ok x w' =>
    rw [hr] at h
    cases x with
    | value v => exact hn _ _ h
    | skip => exact hn _ _ h
    | defer d => exact hn _ _ h
    | enter f args =>
      refine ⟨hdep, CallsIn.inRound l (CallsIn.mono (callsIn_wide.2 h) fun e w'' hp => ?_)⟩
      cases e with
      | returned v => exact hn _ _ hp
      | panicked chain => exact hp
      | outgrown => exact hp
    | row row args =>
      refine ⟨hdep, fun c cs _ => ?_⟩
      obtain ⟨v, w'', r, s⟩ := h c cs
      exact ⟨v, w'', hn _ _ r, stepsIn_wide.2 s⟩
    | _ => exact h.elim
  | halt s w' =>
    rw [hr] at h
    cases s with
    | panic v => exact h
    | _ => exact h.elim

def noDf (l : List Oper) : Bool := l.all fun o => match o.op with | .defer _ => false | _ => true
theorem noDf_mem {l : List Oper} (h : noDf l = true) {o : Oper} (ho : o ∈ l) : ∀ c, o.op ≠ .defer c := by
  unfold noDf at h
  have := List.all_eq_true.1 h o ho
  intro c e
  rw [e] at this
  cases this
theorem wpList_in (hq : ¬ LetsOut Q) : ∀ (l' : List Oper), noDf l' = true → ∀ (a : Act) (w : World), wpList P ops Q l' a w → wpListIn (Fence.wide.inRound l) n P ops Q l' a w
  | [], _, a, w, h => h
  | o :: r, hd, a, w, h => by
    have hd' : noDf r = true := by unfold noDf at hd ⊢; simp only [List.all_cons, Bool.and_eq_true] at hd; exact hd.2
    unfold wpList at h
    unfold wpListIn
    split
    · rename_i hw
      rw [if_pos hw] at h
      rcases h with h | h
      · exact oper_in hq (noDf_mem hd (List.mem_cons_self ..)) (fun a w => wpList_in hq r hd' a w) h
      · exact absurd h.2 hq
    · rename_i hw
      rw [if_neg hw] at h
      exact ⟨fun f _ => trivial, wpList_in hq r hd' _ _ h⟩
theorem wpAny_in {md : Region.Mode} (hq : ¬ LetsOut Q) (hd : noDf ops.toList = true) : ∀ (fuel : Nat) (listed : Array Bool) (a : Act) (w : World), wpAny P md ops Q fuel listed a w → wpAnyIn (Fence.wide.inRound l) n P md ops Q fuel listed a w
  | 0, listed, a, w, h => h
  | fuel + 1, listed, a, w, h => by
    obtain ⟨h1, h2⟩ := h
    refine ⟨h1, fun i hi => ?_⟩
    have := h2 i hi
    unfold wpOp at this
    unfold wpOpIn
    split
    · rename_i ho
      rw [ho] at this
      exact wpAny_in hq hd fuel _ _ _ this
    · rename_i o ho
      rw [ho] at this
      simp only at this
      split
      · rename_i hw
        rw [if_pos hw] at this
        rcases this with h | h
        · exact oper_in hq (noDf_mem hd (by rw [Array.getElem?_eq_some_iff] at ho; obtain ⟨h1, h2⟩ := ho; rw [← h2]; simp)) (fun a w => wpAny_in hq hd fuel _ a w) h
        · exact absurd h.2 hq
      · rename_i hw
        rw [if_neg hw] at this
        exact ⟨fun f _ => trivial, wpAny_in hq hd fuel _ _ _ this⟩

theorem KP_quiet {R : Type} {nt : Nat} {k : Ex → St → Option R} {r : R} : ¬ LetsOut (KP β0 H0 w0 nt k r) := fun ⟨_, _, h⟩ => h
theorem region_in {R : Type} (hT : chkTab P Γ.ty = true) {hd : FuncId → List AV → List Blk → (AV → List Blk → Option R) → Option R} (hH : HdOk P hd) (hS : SumOk P Γ) (hm : P.follows .mixedOrders = true) {f nt : Nat} {live : List (Nat × List Nat)} {nl : List (Nat × (RowK × Nat))} {fuel : Nat} {r : R} {lo : Nat} (hlo : lo = H0.length)
    {id : Nat} {draw : Bool} (hn : noDf ops.toList = true) (hc : codeOk (.region id ops draw) = true) {st : St} {k : Ex → St → Option R} {a : Act} {w : World} (hR : Rel β0 H0 w0 nt st a w) (h : evC Γ hd f lo nt live nl fuel (.region id ops draw) st k = some r) :
    (Code.region id ops draw).wpIn (Fence.wide.inRound l) n P (KP β0 H0 w0 nt k r) a w := by
  subst hlo
  simp only [evC, forceSt_eq] at h
  have fin : ∀ (st' : St) (a' : Act) (w' : World), Rel β0 H0 w0 nt st' a' w' → k .normal (clean H0.length live id st') = some r → KP β0 H0 w0 nt k r .normal a' w' := fun st' a' w' h1 h2 => ⟨_, clean_sound h1 live id, h2⟩
  split at h
  · exact wpIn_region_list (wpList_in KP_quiet _ hn _ _ (evOps_sound hT hH hS fin ops.toList hR h))
  · simp only [codeOk] at hc
    split at hc
    · rename_i hs
      exact wpIn_region_any hm (wpAny_in KP_quiet hn _ _ _ _ (draw_any hT hH hS hm (k := fun st' => k .normal (clean H0.length live id st')) hR hs hc h fin))
    · cases hc

/-! ### What abides the law's own book-keeping -/
theorem Inv.grown {β : Bm} {H : List Blk} {W W' : World} {row : Option Nat} (h : Inv β0 H0 w0 β H W) (hg : W.grownBy W' row) (hr : ∀ r, row = some r → w0.heap.size ≤ r ∧ ∃ o : Obj, W.heap[r]? = some o ∧ o.isCells = false) : Inv β0 H0 w0 β H W' := by
  have hr' : ∀ r, row = some r → ∃ o : Obj, W.heap[r]? = some o ∧ o.isCells = false := fun r e => (hr r e).2
  refine ⟨⟨fun t b hb => ?_, h.wr.sep⟩, h.agree, h.ext, h.own, ?_⟩
  · have := h.wr.blk t b hb
    split
    · rename_i e; rw [e] at this; exact this
    · rename_i B o C e
      rw [e] at this
      refine ⟨fun j a q1 q2 => ?_, fun ho => ?_, Nat.lt_of_lt_of_le this.lt hg.size⟩
      · obtain ⟨v, g1, g2⟩ := this.cell j a q1 q2
        exact ⟨v, cell_kept g1 hg hr', g2⟩
      · obtain ⟨k1, k2, c, e', k3, k4⟩ := this.own ho
        exact ⟨k1, k2, c, e', (grownBy_keeps_cells hg hr' k3 rfl).trans k3, k4⟩
  · refine ⟨hg.os.trans h.fr.os, hg.tape.trans h.fr.tape, hg.output.trans h.fr.output, Nat.le_trans h.fr.size hg.size, fun k hk hn => ?_⟩
    refine (hg.block k (Nat.lt_of_lt_of_le hk h.fr.size) fun e => ?_).trans (h.fr.block k hk hn)
    have := (hr k e.symm).1
    omega
theorem Inv.others {β β' : Bm} {H H' : List Blk} {W W' : World} (h : Inv β H W β' H' W') (hw : WR β H W) : KeepsOthers W W' := by
  refine ⟨h.fr.size, fun k o hk ho => ?_⟩
  have hlt : k < W.heap.size := (Array.getElem?_eq_some_iff.1 hk).1
  rw [h.fr.block k hlt fun hn => ?_]
  · exact hk
  · obtain ⟨t, b, o', C, h1, h2, h3⟩ := hn
    have := hw.blk t b h1
    rw [h3] at this
    obtain ⟨_, _, c, e, h4, _⟩ := this.own h2
    rw [hk] at h4
    cases h4
    cases ho
theorem Inv.kept {β β' : Bm} {H H' : List Blk} {W W' : World} (h : Inv β H W β' H' W') {p : Nat} (hp : p < W.heap.size) (hn : ¬ OwnB β H p) : W'.heap[p]? = W.heap[p]? ∧ ¬ OwnB β' H' p :=
  ⟨h.fr.block p hp hn, fun ho => (h.own p ho).elim hn fun hle => by omega⟩

/-! ### Behind the loop: the mark of the rounds' deferred calls -/
theorem put_df (t : Array Value) (ds : List Deferred) (d : Option Tmp) (v : Value) : ({ tmps := t, defers := ds } : Act).put d v = { tmps := (({ tmps := t, defers := [] } : Act).put d v).tmps, defers := ds } := by cases d <;> rfl
theorem put_df0 (t : Array Value) (d : Option Tmp) (v : Value) : (({ tmps := t, defers := [] } : Act).put d v).defers = [] := by cases d <;> rfl
def isPl : Op → Bool
  | .load _ _ => true
  | .store _ _ _ => true
  | .assign _ => true
  | _ => false
theorem run_pl {ρ : Operand → Value} (h : isPl o.op = true) {x : Next} {w' : World} (hr : (execOp ρ o).run P w = .ok x w') : (∃ v, x = .value v) ∨ x = .skip := by
  unfold execOp at hr
  cases ho : o.op <;> rw [ho] at h hr <;> first | (cases h; done) | skip
  · simp at hr; exact .inl ⟨_, hr.1.symm⟩
  · simp only [Sem.run_bind] at hr
    rename_i t a
    cases hs : (Instr.loadAt t (ρ a)).run P w with
    | ok v w1 => rw [hs] at hr; simp [Result.andThen] at hr; exact .inl ⟨v, hr.1.symm⟩
    | halt s w1 => rw [hs] at hr; simp [Result.andThen] at hr
  · simp only [Sem.run_bind] at hr
    rename_i t a x'
    cases hs : (Instr.storeAt t (ρ a) (ρ x')).run P w with
    | ok v w1 => rw [hs] at hr; simp [Result.andThen] at hr; exact .inr hr.1.symm
    | halt s w1 => rw [hs] at hr; simp [Result.andThen] at hr
theorem oper_df {t : Array Value} {ds : List Deferred} {K K' : Act → World → Prop} {Q' : Exit → Act → World → Prop} (hq : ¬ LetsOut Q) (hp : ∀ ch a w, ¬ Q (.panic ch) a w) (hd : isPl o.op = true) (hk : ∀ t' w, K { tmps := t', defers := [] } w → K' { tmps := t', defers := ds } w) (h : o.wp P { tmps := t, defers := [] } w K Q) :
    o.wpIn Fence.wide n P { tmps := t, defers := ds } w K' Q' := by
  refine ⟨fun f _ => trivial, ?_⟩
  have hs : o.semAt Fence.wide.round ({ tmps := t, defers := ds } : Act).eval = execOp ({ tmps := t, defers := [] } : Act).eval o := Oper.semAt_none _ _
  rw [hs]
  unfold Oper.wp at h
  have put : ∀ v w', K (({ tmps := t, defers := [] } : Act).put o.dst v) w' → K' (({ tmps := t, defers := ds } : Act).put o.dst v) w' := fun v w' hv => by
    rw [put_df]
    refine hk _ _ ?_
    have e : ({ tmps := t, defers := [] } : Act).put o.dst v = { tmps := (({ tmps := t, defers := [] } : Act).put o.dst v).tmps, defers := [] } := put_df t [] o.dst v
    rw [e] at hv
    exact hv
  have hdep : Fence.wide.depth.isSome = true → 1 ≤ n := fun h => by cases h
  cases hr : (execOp ({ tmps := t, defers := [] } : Act).eval o).run P w with
  | ok x w' =>
    rw [hr] at h
    cases x with
    | value v => exact put _ _ h
    | skip => exact put _ _ h
    | enter f args =>
      refine ⟨hdep, CallsIn.mono (callsIn_wide.2 h) fun e w'' hp' => ?_⟩
      cases e with
      | returned v => exact put _ _ hp'
      | panicked chain => exact absurd hp' (hp _ _ _)
      | outgrown => exact absurd hp' hq
    | row row args =>
      refine ⟨hdep, fun c cs _ => ?_⟩
      obtain ⟨v, w'', r, s⟩ := h c cs
      exact ⟨v, w'', put _ _ r, stepsIn_wide.2 s⟩
    | defer d => rcases run_pl hd hr with ⟨v, e⟩ | e <;> cases e
    | _ => exact h.elim
  | halt s w' =>
    rw [hr] at h
    cases s with
    | panic v => exact absurd h (hp _ _ _)
    | _ => exact h.elim
theorem wpList_df {ds : List Deferred} {Q' : Exit → Act → World → Prop} (hq : ¬ LetsOut Q) (hp : ∀ ch a w, ¬ Q (.panic ch) a w) (hk : ∀ t' w, Q .normal { tmps := t', defers := [] } w → Q' .normal { tmps := t', defers := ds } w) :
    ∀ (l' : List Oper), (l'.all fun o => isPl o.op) = true → ∀ (t : Array Value) (w : World), wpList P ops Q l' { tmps := t, defers := [] } w → wpListIn Fence.wide n P ops Q' l' { tmps := t, defers := ds } w
  | [], _, t, w, h => hk _ _ h
  | o :: r, hd, t, w, h => by
    simp only [List.all_cons, Bool.and_eq_true] at hd
    unfold wpList at h
    unfold wpListIn
    split
    · rename_i hw
      rw [if_pos hw] at h
      rcases h with h | h
      · exact oper_df hq hp hd.1 (fun t' w => wpList_df hq hp hk r hd.2 t' w) h
      · exact absurd h.2 hq
    · rename_i hw
      rw [if_neg hw] at h
      refine ⟨fun f _ => trivial, ?_⟩
      rw [put_df]
      have e : ({ tmps := t, defers := [] } : Act).put o.dst undef = { tmps := (({ tmps := t, defers := [] } : Act).put o.dst undef).tmps, defers := [] } := put_df t [] o.dst undef
      rw [e] at h
      exact wpList_df hq hp hk r hd.2 _ _ h
theorem region_df {R : Type} (hT : chkTab P Γ.ty = true) {hd : FuncId → List AV → List Blk → (AV → List Blk → Option R) → Option R} (hH : HdOk P hd) (hS : SumOk P Γ) {f nt : Nat} {live : List (Nat × List Nat)} {nl : List (Nat × (RowK × Nat))} {fuel : Nat} {r : R} {lo : Nat} (hlo : lo = H0.length)
    {id : Nat} (hn : (ops.toList.all fun o => isPl o.op) = true) {st : St} {k : Ex → St → Option R} {t : Array Value} {ds : List Deferred} {w : World} (hR : Rel β0 H0 w0 nt st { tmps := t, defers := [] } w) (h : evC Γ hd f lo nt live nl fuel (.region id ops false) st k = some r)
    {Q' : Exit → Act → World → Prop} (hk : ∀ st' t' w', Rel β0 H0 w0 nt st' { tmps := t', defers := [] } w' → k .normal st' = some r → Q' .normal { tmps := t', defers := ds } w') :
    (Code.region id ops false).wpIn Fence.wide n P Q' { tmps := t, defers := ds } w := by
  subst hlo
  simp only [evC, forceSt_eq] at h
  have fin : ∀ (st' : St) (a' : Act) (w' : World), Rel β0 H0 w0 nt st' a' w' → k .normal (clean H0.length live id st') = some r → KP β0 H0 w0 nt k r .normal a' w' := fun st' a' w' h1 h2 => ⟨_, clean_sound h1 live id, h2⟩
  exact wpIn_region_list (wpList_df (Q := KP β0 H0 w0 nt k r) KP_quiet (fun ch a w h => h) (fun t' w' ⟨st', h1, h2⟩ => hk st' t' w' h1 h2) _ hn _ _ (evOps_sound hT hH hS fin ops.toList hR h))
theorem piece {R : Type} (hT : chkTab P Γ.ty = true) {hd : FuncId → List AV → List Blk → (AV → List Blk → Option R) → Option R} (hH : HdOk P hd) (hS : SumOk P Γ) (hm : P.follows .mixedOrders = true) {f nt : Nat} {live : List (Nat × List Nat)} {nl : List (Nat × (RowK × Nat))} {fuel : Nat} {r : R}
    {x y z : Code} {st : St} {K : Ex → St → Option R} {a : Act} {w : World} {Q' : Exit → Act → World → Prop} {lo : Nat} (hlo : lo = H0.length) (hl : loopsIn x = []) (hc : codeOk x = true) (hR : Rel β0 H0 w0 nt st a w) (h : evC Γ hd f lo nt live nl fuel (.seq x y) st K = some r)
    (hout : ∀ e a w, e ≠ .normal → KP β0 H0 w0 nt K r e a w → Q' e a w)
    (hgo : ∀ st' a' w', Rel β0 H0 w0 nt st' a' w' → evC Γ hd f lo nt live nl fuel y st' K = some r → z.wpIn Fence.wide n P Q' a' w') : (Code.seq x z).wpIn Fence.wide n P Q' a w := by
  subst hlo
  simp only [evC] at h
  refine wpIn_seq (Go.wpIn_mono (wpIn_wide.2 (evC_sound hT hH hS hm x (fun c' h' => by rw [hl] at h'; cases h') hc st _ a w hR h)) fun e a1 w1 hq => ?_)
  cases e with
  | normal => obtain ⟨st', g1, g2⟩ := hq; exact hgo st' a1 w1 g1 g2
  | ret => exact hout .ret _ _ (by simp) hq
  | exit id => exact hout (.exit id) _ _ (by simp) hq
  | goto l => exact hq.elim
  | panic ch => exact hq.elim
  | outgrown => exact hq.elim
theorem two_in (hT : chkTab P Γ.ty = true) {hd : FuncId → List AV → List Blk → (AV → List Blk → Option (Ex × St)) → Option (Ex × St)} (hH : HdOk P hd) (hS : SumOk P Γ) (hm : P.follows .mixedOrders = true) {f nt : Nat} {live : List (Nat × List Nat)} {nl : List (Nat × (RowK × Nat))} {fuel : Nat} {lo : Nat} (hlo : lo = H0.length)
    {id id' : Nat} {draw draw' : Bool} {ops' : Array Oper} (hn : noDf ops.toList = true) (hc : codeOk (.region id ops draw) = true) (hn' : noDf ops'.toList = true) (hc' : codeOk (.region id' ops' draw') = true) {st st2 : St} {a : Act} {w : World} (hR : Rel β0 H0 w0 nt st a w)
    (h : evC Γ hd f lo nt live nl fuel (.seq (.region id ops draw) (.region id' ops' draw')) st (fun e st => some (e, st)) = some (.normal, st2)) {Q' : Exit → Act → World → Prop} (hk : ∀ a w, Rel β0 H0 w0 nt st2 a w → Q' .normal a w) :
    (Code.seq (.region id ops draw) (.region id' ops' draw')).wpIn (Fence.wide.inRound l) n P Q' a w := by
  have h2 : evC Γ hd f lo nt live nl fuel (.region id ops draw) st (fun e st => match e with | .normal => evC Γ hd f lo nt live nl fuel (.region id' ops' draw') st (fun e st => some (e, st)) | e => some (e, st)) = some (.normal, st2) := by
    rw [← h]
    conv => rhs; unfold evC
    refine congrArg (fun k => evC Γ hd f lo nt live nl fuel (.region id ops draw) st k) (funext fun e => funext fun st => ?_)
    cases e <;> rfl
  refine wpIn_seq (Go.wpIn_mono (region_in hT hH hS hm hlo hn hc hR h2) fun e a2 w2 hq => ?_)
  cases e with
  | normal =>
    obtain ⟨st1, g1, g2⟩ := hq
    refine Go.wpIn_mono (region_in hT hH hS hm hlo hn' hc' g1 g2) fun e a3 w3 hq => ?_
    cases e with
    | normal => obtain ⟨st3, g3, g4⟩ := hq; cases g4; exact hk _ _ g3
    | ret => obtain ⟨st3, g3, g4⟩ := hq; cases g4
    | exit id => obtain ⟨st3, g3, g4⟩ := hq; cases g4
    | _ => exact hq.elim
  | ret => obtain ⟨st3, g3, g4⟩ := hq; cases g4
  | exit id => obtain ⟨st3, g3, g4⟩ := hq; cases g4
  | _ => exact hq.elim

/-! ### Frames -/
theorem rel_start {β : Bm} {H : List Blk} {args : List AV} {vals : Array Value} {nt : Nat} (hw : WR β H w) (hv : All2 (RV β H) args vals.toList) (hle : args.length ≤ nt) : Rel β H w nt ⟨argTm 0 args, H⟩ { tmps := vals ++ Array.replicate (nt - vals.size) undef, defers := [] } w := by
  have hlen : vals.size = args.length := by rw [hv.length]; simp
  refine ⟨β, Inv.start hw, fun d => ?_, ?_, rfl⟩
  · simp only
    rw [argTm_get, if_pos (Nat.zero_le _), Nat.sub_zero]
    by_cases hd' : d < args.length
    · obtain ⟨v, g1, g2⟩ := hv.get d _ (List.getElem?_eq_getElem hd')
      rw [List.getElem?_eq_getElem hd']
      have : (vals ++ Array.replicate (nt - vals.size) undef).getD d undef = v := by
        rw [Array.getD_eq_getD_getElem?, Array.getElem?_append_left (by omega)]
        have : vals[d]? = some v := by simpa using g1
        rw [this]; rfl
      rw [this]; exact g2
    · rw [List.getElem?_eq_none (by omega)]; trivial
  · simp only [Array.size_append, Array.size_replicate]; omega
theorem rtm_skip {β : Bm} {H : List Blk} {tm : List (Nat × AV)} {t : Array Value} (h : RTm β H tm t) {d : Nat} (hd : get tm d = .top) (u : Value) : RTm β H tm (t.setIfInBounds d u) := fun e => by
  by_cases he : e = d
  · subst he; rw [hd]; trivial
  · have := h e
    rw [Array.getD_eq_getD_getElem?] at this ⊢
    rw [Array.getElem?_setIfInBounds_ne (fun h => he h.symm)]
    exact this
theorem rtm_cons {β : Bm} {H : List Blk} {tm : List (Nat × AV)} {t : Array Value} (h : RTm β H tm t) {d : Nat} {v : AV} {u : Value} (hv : RV β H v u) (hd : d < t.size) : RTm β H ((d, v) :: tm) (t.setIfInBounds d u) :=
  RTm.put (a := { tmps := t, defers := [] }) h (d := some d) hv fun i e => by cases e; exact hd
end
end Go.Rf
