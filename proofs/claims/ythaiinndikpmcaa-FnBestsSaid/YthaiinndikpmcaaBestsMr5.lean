/-
  MirrorProfile: what it answers.
-/
import Derived.Test.YthaiinndikpmcaaBestsMr4
set_option linter.unusedVariables false
set_option linter.unusedSimpArgs false
set_option maxRecDepth 100000
set_option maxHeartbeats 4000000
namespace Go.Proofs.Ythaiinndikpmcaa
open Go Go.RowKit Go.Rf
section
variable {An : Nat} {A : List Nat} {Ln : Nat} {L : List Nat} {Dn : Nat} {D : List Nat}



def mneg (xs : List Nat) (n : Nat) : List Nat := (List.range n).map fun j => fneg .f32 (xs.getD (n - 1 - j) 0)
def mrev (xs : List Nat) (n : Nat) : List Nat := (List.range n).map fun j => xs.getD (n - 1 - j) 0
theorem assign_oper {P : Program} {o : Oper} {x : Operand} {l n : Nat} {a : Act} {w : World} {next : Act → World → Prop} {Q : Exit → Act → World → Prop} (ho : o.op = .assign x) {v : Value} (hv : a.eval x = v) (h : next (a.put o.dst v) w) : o.wpIn (Fence.wide.inRound l) n P a w next Q := by
  refine ⟨fun f _ => trivial, ?_⟩
  have hs : o.semAt (Fence.wide.inRound l).round a.eval = execOp a.eval o := Oper.semAt_some l _ _ (by intro c; rw [ho]; simp)
  rw [hs]
  have hr : (execOp a.eval o).run P w = .ok (.value (a.eval x)) w := by unfold execOp; rw [ho]; simp
  rw [hr, hv]
  exact h
theorem assign_in {l n : Nat} {t : Array Value} {x : El A An} {W : World} {K : Act → World → Prop} (hsz : t.size = 46) (hK : K (a1 t x) W) :
    as9.wpIn (Fence.wide.inRound l) n Try.prog (Exit.then K (fun _ _ _ => False)) { tmps := (#[15, 16].zip #[Value.int .i64 (x.1.1 : Int), .float .f32 x.1.2]).foldl (fun t (p, v) => t.setIfInBounds p v) t, defers := [] } W := by
  rw [as9_eq]
  have e : (#[15, 16].zip #[Value.int .i64 (x.1.1 : Int), .float .f32 x.1.2]).foldl (fun t (p, v) => t.setIfInBounds p v) t = (t.setIfInBounds 15 (.int .i64 (x.1.1 : Int))).setIfInBounds 16 (.float .f32 x.1.2) := by simp
  rw [e]
  have e1 : ((t.setIfInBounds 15 (.int .i64 (x.1.1 : Int))).setIfInBounds 16 (.float .f32 x.1.2)).getD 15 undef = .int .i64 (x.1.1 : Int) := by
    simp [Array.getD_eq_getD_getElem?, Array.getElem?_setIfInBounds, hsz]
  have e2 : (((t.setIfInBounds 15 (.int .i64 (x.1.1 : Int))).setIfInBounds 16 (.float .f32 x.1.2)).setIfInBounds 5 (.int .i64 (x.1.1 : Int))).getD 16 undef = .float .f32 x.1.2 := by
    simp [Array.getD_eq_getD_getElem?, Array.getElem?_setIfInBounds, hsz]
  refine wpIn_seq (wpIn_region_list ?_)
  refine assign_oper (x := .tmp 15) rfl e1 ?_
  show (Code.region 6 _ false).wpIn _ _ _ _ ({ tmps := ((t.setIfInBounds 15 (.int .i64 (x.1.1 : Int))).setIfInBounds 16 (.float .f32 x.1.2)).setIfInBounds 5 (.int .i64 (x.1.1 : Int)), defers := [] } : Act) W
  refine wpIn_region_list ?_
  exact assign_oper (x := .tmp 16) rfl e2 hK

def Post9 (A L D : List Nat) (w : World) (b : Bool) (An : Nat) (u : Value) (w' : World) : Prop :=
  ∃ γ, Fresh γ (if b then outB (mneg A An) (mneg L An) (mrev D An) else outB [] [] []) w w' ∧ RV γ (if b then outB (mneg A An) (mneg L An) (mrev D An) else outB [] [] []) (outV (if b then An else 0) b) u

theorem post_in {β0 : Bm} {H0 : List Blk} {w0 : World} {n : Nat} (h0 : H0.length = 3) (hf : Foreign H0) {t : Array Value} {n4 bs bA Dm : Nat} (hsz : t.size = 46) {xs : List (El A An)} {W : World} (hw : w0.heap.size ≤ Dm) (hI : Im Ln L Dn D β0 H0 w0 t n4 bs bA xs W) (hK : W.heap[Dm]? = some (.deferred (some [])))
    (hlen : xs.length = An) (eA : asOf xs = mneg A An) (eL : lsOf L xs = mneg L An) (eD : dsOf D xs = mrev D An) :
    (Code.seq (.region 9 o9 false) .ret).wpIn Fence.wide n Try.prog (bodyPostM Fence.wide n Try.prog Try.f9 fun e w' => ∃ u, e = .returned u ∧ Post9 A L D w0 true An u w') { tmps := t, defers := [{ target := .collected Dm, args := #[] }] } W := by
  obtain ⟨hs, β6, i1, i2, _, _⟩ := hI
  have hR : Rel β6 (hP Ln L Dn D xs) W 46 ⟨Ptm, hP Ln L Dn D xs⟩ { tmps := t, defers := [] } W := ⟨β6, Inv.start i1.wr, i2, hsz, rfl⟩
  refine wpIn_seq (region_df (H0 := hP Ln L Dn D xs) tyTab_ok hHd (SumL.ok tb26_ok _) rfl (by kernel_rfl) hR (e_post An A Ln L Dn D xs.length (asOf xs) (lsOf L xs) (dsOf D xs)) fun st' t' w' g hk => ?_)
  cases hk
  obtain ⟨β7, j1, j2, _, _⟩ := g
  refine wpIn_ret ?_
  have hK' := (j1.others i1.wr).same Dm _ hK rfl
  refine ⟨by simp, .inl ⟨_, _, rfl, run_takeDeferred hK', ?_⟩⟩
  have j4 := (i1.trans j1).grown (grownBy_putObj' w' Dm (.deferred none)) (fun r e => by cases e; exact ⟨hw, _, hK', rfl⟩)
  have hres : Try.f9.results.toList = [.cell 2 26, .tmp 3] := by kernel_rfl
  obtain ⟨v, g1, g2⟩ := run_res tyTab_ok j4.wr j2 (fn := Try.f9) (by rw [hres]; exact r_end An A Ln L Dn D xs.length (asOf xs) (lsOf L xs) (dsOf D xs))
  obtain ⟨β8, d1, d2⟩ := denilR_sound j4 g2 rn9
  obtain ⟨β9, c1, c2⟩ := compact_sound d1 [(0, (denilR rn9 (resX (stE An A Ln L Dn D xs.length (asOf xs) (lsOf L xs) (dsOf D xs))) (stE An A Ln L Dn D xs.length (asOf xs) (lsOf L xs) (dsOf D xs)).H).1)]
  have he := e_end An A Ln L Dn D xs.length (asOf xs) (lsOf L xs) (dsOf D xs)
  rw [← h0] at he
  have := expo_sound hf c1 (c2 0 v d2) he
  rw [hlen, eA, eL, eD] at this
  exact ⟨v, g1, v, rfl, this⟩
theorem ret_in {β0 : Bm} {H0 : List Blk} {w0 : World} {n : Nat} (h0 : H0.length = 3) (hf : Foreign H0) {a : Act} {W : World} (hR : Rel β0 H0 w0 46 (stR A L D) a W) :
    bodyPostM Fence.wide n Try.prog Try.f9 (fun e w' => ∃ u, e = .returned u ∧ Post9 A L D w0 false An u w') .ret a W := by
  obtain ⟨β7, j1, j2, _, hdf⟩ := hR
  have hres : Try.f9.results.toList = [.cell 2 26, .tmp 3] := by kernel_rfl
  obtain ⟨v, g1, g2⟩ := run_res tyTab_ok j1.wr j2 (fn := Try.f9) (by rw [hres]; exact r_ret A L D)
  obtain ⟨β8, d1, d2⟩ := denilR_sound j1 g2 rn9
  obtain ⟨β9, c1, c2⟩ := compact_sound d1 [(0, (denilR rn9 (resX (stR A L D)) (stR A L D).H).1)]
  have he := e_ret A L D
  rw [← h0] at he
  show LeavesInM _ _ _ _ _ _ a.defers _ _
  rw [hdf]
  exact ⟨v, g1, v, rfl, expo_sound hf c1 (c2 0 v d2) he⟩
end
end Go.Proofs.Ythaiinndikpmcaa
