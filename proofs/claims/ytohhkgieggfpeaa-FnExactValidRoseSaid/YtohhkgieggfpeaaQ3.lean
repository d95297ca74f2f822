/-
  The evaluator answers what the model's runs come to: every operation that only looks.
-/
import Derived.Test.YtohhkgieggfpeaaQ2
set_option linter.unusedVariables false
namespace Go.Rf
open Go

section
variable {β : Bm} {H : List Blk} {w : World} {P : Program} {Γ : Ctx}

theorem args_one {tm : List (Nat × AV)} {a : Act} (hv : RTm β H tm a.tmps) {c : Call} {x : AV} (h : opnds tm c.args.toList = [x]) : ∃ v, c.args.map a.eval = #[v] ∧ RV β H x v := by
  have := opnds_rel hv c.args.toList
  rw [h] at this
  cases hc : List.map a.eval c.args.toList with
  | nil => rw [hc] at this; cases this
  | cons v r =>
    rw [hc] at this
    cases this with
    | cons h1 h2 =>
      cases h2
      exact ⟨v, by rw [← Array.toList_inj]; simpa using hc, h1⟩
theorem args_two {tm : List (Nat × AV)} {a : Act} (hv : RTm β H tm a.tmps) {c : Call} {x y : AV} (h : opnds tm c.args.toList = [x, y]) : ∃ v u, c.args.map a.eval = #[v, u] ∧ RV β H x v ∧ RV β H y u := by
  have := opnds_rel hv c.args.toList
  rw [h] at this
  cases hc : List.map a.eval c.args.toList with
  | nil => rw [hc] at this; cases this
  | cons v r =>
    rw [hc] at this
    cases this with
    | cons h1 h2 =>
      cases h2 with
      | cons h3 h4 =>
        cases h4
        exact ⟨_, _, by rw [← Array.toList_inj]; simpa using hc, h1, h3⟩

theorem real_eq (A : Array TypeId) (t : TypeId) (k : FloatKind) (x y : Nat) : Builtin.real_ A t #[.complex k x y] = pure (.float k x) := rfl
theorem imag_eq (A : Array TypeId) (t : TypeId) (k : FloatKind) (x y : Nat) : Builtin.imag_ A t #[.complex k x y] = pure (.float k y) := rfl
theorem complex_eq (A : Array TypeId) (t : TypeId) (k : FloatKind) (x y : Nat) : Builtin.complex_ A t #[.float k x, .float k y] = pure (.complex k x y) := by
  show (if k = k then (pure (.complex k x y) : Sem Value) else _) = _
  rw [if_pos rfl]
theorem evQ_call {R : Type} {tm : List (Nat × AV)} {a : Act} (hv : RTm β H tm a.tmps) {k : AV → Option R} {r : R} {o : Oper} {c : Call} (ho : o.op = .call c)
    (hT : chkTab P Γ.ty = true) (h : evQ Γ (.call c) tm H k = some r) : GivesO β H P w (execOp a.eval o) k r := by
  have hx : execOp a.eval o = (do let d ← resolve a.eval c o.type; invoke d.target d.args) := by simp only [execOp, ho]
  rw [hx]
  simp only [evQ] at h
  split at h
  · rename_i hc
    split at h
    · rename_i T hTs
      split at h
      · rename_i ti hti
        split at h
        · rename_i el hd
          have he := slice_at (tab_fact hT hti) hd
          have hat : c.argTypes[0]? = some T := by rw [← Array.getElem?_toList, hTs]; rfl
          have go : ∀ {b : Option Addr} {n m : Nat}, c.args.map a.eval = #[.slice b n m] → (do let d ← resolve a.eval c o.type; invoke d.target d.args : Sem Next).run P w = .ok (.value (.int .i64 n)) w := by
            intro b n m harg
            have hu := run_und (w := w) he
            have h0 : c.args[0]?.map a.eval = some (.slice b n m) := by rw [← Array.getElem?_map, harg]; rfl
            simp only [resolve, hc, harg]
            simp [invoke, builtin, Builtin.len_, hat, hu, goInt]
          split at h
          · rename_i t off n sz hop
            obtain ⟨v, h1, h2⟩ := args_one hv hop
            have : ∃ b cap, v = .slice b n cap := by
              rcases h2 with ⟨B, o, C, cap, _, _, _, _, _, rfl⟩ | ⟨rfl, a, rfl⟩ <;> exact ⟨_, _, rfl⟩
            obtain ⟨b, cap, rfl⟩ := this
            exact ⟨A1 (.int .i64 n), _, w, go h1, Same.refl w, rfl, h⟩
          · rename_i t off n sz hop
            obtain ⟨v, h1, h2⟩ := args_one hv hop
            obtain ⟨b, cap, rfl, _⟩ := h2
            exact ⟨A1 (.int .i64 n), _, w, go h1, Same.refl w, rfl, h⟩
          · rename_i hop
            obtain ⟨v, h1, h2⟩ := args_one hv hop
            obtain ⟨b, rfl⟩ := h2
            exact ⟨A1 (.int .i64 0), .int .i64 0, w, go h1, Same.refl w, rfl, h⟩
          · cases h
        · cases h
      · cases h
    · cases h
  · rename_i hc
    split at h
    · rename_i hop
      obtain ⟨v, h1, h2⟩ := args_one hv hop
      obtain ⟨x, y, rfl, hx, hy, rfl, rfl⟩ := h2
      refine ⟨A1 (.flt _ _), _, w, ?_, Same.refl w, ⟨x, rfl, hx, rfl⟩, h⟩
      simp only [resolve, hc, h1]
      simp [invoke, builtin, real_eq]
    · cases h
  · rename_i hc
    split at h
    · rename_i hop
      obtain ⟨v, h1, h2⟩ := args_one hv hop
      obtain ⟨x, y, rfl, hx, hy, rfl, rfl⟩ := h2
      refine ⟨A1 (.flt _ _), _, w, ?_, Same.refl w, ⟨y, rfl, hy, rfl⟩, h⟩
      simp only [resolve, hc, h1]
      simp [invoke, builtin, imag_eq]
    · cases h
  · rename_i hc
    split at h
    · rename_i hop
      obtain ⟨v, u, h1, h2, h3⟩ := args_two hv hop
      obtain ⟨x, rfl, hx, rfl⟩ := h2
      obtain ⟨y, rfl, hy, rfl⟩ := h3
      split at h
      · rename_i hj
        have hj := of_decide_eq_true hj
        subst hj
        refine ⟨A1 (.cx _ _ _), _, w, ?_, Same.refl w, ⟨x, y, rfl, hx, hy, rfl, rfl⟩, h⟩
        simp only [resolve, hc, h1]
        simp [invoke, builtin, complex_eq]
      · cases h
    · cases h
  · rename_i hc
    split at h
    · rename_i j x j' y hop
      obtain ⟨v, u, h1, h2, h3⟩ := args_two hv hop
      obtain rfl : v = .int j x := h2
      obtain rfl : u = .int j' y := h3
      refine ⟨A1 (.int j (maI x y)), _, w, ?_, Same.refl w, rfl, h⟩
      simp only [resolve, hc, h1]
      simp [invoke, builtin, Builtin.max_, Builtin.max2, maI]
    · cases h
  · rename_i hc
    split at h
    · rename_i j x j' y hop
      obtain ⟨v, u, h1, h2, h3⟩ := args_two hv hop
      obtain rfl : v = .int j x := h2
      obtain rfl : u = .int j' y := h3
      refine ⟨A1 (.int j (miI x y)), _, w, ?_, Same.refl w, rfl, h⟩
      simp only [resolve, hc, h1]
      simp [invoke, builtin, Builtin.min_, Builtin.min2, miI]
    · cases h
  · cases h

theorem evQ_sound {R : Type} (hT : chkTab P Γ.ty = true) (hw : WR β H w) {tm : List (Nat × AV)} {a : Act} (hv : RTm β H tm a.tmps) {k : AV → Option R} {r : R} {o : Oper}
    (h : evQ Γ o.op tm H k = some r) : GivesO β H P w (execOp a.eval o) k r := by
  have tf := fun {T : Nat} {i : TI} (hl : look Γ.ty T = some i) => tab_fact hT hl
  obtain ⟨dst, op, ty, pos, after, guard⟩ := o
  simp only at h
  unfold evQ at h
  split at h
  · exact ⟨_, _, w, rfl, Same.refl w, opnd_rel hv _, h⟩
  · exact ⟨_, _, w, rfl, Same.refl w, opnd_rel hv _, h⟩
  · -- pick
    rename_i c x y
    split at h
    · rename_i b hc
      have e := opnd_rel hv c
      rw [hc] at e
      have e : a.eval c = .bool b := e
      cases b
      · exact ⟨_, _, w, by simp [execOp, e, asBool], Same.refl w, opnd_rel hv y, h⟩
      · exact ⟨_, _, w, by simp [execOp, e, asBool], Same.refl w, opnd_rel hv x, h⟩
    · cases h
  · -- binOp
    rename_i op T x y yT
    split at h
    · rename_i i hi
      have := (evBin_sound (w := w) (tf hi) (X := x) (Y := y) (opnd_rel hv x) (opnd_rel hv y) h).o
      exact this
    · cases h
  · -- unOp
    rename_i op T x
    exact (evUn_sound (w := w) (P := P) (opnd_rel hv x) h).o
  · -- convert
    rename_i src dst x
    split at h
    · rename_i si i hs hd
      exact (evConv_sound (w := w) (tf hs) (tf hd) (opnd_rel hv x) h).o
    · cases h
  · -- nilCheck
    rename_i x
    split at h
    · rename_i t off ext hx
      have e := opnd_rel hv x
      rw [hx] at e
      have e' := e
      obtain ⟨B, o, C, h1, h2, h3, he⟩ := e
      refine ⟨_, _, w, ?_, Same.refl w, e', h⟩
      simp [execOp, he]
    · rename_i f caps hx
      have e := opnd_rel hv x
      rw [hx] at e
      have e' := e
      obtain ⟨cs, he, h2⟩ := e
      refine ⟨_, _, w, ?_, Same.refl w, e', h⟩
      simp [execOp, he]
    · cases h
  · -- load
    rename_i T x
    split at h
    · rename_i t off ext hx
      have e := opnd_rel hv x
      rw [hx] at e
      split at h
      · rename_i i b hi hb
        split at h
        · cases h
        · rename_i hle
          split at h
          · rename_i hag
            split at h
            · rename_i cs hcs
              obtain ⟨u, h1, h2⟩ := run_load_ptr (tf hi) hw e hb (ble_le hle) (by rw [hag]; intro q; cases q) (x := .agg cs) (by rw [hag]; exact ⟨cs, hcs, rfl⟩)
              exact ⟨.v (.agg cs), u, w, by simp [execOp, h1], Same.refl w, h2, h⟩
            · cases h
          · rename_i hag
            split at h
            · rename_i hs1
              split at h
              · rename_i q hq
                split at h
                · cases h
                · obtain ⟨u, h1, h2⟩ := run_load_ptr (tf hi) hw e hb (ble_le hle) (fun _ => beq_eq hs1) (x := .one q) (by rw [hag]; exact ⟨q, hq, rfl⟩)
                  exact ⟨A1 q, u, w, by simp [execOp, h1], Same.refl w, h2, h⟩
              · cases h
            · cases h
      · cases h
    · cases h
  · -- fieldAddr
    rename_i T x f
    split at h
    · rename_i t off ext hx
      have e := opnd_rel hv x
      rw [hx] at e
      obtain ⟨B, o, C, h1, h2, h3, he⟩ := e
      split at h
      · rename_i i hi
        split at h
        · rename_i fs hd
          split at h
          · rename_i fo ft hn
            split at h
            · rename_i fi hfi
              split at h
              · rename_i hs1
                split at h
                · rename_i hs2
                  have hr := run_fieldAt (w := w) (tf hi) hd hn (tf hfi) (ble_le hs1) B (o + off)
                  have hs2 := ble_le hs2
                  refine ⟨A1 (.ptr t (off + fo) fi.size), .pointer (some ⟨B, o + off + fo, none⟩), w, by simp only [execOp, he, Sem.run_bind, hr, Result.andThen_ok, Sem.run_pure], Same.refl w, ?_, h⟩
                  exact ⟨B, o, C, h1, h2, by omega, by rw [Nat.add_assoc]⟩
                · cases h
              · cases h
            · cases h
          · cases h
        · cases h
      · cases h
    · cases h
  · -- field
    rename_i T x f
    split at h
    · rename_i cs hx
      have e := opnd_rel hv x
      rw [hx] at e
      obtain ⟨arr, he, hR⟩ := e
      split at h
      · rename_i i hi
        split at h
        · rename_i fs hd
          split at h
          · rename_i fo ft hn
            split at h
            · rename_i fi hfi
              split at h
              · rename_i hag
                split at h
                · rename_i ds hds
                  obtain ⟨u, h1, h2⟩ := run_field (w := w) (tf hi) hd hn (tf hfi) hR (x := .agg ds) (by rw [hag]; exact ⟨ds, hds, rfl⟩)
                  exact ⟨.v (.agg ds), u, w, by simp [execOp, he, h1], Same.refl w, h2, h⟩
                · cases h
              · rename_i hag
                split at h
                · rename_i q hq
                  split at h
                  · cases h
                  · obtain ⟨u, h1, h2⟩ := run_field (w := w) (tf hi) hd hn (tf hfi) hR (x := .one q) (by rw [hag]; exact ⟨q, hq, rfl⟩)
                    exact ⟨A1 q, u, w, by simp [execOp, he, h1], Same.refl w, h2, h⟩
                · cases h
            · cases h
          · cases h
        · cases h
      · cases h
    · cases h
  · -- indexAddr
    rename_i T x i
    split at h
    · rename_i ti hi
      split at h
      · rename_i el hd
        split at h
        · rename_i ei hei
          split at h
          · rename_i t off len sz q n hx hn
            have e := opnd_rel hv x
            rw [hx] at e
            have e2 := opnd_rel hv i
            rw [hn] at e2
            have e2 : a.eval i = .int q n := e2
            split at h
            · rename_i hsz
              have hsz := beq_eq hsz
              obtain ⟨⟨c0, c1⟩, h⟩ := chk_nat h
              rcases e with ⟨B, o, C, cap, h1, h2, h3, h4, h5, he⟩ | ⟨hl0, _⟩
              · have hr := run_indexAt (w := w) (tf hi) hd (tf hei) (B := B) (off := o + off) (len := len) (cap := cap) (q := q) c0 c1
                rw [← hsz] at hr
                have hm : (n.toNat + 1) * sz ≤ len * sz := Nat.mul_le_mul_right _ (by omega)
                rw [Nat.succ_mul] at hm
                refine ⟨A1 (.ptr t (off + n.toNat * sz) sz), .pointer (some ⟨B, o + off + n.toNat * sz, none⟩), w, by simp only [execOp, he, e2, Sem.run_bind, hr, Result.andThen_ok, Sem.run_pure], Same.refl w, ?_, h⟩
                exact ⟨B, o, C, h1, h2, by omega, by rw [Nat.add_assoc]⟩
              · omega
            · cases h
          · rename_i t off len sz q n hx hn
            have e := opnd_rel hv x
            rw [hx] at e
            have e2 := opnd_rel hv i
            rw [hn] at e2
            have e2 : a.eval i = .int q n := e2
            split at h
            · rename_i hsz
              have hsz := beq_eq hsz
              obtain ⟨⟨c0, c1⟩, h⟩ := chk_nat h
              obtain ⟨b, cap, he, h4, h5⟩ := e
              obtain ⟨B, o, C, h1, h2, h3, rfl⟩ := h5 (by omega)
              have hr := run_indexAt (w := w) (tf hi) hd (tf hei) (B := B) (off := o + off) (len := len) (cap := cap) (q := q) c0 c1
              rw [← hsz] at hr
              have hm : (n.toNat + 1) * sz ≤ len * sz := Nat.mul_le_mul_right _ (by omega)
              rw [Nat.succ_mul] at hm
              refine ⟨A1 (.ptr t (off + n.toNat * sz) sz), .pointer (some ⟨B, o + off + n.toNat * sz, none⟩), w, by simp only [execOp, he, e2, Sem.run_bind, hr, Result.andThen_ok, Sem.run_pure], Same.refl w, ?_, h⟩
              exact ⟨B, o, C, h1, h2, by omega, by rw [Nat.add_assoc]⟩
            · cases h
          · cases h
        · cases h
      · cases h
    · cases h
  · -- slice
    rename_i T x lo hi mx
    split at h
    · rename_i ti hti
      split at h
      · rename_i el hd
        split at h
        · rename_i ei hei
          have zero : ∀ {at0 : At} {q q' : IntKind} (hx : opnd tm x = .v (.one at0)), ((∃ t off len sz, at0 = .sl t off len sz) ∨ (∃ t off len sz, at0 = .vw t off len sz) ∨ at0 = .nilsl) → k (A1 .nilsl) = some r →
              GivesO β H P w (execOp a.eval ⟨dst, .slice T x none (some (.const (.int q 0))) (some (.const (.int q' 0))), ty, pos, after, guard⟩) k r := by
            intro at0 q q' hx hs hk
            have e := opnd_rel hv x
            rw [hx] at e
            obtain ⟨b, n, c, he⟩ := sl_shape hs e
            have hr := run_sliceAt_zero (w := w) (tf hti) hd (tf hei) (a := b) (len := n) (cap := c) q q'
            refine ⟨A1 .nilsl, .slice b 0 0, w, ?_, Same.refl w, ⟨b, rfl⟩, hk⟩
            have hx' : execOp a.eval ⟨dst, .slice T x none (some (.const (.int q 0))) (some (.const (.int q' 0))), ty, pos, after, guard⟩ = (do pure (.value (← Instr.sliceAt T (a.eval x) none (some (.int q 0)) (some (.int q' 0))))) := rfl
            rw [hx', he]
            simp [hr]
          simp only at h
          split at h
          · rename_i t off len sz hx
            split at h
            · cases h
            · rename_i hsz
              have hsz := beq_eq hsz
              split at h
              · split at h
                · split at h
                  · exact zero hx (.inl ⟨_, _, _, _, rfl⟩) h
                  · cases h
                · cases h
              · cases h
              · have e := opnd_rel hv x
                rw [hx] at e
                refine (slice_sound (w := w) (tf hti) hd (tf hei) hv t off len sz .sl lo hi hsz (sl_cut e) (by intros; simp) (k := k) (r := r) ?_).o
                cases lo <;> cases hi <;> exact h
          · rename_i t off len sz hx
            split at h
            · cases h
            · rename_i hsz
              have hsz := beq_eq hsz
              split at h
              · split at h
                · split at h
                  · exact zero hx (.inr (.inl ⟨_, _, _, _, rfl⟩)) h
                  · cases h
                · cases h
              · cases h
              · have e := opnd_rel hv x
                rw [hx] at e
                refine (slice_sound (w := w) (tf hti) hd (tf hei) hv t off len sz .vw lo hi hsz (vw_cut e) (by intros; simp) (k := k) (r := r) ?_).o
                cases lo <;> cases hi <;> exact h
          · rename_i hx
            split at h
            · split at h
              · split at h
                · exact zero hx (.inr (.inr rfl)) h
                · cases h
              · cases h
            · cases h
          · cases h
        · cases h
      · cases h
    · cases h
  · -- extract
    rename_i x i
    split at h
    · rename_i vs hx
      have e := opnd_rel hv x
      rw [hx] at e
      obtain ⟨arr, he, hR⟩ := e
      split at h
      · rename_i y hy
        rw [nth_eq] at hy
        obtain ⟨u, hu, hRu⟩ := hR.get i y hy
        have hu' : arr[i]? = some u := by simpa using hu
        exact ⟨.v y, u, w, by simp [execOp, he, Instr.extract, hu'], Same.refl w, hRu, h⟩
      · cases h
    · cases h
  · -- makeFunc
    rename_i fn first caps
    split at h
    rotate_left
    · cases h
    rename_i f
    split at h
    rotate_left
    · cases h
    rename_i hfirst
    have hfirst : first = #[] := by rw [← Array.toList_inj, hfirst]
    subst hfirst
    have hcl : ∀ l, caps.toList = l → caps.map a.eval = (l.map a.eval).toArray := by
      intro l hl; rw [← hl, ← Array.toList_map, Array.toArray_toList]
    split at h
    · rename_i hc
      exact ⟨A1 (.fn f []), .func (.func f) #[] #[], w, by simp [execOp, Instr.makeFunc, hcl _ hc], Same.refl w, ⟨#[], rfl, .nil⟩, h⟩
    · rename_i x hc
      split at h
      · rename_i q hx
        split at h
        · cases h
        · rename_i hf
          have e := opnd_rel hv x
          rw [hx] at e
          have e0 : R0 β H q (a.eval x) := by
            rcases (RAt_iff β H q _).1 e with ⟨f', c', rfl, _⟩ | e0
            · cases hf
            · exact e0
          exact ⟨A1 (.fn f [q]), .func (.func f) #[] #[a.eval x], w, by simp [execOp, Instr.makeFunc, hcl _ hc], Same.refl w, ⟨#[a.eval x], rfl, .cons e0 .nil⟩, h⟩
      · cases h
    · rename_i x y hc
      split at h
      · rename_i q q' hx hy
        split at h
        · rename_i hf hf'
          have e := opnd_rel hv x
          rw [hx] at e
          have e0 : R0 β H q (a.eval x) := by
            rcases (RAt_iff β H q _).1 e with ⟨f', c', rfl, _⟩ | e0
            · cases hf
            · exact e0
          have e' := opnd_rel hv y
          rw [hy] at e'
          have e0' : R0 β H q' (a.eval y) := by
            rcases (RAt_iff β H q' _).1 e' with ⟨f', c', rfl, _⟩ | e0
            · cases hf'
            · exact e0
          exact ⟨A1 (.fn f [q, q']), .func (.func f) #[] #[a.eval x, a.eval y], w, by simp [execOp, Instr.makeFunc, hcl _ hc], Same.refl w, ⟨#[a.eval x, a.eval y], rfl, .cons e0 (.cons e0' .nil)⟩, h⟩
        · cases h
      · cases h
    · cases h
  · exact evQ_call hv rfl hT (by unfold evQ; exact h)
  · cases h
end
end Go.Rf
