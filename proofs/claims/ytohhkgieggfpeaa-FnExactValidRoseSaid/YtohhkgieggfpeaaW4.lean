/-
  The evaluator answers what the model's runs come to: every operation that makes memory or writes, put together.
-/
import Derived.Test.YtohhkgieggfpeaaW3
set_option linter.unusedVariables false
namespace Go.Rf
open Go

section
variable {β0 : Bm} {H0 : List Blk} {w0 : World} {β : Bm} {H : List Blk} {w : World} {P : Program} {Γ : Ctx}

theorem asFl_facts {k : FloatKind} : ∀ {cs : List At} {xs : List Nat}, asFl k cs = some xs → cs = xs.map (At.flt k)
  | [], xs, h => by simp only [asFl] at h; cases h; rfl
  | a :: r, xs, h => by
    cases a <;> simp only [asFl] at h <;> try cases h
    split at h
    · rename_i hk
      have hk := of_decide_eq_true hk
      subst hk
      split at h
      · rename_i ys hys
        cases h
        rw [asFl_facts hys]; rfl
      · cases h
    · cases h
theorem asIl_facts {k : IntKind} : ∀ {cs : List At} {xs : List Int}, asIl k cs = some xs → cs = xs.map (At.int k)
  | [], xs, h => by simp only [asIl] at h; cases h; rfl
  | a :: r, xs, h => by
    cases a <;> simp only [asIl] at h <;> try cases h
    split at h
    · rename_i hk
      have hk := of_decide_eq_true hk
      subst hk
      split at h
      · rename_i ys hys
        cases h
        rw [asIl_facts hys]; rfl
      · cases h
    · cases h
theorem asBl_facts : ∀ {cs : List At} {xs : List Bool}, asBl cs = some xs → cs = xs.map At.bool
  | [], xs, h => by simp only [asBl] at h; cases h; rfl
  | a :: r, xs, h => by
    cases a <;> simp only [asBl] at h <;> try cases h
    split at h
    · rename_i ys hys
      cases h
      rw [asBl_facts hys]; rfl
    · cases h
theorem mkRow_facts {q : RowK} {cs : List At} {b : Body} (h : mkRow q cs = some b) : b.size = cs.length ∧ ∀ j a, j < b.size → b.get j = some a → cs[j]? = some a := by
  unfold mkRow at h
  split at h
  · split at h
    · rename_i xs hxs
      cases h
      rw [asFl_facts hxs]
      refine ⟨by simp [Body.size], fun j a hj ha => ?_⟩
      have hj : j < xs.length := hj
      cases ha
      simp [List.getD_eq_getElem?_getD, hj]
    · cases h
  · split at h
    · rename_i xs hxs
      cases h
      rw [asIl_facts hxs]
      refine ⟨by simp [Body.size], fun j a hj ha => ?_⟩
      have hj : j < xs.length := hj
      cases ha
      simp [List.getD_eq_getElem?_getD, hj]
    · cases h
  · split at h
    · rename_i xs hxs
      cases h
      rw [asBl_facts hxs]
      refine ⟨by simp [Body.size], fun j a hj ha => ?_⟩
      have hj : j < xs.length := hj
      cases ha
      simp [List.getD_eq_getElem?_getD, hj]
    · cases h
  · cases h
    exact ⟨rfl, fun j a _ ha => by simpa [Body.get, nth_eq] using ha⟩

theorem repL_get {α : Type} (xs : List α) : ∀ (n j : Nat), j < n * xs.length → (repL xs n)[j]? = xs[j % xs.length]?
  | 0, j, h => by simp at h
  | n + 1, j, h => by
    simp only [repL]
    by_cases hj : j < xs.length
    · rw [List.getElem?_append_left hj, Nat.mod_eq_of_lt hj]
    · rw [List.getElem?_append_right (by omega), repL_get xs n (j - xs.length) (by rw [Nat.succ_mul] at h; omega), ← Nat.mod_eq_sub_mod (by omega)]
theorem repL_length {α : Type} (xs : List α) : ∀ n, (repL xs n).length = n * xs.length
  | 0 => by simp [repL]
  | n + 1 => by simp [repL, repL_length xs n, Nat.succ_mul]; omega

theorem made_rel {zs : List At} {z : Array Value} (h : All2 (RAt β H) zs z.toList) (n : Nat) : All2 (RAt β H) (repL zs n) (madeCells z (n * z.size)).toList := by
  have hl : zs.length = z.size := by rw [h.length]; simp
  refine All2.of_get (by rw [repL_length, hl]; simp [madeCells]) fun i a b ha hb => ?_
  have hi : i < n * z.size := by
    have := (List.getElem?_eq_some_iff.1 hb).1
    simpa [madeCells] using this
  have hz : 0 < z.size := by
    rcases Nat.eq_zero_or_pos z.size with e | e
    · rw [e] at hi; simp at hi
    · exact e
  rw [repL_get zs n i (by rw [hl]; exact hi), hl] at ha
  obtain ⟨v, h1, h2⟩ := h.get _ a ha
  have hm : i % z.size < z.size := Nat.mod_lt _ hz
  have : b = v := by
    have e1 : (madeCells z (n * z.size)).toList[i]? = some (z[i % z.size]!) := by
      simp [madeCells, hi]
    rw [e1] at hb
    cases hb
    have h1' : z[i % z.size]? = some v := by simpa using h1
    simp [getElem!_def, h1']
  rw [this]; exact h2

theorem zeros_rel {i : TI} {n : Nat} {b : Body} (h : zeros i n = some b) (hs : i.zero.length = i.size) : b.size = n * i.size ∧ (∀ j q, j < b.size → b.get j = some q → (repL i.zero n)[j]? = some q) := by
  unfold zeros at h
  split at h
  · cases h
  · rename_i hz
    have hall : ∀ (q : RowK) (l : List At), allZ q l = true → ∀ a ∈ l, isZ q a = true := by
      intro q l
      induction l with
      | nil => intro _ a ha; cases ha
      | cons b r ih =>
        intro h a ha
        simp only [allZ] at h
        split at h
        · rename_i hb
          rcases List.mem_cons.1 ha with rfl | ha
          · exact hb
          · exact ih h a ha
        · cases h
    have hget : ∀ j, j < n * i.size → ∃ a, (repL i.zero n)[j]? = some a ∧ isZ i.row a = true := by
      intro j hj
      rw [repL_get _ _ _ (by rw [hs]; exact hj)]
      have hz0 : 0 < i.zero.length := by
        rcases Nat.eq_zero_or_pos i.zero.length with e | e
        · rw [← hs, e] at hj; simp at hj
        · exact e
      have hm := Nat.mod_lt j hz0
      exact ⟨_, List.getElem?_eq_getElem hm, hall _ _ hz _ (List.getElem_mem hm)⟩
    split at h
    · rename_i k hk
      cases h
      refine ⟨by simp [Body.size], fun j q hj hq => ?_⟩
      have hj : j < n * i.size := by simpa [Body.size] using hj
      obtain ⟨a, h1, h2⟩ := hget j hj
      rw [h1]
      rw [hk] at h2
      cases a <;> simp only [isZ] at h2 <;> try cases h2
      simp only [Bool.and_eq_true, decide_eq_true_eq] at h2
      obtain ⟨rfl, h3⟩ := h2
      have := beq_eq h3
      subst this
      cases hq
      simp [List.getD_eq_getElem?_getD, hj]
    · rename_i k hk
      cases h
      refine ⟨by simp [Body.size], fun j q hj hq => ?_⟩
      have hj : j < n * i.size := by simpa [Body.size] using hj
      obtain ⟨a, h1, h2⟩ := hget j hj
      rw [h1]
      rw [hk] at h2
      cases a <;> simp only [isZ] at h2 <;> try cases h2
      simp only [Bool.and_eq_true, decide_eq_true_eq] at h2
      obtain ⟨rfl, rfl⟩ := h2
      cases hq
      simp [List.getD_eq_getElem?_getD, hj]
    · rename_i hk
      cases h
      refine ⟨by simp [Body.size], fun j q hj hq => ?_⟩
      have hj : j < n * i.size := by simpa [Body.size] using hj
      obtain ⟨a, h1, h2⟩ := hget j hj
      rw [h1]
      rw [hk] at h2
      cases a <;> simp only [isZ] at h2 <;> try cases h2
      rename_i bb
      cases bb
      · cases hq
        simp [List.getD_eq_getElem?_getD, hj]
      · cases h2
    · cases h

theorem infos_at {P : Program} : ∀ {fs : List Field}, infosOk P fs = true → ∀ f ∈ fs, (P.info? f.type).isSome = true
  | f :: r, h, g, hg => by
    simp only [infosOk, Bool.and_eq_true] at h
    rcases List.mem_cons.1 hg with rfl | hg
    · exact h.1
    · exact infos_at h.2 g hg

theorem run_places (fields : Array Field) (h : infosOk P fields.toList = true) : (fields.mapM fun f => do pure (f.offset, ← sizeOf f.type) : Sem (Array (Nat × Nat))).run P w = .ok (fields.map fun f => (f.offset, P.cellsOf f.type)) w := by
  rw [Array.mapM_eq_mapM_toList]
  have key : ∀ l : List Field, infosOk P l = true → (l.mapM fun f => do pure (f.offset, ← sizeOf f.type) : Sem (List (Nat × Nat))).run P w = .ok (l.map fun f => (f.offset, P.cellsOf f.type)) w := by
    intro l
    induction l with
    | nil => intro _; simp
    | cons f r ih =>
      intro hl
      simp only [infosOk, Bool.and_eq_true] at hl
      obtain ⟨i, hi⟩ := Option.isSome_iff_exists.1 hl.1
      have hs : (sizeOf f.type).run P w = .ok (P.cellsOf f.type) w := by simp [sizeOf, typeInfo, hi, Program.cellsOf]
      have ih' := ih hl.2
      simp only [bind_pure_comp] at ih'
      simp [List.mapM_cons, hs, ih']
  simp only [Sem.run_map, key _ h, Result.andThen_ok]
  congr 1
  rw [← Array.toList_inj]; simp

theorem places_rel (hT : chkTab P Γ.ty = true) {tm : List (Nat × AV)} {a : Act} (hv : RTm β H tm a.tmps) {fs : List (Nat × TypeId)} {fields : Array Field} (hf : fieldsOk fields.toList fs = true) :
    ∀ {l : List (Nat × Operand)} {ps : List (Nat × Nat × AV)}, places Γ fs tm l = some ps → Parts β H ((fields.map fun f => (f.offset, P.cellsOf f.type))[·]?) ps (l.map fun (i, x) => (i, a.eval x))
  | [], ps, h => by simp only [places] at h; cases h; exact .nil
  | (i, x) :: r, ps, h => by
    simp only [places] at h
    split at h
    · rename_i fo ft hn
      split at h
      · rename_i fi hfi
        split at h
        · rename_i qs hqs
          cases h
          obtain ⟨f, h1, h2, h3⟩ := fields_at hf hn
          obtain ⟨ti, z, k1, k2, _⟩ := (tab_fact hT hfi).info
          refine .cons ?_ (opnd_rel hv x) (places_rel hT hv hf hqs)
          have h1' : fields[i]? = some f := by simpa using h1
          simp [h1', h2, h3, Program.cellsOf, k1, k2]
        · cases h
      · cases h
    · cases h

theorem elems_rel {tm : List (Nat × AV)} {a : Act} (hv : RTm β H tm a.tmps) (sz : Nat) : ∀ (l : List (Nat × Operand)), Parts β H (fun i => some (i * sz, sz)) (elems sz tm l) (l.map fun (i, x) => (i, a.eval x))
  | [] => .nil
  | (i, x) :: r => .cons rfl (opnd_rel hv x) (elems_rel hv sz r)

theorem mkRow_alive {q : RowK} {cs : List At} {b : Body} (h : mkRow q cs = some b) : isDead b = false := by
  unfold mkRow at h
  split at h
  · split at h <;> cases h; rfl
  · split at h <;> cases h; rfl
  · split at h <;> cases h; rfl
  · cases h; rfl
theorem zeros_alive {i : TI} {n : Nat} {b : Body} (h : zeros i n = some b) : isDead b = false := by
  unfold zeros at h
  split at h
  · cases h
  · split at h <;> cases h <;> rfl
theorem setN_alive : ∀ {cs : List At} {b b' : Body} {off : Nat}, setN b off cs = some b' → isDead b = false → isDead b' = false
  | [], b, b', off, h, hd => by simp only [setN] at h; cases h; exact hd
  | a :: r, b, b', off, h, hd => by
    simp only [setN] at h
    split at h
    · rename_i b1 hb1; exact setN_alive h (set_alive hb1)
    · cases h

theorem evE_sound {R : Type} (hT : chkTab P Γ.ty = true) {tm : List (Nat × AV)} (hI : Inv β0 H0 w0 β H w) {slot : Nat} (hlo : H0.length ≤ slot) (hsl : slot < H.length) (hfree : β slot = none) {a : Act} (hv : RTm β H tm a.tmps) {k : AV → List (Nat × Blk) → List Nat → Option R} {r : R} {o : Oper}
    (h : evE Γ slot o.op tm H k = some r) : GivesE β0 H0 w0 P w β H slot (execOp a.eval o) k r := by
  have tf := fun {T : Nat} {i : TI} (hl : look Γ.ty T = some i) => tab_fact hT hl
  obtain ⟨dst, op, ty, pos, after, guard⟩ := o
  simp only at h
  unfold evE at h
  split at h
  · -- box
    rename_i T x
    split at h
    · rename_i cs hcs
      have hR := cells_rel hcs (opnd_rel hv x)
      exact new_cells hI hlo hsl hfree hR T (by simp [execOp, Instr.box, newVar, newRow]) h
    · cases h
  · -- alloc
    rename_i T
    split at h
    · rename_i i hi
      obtain ⟨ti, z, h1, h2, h3, h4, h5, h6⟩ := (tf hi).info
      exact new_cells hI hlo hsl hfree (zOks_rel h5) T (by simp [execOp, Instr.alloc, zeroValue, typeInfo, h1, h4, newVar, newRow]) h
    · cases h
  · -- build
    rename_i T parts
    split at h
    · rename_i i hi
      split at h
      · rename_i fs hd
        split at h
        · rename_i ps hps
          split at h
          · rename_i cs hcs
            obtain ⟨ti, z, h1, h2, h3, h4, h5, h6⟩ := (tf hi).info
            obtain ⟨d, u1, u2, _, u3⟩ := (tf hi).und
            rw [hd] at u2
            cases d <;> simp [descOk] at u2
            rename_i fields _
            have hpl := places_rel hT hv u2 hps
            obtain ⟨cells', f1, f2⟩ := fill_rel hpl (zOks_rel (β := β) (H := H) h5) hcs
            have hrun : (Instr.build T (parts.map fun (i, x) => (i, a.eval x))).run P w = .ok (.agg cells') w := by
              simp only [Instr.build, zeroValue, typeInfo, Sem.run_bind, run_program, Result.andThen_ok, h1, h4, Sem.run_pure, run_und u1, run_places fields u3]
              have e : (parts.map fun (x : Nat × Operand) => (x.1, a.eval x.2)).toList = parts.toList.map fun (x : Nat × Operand) => (x.1, a.eval x.2) := by simp
              simp only [e]
              have f1' : Instr.fill (fun x => (fields.map fun f => (f.offset, P.cellsOf f.type))[x]?) z.cells (parts.toList.map fun (x : Nat × Operand) => (x.1, a.eval x.2)) = some cells' := f1
              simp only [f1']
              simp
            refine ⟨.v (.agg cs), .agg cells', w, [], [], β, .inl ?_, hI, fun t x hx ht => ⟨hx, ht, Nat.le_refl _⟩, ⟨cells', rfl, f2⟩, fun _ _ hn => hn, h⟩
            simp only [execOp, Sem.run_bind]
            have hrun' := hrun
            simp only at hrun'
            rw [hrun']; simp
          · cases h
        · cases h
      · cases h
    · cases h
  · -- buildSlice
    rename_i T len parts
    split at h
    · rename_i i hi
      split at h
      · rename_i e hd
        split at h
        · rename_i ei hei
          split at h
          · rename_i hle
            split at h
            · rename_i cs hcs
              split at h
              · rename_i b hb
                have hle := ble_le hle
                obtain ⟨ti, z, h1, h2, h3, h4, h5, h6⟩ := (tf hei).info
                have hu := run_und (w := w) (slice_at (tf hi) hd)
                have hz := made_rel (zOks_rel (β := β) (H := H) h5) len
                rw [h6] at hz
                obtain ⟨cells', f1, f2⟩ := fill_rel (elems_rel hv ei.size parts.toList) hz hcs
                obtain ⟨m1, m2⟩ := mkRow_facts hb
                have hlen : cs.length = cells'.size := by rw [f2.length]; simp
                have hrun : (Instr.buildSlice T len (parts.map fun (i, x) => (i, a.eval x))).run P w = .ok (.slice (some ⟨w.heap.size, 0, none⟩) len len) (w.alloc (.cells cells' e)) := by
                  have e1 : (parts.map fun (x : Nat × Operand) => (x.1, a.eval x.2)).toList = parts.toList.map fun (x : Nat × Operand) => (x.1, a.eval x.2) := by simp
                  have hsz := run_sizeOf' (w := w) (tf hei)
                  have f1' : Instr.fill (fun i => some (i * ei.size, ei.size)) (madeCells z.cells (len * ei.size)) (parts.toList.map fun (x : Nat × Operand) => (x.1, a.eval x.2)) = some cells' := f1
                  have hn : ¬ (16777216 < len * ei.size) := by omega
                  by_cases h0 : len * ei.size = 0
                  · have hm0 : madeCells z.cells 0 = #[] := by simp [madeCells]
                    rw [h0, hm0] at f1'
                    simp [Instr.buildSlice, hu, hsz, h0, f1', newRow, Array.range_zero']
                  · have f1'' : Instr.fill (fun i => some (i * ei.size, ei.size)) ((Array.range (len * ei.size)).map (z.cells[· % z.cells.size]!)) (parts.toList.map fun (x : Nat × Operand) => (x.1, a.eval x.2)) = some cells' := f1'
                    simp [Instr.buildSlice, hu, hsz, h0, hn, zeroValue, typeInfo, h1, h4, f1'', newRow]
                obtain ⟨hI', hm'⟩ := hI.put hlo hsl hfree cells' e b (by rw [m1, hlen]; exact Nat.le_refl _) (mkRow_alive hb) (fun j q hj hq => by
                  obtain ⟨v, g1, g2⟩ := f2.get j q (m2 j q hj hq)
                  exact ⟨v, by simpa using g1, g2⟩)
                refine ⟨A1 (.sl slot 0 len ei.size), .slice (some ⟨w.heap.size, 0, none⟩) len len, w.alloc (.cells cells' e), _, _, _, .inl (by simp only [execOp, Sem.run_bind]; have hr := hrun; simp only at hr; rw [hr]; simp only [Result.andThen_ok, Sem.run_pure]), hI', hm', ?_, fun u hu hn => by rw [upd_ne _ _ (fun e => hu ⟨by omega, by unfold room; omega⟩)]; exact hn, h⟩
                · have hb2 : b.size = len * ei.size := by
                    rw [m1]
                    have hzl : ei.zero.length = ei.size := by rw [(zOks_rel (β := β) (H := H) h5).length]; simpa using h6
                    have keep : ∀ (ps : List (Nat × Nat × AV)) (c0 c1 : List At), fillA c0 ps = some c1 → c1.length = c0.length := by
                      intro ps
                      induction ps with
                      | nil => intro c0 c1 h; simp only [fillA] at h; cases h; rfl
                      | cons p r ih =>
                        intro c0 c1 h
                        obtain ⟨o1, s1, v1⟩ := p
                        simp only [fillA] at h
                        split at h
                        · split at h
                          · split at h
                            · rw [setN_cells] at h
                              simp only at h
                              rw [ih _ _ h, setSeq_length]
                            · cases h
                          · cases h
                        · cases h
                    rw [keep _ _ _ hcs, repL_length, hzl]
                  refine .inl ⟨w.heap.size, 0, cells'.size, len, upd_same _ _ _, by rw [edit_length]; exact hsl, by simp only [edit]; rw [szH_set _ _ _ _ hsl, if_pos rfl]; simp only; omega, Nat.le_refl _, ?_, rfl⟩
                  rw [← hlen, ← m1, hb2]; omega
              · cases h
            · cases h
          · cases h
        · cases h
      · cases h
    · cases h
  · -- store
    rename_i T p x
    split at h
    · rename_i t off ext hp
      split at h
      · rename_i i b cs hi hb hcs
        split at h
        · rename_i hl
          split at h
          · rename_i hle
            split at h
            · rename_i hown
              split at h
              · rename_i b' hset
                have hl := beq_eq hl
                have hle := ble_le hle
                have e := opnd_rel hv p
                rw [hp] at e
                obtain ⟨B, o, C, e1, e2, e3, he⟩ := e
                rw [szH_of hb] at e3
                have hbr := hI.wr.bl hb e1
                have ho0 := (hbr.own hown).1
                subst ho0
                have hR := cells_rel hcs (opnd_rel hv x)
                obtain ⟨w', k1, k2, k3⟩ := store_cells (P := P) cs _ hI hb hown e1 (off := off) (i := 0) (by omega) hR hset
                have hsz := run_sizeOf' (w := w) (tf hi)
                have hvs : (a.eval x).cells.size = i.size := by rw [← hl, hR.length]; simp
                refine ⟨.tup [], undef, w', [(t, ⟨true, b'⟩)], [t], β, .inr ⟨?_, rfl⟩, k2, mv_set hb (by simp only; omega), ⟨#[], rfl, .nil⟩, fun _ _ hn => hn, h⟩
                simp only [execOp, he, Instr.storeAt, Instr.sureAddr, storeVar, Sem.run_bind, Sem.run_pure, Result.andThen_ok, hsz, hvs, Nat.zero_add] at k1 ⊢
                rw [if_neg (by simp)]
                simp only [k1, Result.andThen_ok, Sem.run_pure]
              · cases h
            · cases h
          · cases h
        · cases h
      · cases h
    · cases h
  · -- makeSlice
    rename_i T l c
    split at h
    · rename_i i hi
      split at h
      · rename_i e hd
        split at h
        · rename_i ei hei
          split at h
          · rename_i n m hn hm
            have hchk := chk_nat h
            clear h
            obtain ⟨⟨rfl, c0, c1, c2⟩, h⟩ := hchk
            split at h
            · rename_i b hb
              have el : a.eval l = .int .i64 n := by have := opnd_rel hv l; rw [hn] at this; exact this
              have ec : a.eval c = .int .i64 n := by have := opnd_rel hv c; rw [hm] at this; exact this
              obtain ⟨ti, z, h1, h2, h3, h4, h5, h6⟩ := (tf hei).info
              obtain ⟨n, rfl⟩ := Int.eq_ofNat_of_zero_le c0
              have hby : (ti.bytes : Int) * (n : Int) ≤ 281474976710656 := by
                have : ti.bytes * n ≤ 64 * 1099511627776 := Nat.mul_le_mul (by rw [h3]; exact c2) (by omega)
                rw [← Int.natCast_mul]; omega
              have hr := run_make (P := P) w T e ti z (slice_at (tf hi) hd) h1 h4 .i64 .i64 n n c0 (Int.le_refl _) hby (by omega)
              have hzr := zOks_rel (β := β) (H := H) h5
              have hzl : ei.zero.length = ei.size := by rw [hzr.length]; simpa using h6
              obtain ⟨z1, z2⟩ := zeros_rel hb hzl
              have hmr := made_rel hzr n
              have hms : z.cells.size = ti.size := by rw [h6, h2]
              rw [hms] at hmr
              simp only [Int.toNat_natCast] at hr z1 z2 h
              obtain ⟨hI', hm'⟩ := hI.put hlo hsl hfree (madeCells z.cells (n * ti.size)) e b (by rw [z1]; simp [madeCells, h2]) (zeros_alive hb) (fun j q hj hq => by
                obtain ⟨v, g1, g2⟩ := hmr.get j q (z2 j q hj hq)
                exact ⟨v, by simpa using g1, g2⟩)
              refine ⟨A1 (.sl slot 0 n ei.size), .slice (some ⟨w.heap.size, 0, none⟩) n n, w.alloc (.cells (madeCells z.cells (n * ti.size)) e), _, _, _, .inl (by simp only [execOp, el, ec, Sem.run_bind, hr, Result.andThen_ok, Sem.run_pure]), hI', hm', ?_, fun u hu hn => by rw [upd_ne _ _ (fun e => hu ⟨by omega, by unfold room; omega⟩)]; exact hn, h⟩
              · refine .inl ⟨w.heap.size, 0, _, n, upd_same _ _ _, by rw [edit_length]; exact hsl, by simp only [edit]; rw [szH_set _ _ _ _ hsl, if_pos rfl]; simp only; omega, Nat.le_refl _, ?_, rfl⟩
                simp [madeCells, h2]
            · cases h
          · cases h
        · cases h
      · cases h
    · cases h
  · -- append
    rename_i c
    split at h
    · rename_i hc
      split at h
      · rename_i T T' s x hTs hops
        split at h
        · rename_i i i' hi hi'
          split at h
          · rename_i e hd hTT
            have hTT := beq_eq hTT
            subst hTT
            split at h
            · rename_i ei m src hei hrd
              obtain ⟨sv, xv, hargs, hs, hx⟩ := args_two hv hops
              have hat : c.argTypes = #[T, T] := by rw [← Array.toList_inj, hTs]
              have hrun : (execOp a.eval ⟨dst, .call c, ty, pos, after, guard⟩) = (do pure (.value (← Builtin.append_ #[T, T] ty #[sv, xv]))) := by
                simp only [execOp, resolve, hc, hargs, hat]
                rfl
              rw [hrun]
              have hu := slice_at (tf hi) hd
              split at h
              · obtain ⟨⟨d1, d2, d3, d4⟩, h⟩ := chk_nat h
                exact append_nil hI hlo hsl hfree hu (tf hei) hs hx hrd d4 d1 d2 d3 h
              · rename_i t off len sz
                split at h
                · rename_i b hb
                  split at h
                  · rename_i ho hoff hsz
                    have hoff := beq_eq hoff
                    have hsz := beq_eq hsz
                    subst hoff
                    split at h
                    · rename_i b' happ
                      obtain ⟨⟨d1, d2, d3, d4⟩, h⟩ := chk_nat h
                      exact append_own hI hlo hsl hfree hu (tf hei) hs hb ho hsz hx hrd happ d1 d2 d3 d4 h
                    · cases h
                  · cases h
                · cases h
              · cases h
            · cases h
          · cases h
        · cases h
      · cases h
    · cases h
  · cases h
end
end Go.Rf
