/-
  The evaluator answers what the model's runs come to: addresses, slices, parts; all that only looks.
-/
import Derived.Test.YtohhkgieggfpeaaQ
set_option linter.unusedVariables false
namespace Go.Rf
open Go

section
variable {β : Bm} {H : List Blk} {w : World} {P : Program} {Γ : Ctx}

theorem fields_at : ∀ {fs : List Field} {gs : List (Nat × TypeId)}, fieldsOk fs gs = true → ∀ {n fo ft : Nat}, nth gs n = some (fo, ft) → ∃ f, fs[n]? = some f ∧ f.offset = fo ∧ f.type = ft
  | _, [], _, n, fo, ft, h => by cases n <;> cases h
  | [], _ :: _, hc, n, fo, ft, h => by cases hc
  | f :: r, (o, t) :: s, hc, n, fo, ft, h => by
    simp only [fieldsOk, Bool.and_eq_true] at hc
    cases n with
    | zero =>
      simp only [nth] at h
      cases h
      exact ⟨f, rfl, beq_eq hc.1.1, beq_eq hc.1.2⟩
    | succ n =>
      obtain ⟨g, h1, h2⟩ := fields_at (n := n) hc.2 h
      exact ⟨g, by simpa using h1, h2⟩

theorem struct_at {T : Nat} {i : TI} (hT : TFact P T i) {fs : List (Nat × TypeId)} (hd : i.desc = .struct fs) {n fo ft : Nat} (h : nth fs n = some (fo, ft)) :
    ∃ fields f, P.underlying T = some (.struct fields) ∧ fields[n]? = some f ∧ f.offset = fo ∧ f.type = ft := by
  obtain ⟨d, h1, h2, _⟩ := hT.und
  rw [hd] at h2
  cases d <;> simp [descOk] at h2
  rename_i fields _
  obtain ⟨f, h3, h4, h5⟩ := fields_at h2 h
  exact ⟨fields, f, h1, by simpa using h3, h4, h5⟩

theorem slice_at {T : Nat} {i : TI} (hT : TFact P T i) {e : TypeId} (hd : i.desc = .sl e) : P.underlying T = some (.slice e) := by
  obtain ⟨d, h1, h2, _⟩ := hT.und
  rw [hd] at h2
  cases d <;> simp [descOk] at h2
  subst h2
  exact h1

theorem run_fieldAt {T : Nat} {i fi : TI} (hT : TFact P T i) {fs : List (Nat × TypeId)} (hd : i.desc = .struct fs) {n fo ft : Nat} (h : nth fs n = some (fo, ft)) (hF : TFact P ft fi) (hs : 1 ≤ fi.size) (B off : Nat) :
    (Instr.fieldAt T (.pointer (some ⟨B, off, none⟩)) n).run P w = .ok (.pointer (some ⟨B, off + fo, none⟩)) w := by
  obtain ⟨fields, f, h1, h2, h3, h4⟩ := struct_at hT hd h
  subst h3; subst h4
  have hu := run_und (w := w) h1
  have hz := run_sizeOf' (w := w) hF
  have hne : fi.size ≠ 0 := by omega
  simp [Instr.fieldAt, hu, h2, Instr.sureAddr, fieldPlace, hz, hne, add_none]

theorem run_field {T : Nat} {i fi : TI} (hT : TFact P T i) {fs : List (Nat × TypeId)} (hd : i.desc = .struct fs) {n fo ft : Nat} (h : nth fs n = some (fo, ft)) (hF : TFact P ft fi) {arr : Array Value} {cs : List At} (hR : All2 (RAt β H) cs arr.toList)
    {x : TV} (hx : match fi.agg with | true => ∃ ds, getN (.cells cs) fo fi.size = some ds ∧ x = .agg ds | false => ∃ a, nth cs fo = some a ∧ x = .one a) :
    ∃ u, (Instr.field T (.agg arr) n).run P w = .ok u w ∧ RT β H x u := by
  obtain ⟨fields, f, h1, h2, h3, h4⟩ := struct_at hT hd h
  subst h3; subst h4
  have hu := run_und (w := w) h1
  have ha := run_isAgg (w := w) hF
  have hz := run_sizeOf' (w := w) hF
  cases hag : fi.agg with
  | true =>
    rw [hag] at hx ha
    obtain ⟨ds, hds, rfl⟩ := hx
    refine ⟨.agg (arr.extract f.offset (f.offset + fi.size)), by simp [Instr.field, hu, h2, part, ha, hz, asAgg], _, rfl, ?_⟩
    have key : ∀ (n off : Nat) (ds : List At), getN (.cells cs) off n = some ds → All2 (RAt β H) ds ((arr.toList.drop off).take n) := by
      intro n
      induction n with
      | zero => intro off ds h; simp only [getN] at h; cases h; simpa using All2.nil
      | succ n ih =>
        intro off ds h
        simp only [getN, Body.get] at h
        split at h
        · rename_i a hga
          split at h
          · rename_i r hr
            cases h
            rw [nth_eq] at hga
            obtain ⟨v, hv, hRv⟩ := hR.get off a hga
            have h2 := ih (off + 1) r hr
            have : arr.toList.drop off = v :: arr.toList.drop (off + 1) := by
              rw [List.drop_eq_getElem?_toList_append, hv]; rfl
            rw [this, List.take_succ_cons]
            exact .cons hRv h2
          · cases h
        · cases h
    have := key _ _ _ hds
    simpa [Array.toList_extract, List.extract_eq_take_drop] using this
  | false =>
    rw [hag] at hx ha
    obtain ⟨a, hga, rfl⟩ := hx
    rw [nth_eq] at hga
    obtain ⟨v, hv, hRv⟩ := hR.get _ a hga
    have hv' : arr[f.offset]? = some v := by simpa using hv
    exact ⟨v, by simp [Instr.field, hu, h2, part, ha, asAgg, hv'], hRv⟩

theorem run_indexAt {T : Nat} {i ei : TI} (hT : TFact P T i) {e : TypeId} (hd : i.desc = .sl e) (hE : TFact P e ei) {B off len cap : Nat} {q : IntKind} {n : Int} (h0 : 0 ≤ n) (h1 : n < (len : Int)) :
    (Instr.indexAt T (.slice (some ⟨B, off, none⟩) len cap) (.int q n)).run P w = .ok (.pointer (some ⟨B, off + n.toNat * ei.size, none⟩)) w := by
  have hu := run_und (w := w) (slice_at hT hd)
  have hz := run_sizeOf' (w := w) hE
  simp [Instr.indexAt, asIntOf, hu, hz, h0, h1, add_none]

theorem run_sliceAt_any {T : Nat} {i ei : TI} (hT : TFact P T i) {e : TypeId} (hd : i.desc = .sl e) (hE : TFact P e ei) {a : Option Addr} {len cap : Nat} {l h : Nat} (lo hi : Option Value) (hlc : len ≤ cap)
    (hl : match lo with | none => l = 0 | some v => ∃ q, v = .int q l) (hh : match hi with | none => h = len | some v => ∃ q, v = .int q h) (h1 : l ≤ h) (h2 : h ≤ len) :
    (Instr.sliceAt T (.slice a len cap) lo hi none).run P w = .ok (.slice (if cap = l then a else a.map (·.add (l * ei.size))) (h - l) (cap - l)) w := by
  have hu := run_und (w := w) (slice_at hT hd)
  have hz := run_sizeOf' (w := w) hE
  have hb : (Instr.sliceBounds true len cap lo hi none).run P w = .ok (l, h, cap) w := by
    cases lo with
    | none =>
      simp only at hl
      subst hl
      cases hi with
      | none => simp only at hh; subst hh; simp [Instr.sliceBounds]
      | some v =>
        obtain ⟨q, rfl⟩ := hh
        have e1 : (0 : Int) ≤ (h : Int) ∧ (h : Int) ≤ (cap : Int) := by omega
        simp [Instr.sliceBounds, Instr.sliceBound, asIntOf, show h ≤ cap by omega]
    | some u =>
      obtain ⟨q', rfl⟩ := hl
      cases hi with
      | none => simp only at hh; subst hh; simp [Instr.sliceBounds, Instr.sliceBound, asIntOf, h1]
      | some v =>
        obtain ⟨q, rfl⟩ := hh
        simp [Instr.sliceBounds, Instr.sliceBound, asIntOf, show h ≤ cap by omega, h1]
  simp [Instr.sliceAt, hu, Instr.slice, hb, hz]

theorem run_sliceAt_zero {T : Nat} {i ei : TI} (hT : TFact P T i) {e : TypeId} (hd : i.desc = .sl e) (hE : TFact P e ei) {a : Option Addr} {len cap : Nat} (q q' : IntKind) :
    (Instr.sliceAt T (.slice a len cap) none (some (.int q 0)) (some (.int q' 0))).run P w = .ok (.slice a 0 0) w := by
  have hu := run_und (w := w) (slice_at hT hd)
  have hz := run_sizeOf' (w := w) hE
  simp [Instr.sliceAt, hu, Instr.slice, Instr.sliceBounds, Instr.sliceBound, asIntOf, hz]

/-- An operation that only looks. -/
def GivesO {R : Type} (β : Bm) (H : List Blk) (P : Program) (w : World) (m : Sem Next) (k : AV → Option R) (r : R) : Prop :=
  ∃ v u w', m.run P w = .ok (.value u) w' ∧ Same w w' ∧ RV β H v u ∧ k v = some r
theorem Gives.o {R : Type} {m : Sem Value} {k : AV → Option R} {r : R} (h : Gives β H P w m k r) : GivesO β H P w (do pure (.value (← m))) k r := by
  obtain ⟨v, u, w', h1, h2, h3, h4⟩ := h
  exact ⟨v, u, w', by simp [h1], h2, h3, h4⟩

theorem A1_int {n : Int} {j : IntKind} {v : Value} (h : RV β H (.v (.one (.int j n))) v) : v = .int j n := h

theorem slice_sound {R : Type} {T : Nat} {i ei : TI} (hT : TFact P T i) {e : TypeId} (hd : i.desc = .sl e) (hE : TFact P e ei) {tm : List (Nat × AV)} {a : Act} (hv : RTm β H tm a.tmps)
    (t off len sz : Nat) (mk : Nat → Nat → Nat → Nat → At) {x : Value} (lo hi : Option Operand) {k : AV → Option R} {r : R} (hsz : sz = ei.size)
    (hx : ∃ b cap, x = .slice b len cap ∧ len ≤ cap ∧ ∀ l h, l ≤ h → h ≤ len → R0 β H (mk t (off + l * sz) (h - l) sz) (.slice (if cap = l then b else b.map (·.add (l * sz))) (h - l) (cap - l)))
    (hmk : ∀ a b c d f g, mk a b c d ≠ .fn f g)
    (h : (match lo with
          | none => fun (k : Int → Option R) => k 0
          | some x => fun k => match opnd tm x with | .v (.one (.int _ n)) => k n | _ => none) (fun l =>
        (match hi with
          | none => fun (k : Int → Option R) => k (len : Int)
          | some x => fun k => match opnd tm x with | .v (.one (.int _ n)) => k n | _ => none) (fun h => grd (okSl l h len) (k (A1 (mk t (off + l.toNat * sz) (h.toNat - l.toNat) sz))))) = some r) :
    Gives β H P w (Instr.sliceAt T x (lo.map a.eval) (hi.map a.eval) none) k r := by
  subst hsz
  obtain ⟨b, cap, rfl, hlc, hrel⟩ := hx
  have fin : ∀ (l h : Int), (match lo.map a.eval with | none => l = 0 | some v => ∃ q, v = .int q l) → (match hi.map a.eval with | none => h = len | some v => ∃ q, v = .int q h) →
      grd (okSl l h len) (k (A1 (mk t (off + l.toNat * ei.size) (h.toNat - l.toNat) ei.size))) = some r →
      Gives β H P w (Instr.sliceAt T (.slice b len cap) (lo.map a.eval) (hi.map a.eval) none) k r := by
    intro l h hl hh hk
    obtain ⟨⟨h0, h1, h2⟩, hk⟩ := chk_nat hk
    obtain ⟨l, rfl⟩ := Int.eq_ofNat_of_zero_le h0
    obtain ⟨h, rfl⟩ := Int.eq_ofNat_of_zero_le (Int.le_trans h0 h1)
    have hr := run_sliceAt_any (w := w) hT hd hE (a := b) (len := len) (cap := cap) (l := l) (h := h) (lo.map a.eval) (hi.map a.eval) hlc
      (by cases hlo : lo.map a.eval <;> rw [hlo] at hl <;> simpa using hl) (by cases hhi : hi.map a.eval <;> rw [hhi] at hh <;> first | exact hh | (simp only at hh ⊢; omega)) (by omega) (by omega)
    refine .here hr (v := A1 (mk t (off + l * ei.size) (h - l) ei.size)) ?_ hk
    exact (RAt_iff β H _ _).2 (.inr (hrel l h (by omega) (by omega)))
  cases lo with
  | none =>
    cases hi with
    | none => exact fin 0 len rfl rfl h
    | some y =>
      simp only at h
      split at h
      · rename_i q n hy
        have e := opnd_rel hv y
        rw [hy] at e
        exact fin 0 n rfl ⟨q, e⟩ h
      · cases h
  | some z =>
    simp only at h
    split at h
    · rename_i q m hz
      have e := opnd_rel hv z
      rw [hz] at e
      cases hi with
      | none => exact fin m len ⟨q, e⟩ rfl h
      | some y =>
        simp only at h
        split at h
        · rename_i q' n hy
          have e' := opnd_rel hv y
          rw [hy] at e'
          exact fin m n ⟨q, e⟩ ⟨q', e'⟩ h
        · cases h
    · cases h

theorem sl_cut {t off len sz : Nat} {x : Value} (h : R0 β H (.sl t off len sz) x) :
    ∃ b cap, x = .slice b len cap ∧ len ≤ cap ∧ ∀ l h, l ≤ h → h ≤ len → R0 β H (.sl t (off + l * sz) (h - l) sz) (.slice (if cap = l then b else b.map (·.add (l * sz))) (h - l) (cap - l)) := by
  rcases h with ⟨B, o, C, cap, h1, h2, h3, h4, h5, rfl⟩ | ⟨rfl, a, rfl⟩
  · refine ⟨_, cap, rfl, h4, fun l h hl hh => ?_⟩
    by_cases e : cap = l
    · subst e
      have : h = cap := by omega
      subst this
      right
      exact ⟨by omega, _, by rw [Nat.sub_self]⟩
    · left
      rw [if_neg e]
      have e1 : l * sz + (h - l) * sz = h * sz := by rw [← Nat.add_mul]; congr 1; omega
      have e2 : h * sz ≤ len * sz := Nat.mul_le_mul_right _ hh
      have e3 : l * sz + (cap - l) * sz = cap * sz := by rw [← Nat.add_mul]; congr 1; omega
      exact ⟨B, o, C, cap - l, h1, h2, by omega, by omega, by omega, by simp [add_none, Nat.add_assoc]⟩
  · refine ⟨a, 0, rfl, Nat.le_refl _, fun l h hl hh => .inr ⟨by omega, ?_⟩⟩
    have : l = 0 := by omega
    subst this
    have : h = 0 := by omega
    subst this
    exact ⟨a, by simp⟩

theorem vw_cut {t off len sz : Nat} {x : Value} (h : R0 β H (.vw t off len sz) x) :
    ∃ b cap, x = .slice b len cap ∧ len ≤ cap ∧ ∀ l h, l ≤ h → h ≤ len → R0 β H (.vw t (off + l * sz) (h - l) sz) (.slice (if cap = l then b else b.map (·.add (l * sz))) (h - l) (cap - l)) := by
  obtain ⟨b, cap, rfl, h1, h2⟩ := h
  refine ⟨b, cap, rfl, h1, fun l h hl hh => ⟨_, _, rfl, by omega, fun hp => ?_⟩⟩
  obtain ⟨B, o, C, h3, h4, h5, rfl⟩ := h2 (by omega)
  rw [if_neg (by omega)]
  have e1 : l * sz + (h - l) * sz = h * sz := by rw [← Nat.add_mul]; congr 1; omega
  have e2 : h * sz ≤ len * sz := Nat.mul_le_mul_right _ hh
  exact ⟨B, o, C, h3, h4, by omega, by simp [add_none, Nat.add_assoc]⟩

theorem sl_shape {a : At} {x : Value} (h : (∃ t off len sz, a = .sl t off len sz) ∨ (∃ t off len sz, a = .vw t off len sz) ∨ a = .nilsl) (hR : RAt β H a x) : ∃ b n c, x = .slice b n c := by
  rcases h with ⟨t, off, len, sz, rfl⟩ | ⟨t, off, len, sz, rfl⟩ | rfl
  · rcases hR with ⟨B, o, C, cap, _, _, _, _, _, rfl⟩ | ⟨_, a, rfl⟩ <;> exact ⟨_, _, _, rfl⟩
  · obtain ⟨a, cap, rfl, _⟩ := hR; exact ⟨_, _, _, rfl⟩
  · obtain ⟨a, rfl⟩ := hR; exact ⟨_, _, _, rfl⟩
end
end Go.Rf
