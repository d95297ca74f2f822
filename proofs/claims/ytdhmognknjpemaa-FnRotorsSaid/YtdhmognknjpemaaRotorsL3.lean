/-
  Plain laws.
-/
import Derived.Test.YtdhmognknjpemaaRotorsL2
set_option linter.unusedVariables false
set_option linter.unusedSimpArgs false
set_option maxRecDepth 100000
set_option maxHeartbeats 4000000
namespace Go.Rf
open Go
theorem yfh (u v : Fin 33) : fcmp .leq .f32 (x32 ((u : Int) - 16)) (x32 ((v : Int) - 16)) = decide (u ≤ v) := by revert u v; decide +kernel
theorem yeb (v : Fin 33) : finB (l8 ((v : Int) - 16)) = true ∧ rg FloatKind.f32.format (l8 ((v : Int) - 16)) ≤ 1082130432 := by revert v; decide +kernel
theorem yer (u v : Fin 33) : v.val ≤ u.val + 20 → gapB (fop .sub .f32 (x32 ((v : Int) - 16)) 1065353216) (x32 ((u : Int) - 16)) = true ∧ gapB (x32 ((v : Int) - 16)) (fop .add .f32 (x32 ((u : Int) - 16)) 1065353216) = true := by revert u v; decide +kernel
theorem yez (u : Fin 33) (k : Fin 5) : 1 ≤ k.val → u.val + k.val ≤ 32 → gapB (x32 ((u : Int) - 16)) (x32 ((u : Int) - 16 + k)) = true := by revert u k; decide +kernel
theorem zkw : ∀ {us : List Int} {u : Int}, climb u us → ∀ j, j < us.length → u + j ≤ us.getD j 0 ∧ us.getD j 0 ≤ u + 4 * j
  | [], u, _, j, hj => by simp at hj
  | v :: r, u, h, 0, _ => by
    obtain ⟨rfl, _⟩ := h
    simp
  | v :: r, u, h, j + 1, hj => by
    obtain ⟨rfl, k, h1, h2, h3⟩ := h
    have := zkw h3 j (by simpa using hj)
    simp only [List.getD_cons_succ]
    omega
theorem zzz : ∀ {us : List Int} {u : Int}, climb u us → ∀ j, j + 1 < us.length → ∃ k, 1 ≤ k ∧ k ≤ 4 ∧ us.getD (j + 1) 0 = us.getD j 0 + k
  | [], u, _, j, hj => by simp at hj
  | v :: r, u, h, 0, hj => by
    obtain ⟨rfl, k, h1, h2, h3⟩ := h
    refine ⟨k, h1, h2, ?_⟩
    cases r with
    | nil => simp at hj
    | cons w r => obtain ⟨rfl, _⟩ := h3; simp
  | v :: r, u, h, j + 1, hj => by
    obtain ⟨rfl, k, h1, h2, h3⟩ := h
    have := zzz h3 j (by simpa using hj)
    simpa using this
theorem zil (f : Int → Nat) (us : List Int) {j : Nat} (h : j < us.length) : (us.map f).getD j 0 = f (us.getD j 0) := by
  simp [List.getD_eq_getElem?_getD, h]
theorem gleq {a b : Int} (h1 : -16 ≤ a) (h2 : a ≤ 16) (h3 : -16 ≤ b) (h4 : b ≤ 16) : fcmp .leq .f32 (x32 a) (x32 b) = decide (a ≤ b) := by
  have := yfh ⟨(a + 16).toNat, by omega⟩ ⟨(b + 16).toNat, by omega⟩
  simp only [Fin.mk_le_mk] at this
  rw [show (((a + 16).toNat : Int)) - 16 = a by omega, show (((b + 16).toNat : Int)) - 16 = b by omega] at this
  rw [this]
  by_cases h : a ≤ b
  · rw [decide_eq_true h, decide_eq_true (by omega)]
  · rw [decide_eq_false h, decide_eq_false (by omega)]
theorem gfrom {a : Int} (h1 : -16 ≤ a) (h2 : a ≤ 16) : fromToB (x32 a) 3204448256 1056964608 = true := by
  have := (ygt ⟨(a + 16).toNat, by omega⟩).2
  simp only at this
  rw [show (((a + 16).toNat : Int)) - 16 = a by omega] at this
  exact this
theorem glift {a : Int} (h1 : -16 ≤ a) (h2 : a ≤ 16) : finB (l8 a) = true ∧ rg FloatKind.f32.format (l8 a) ≤ 1082130432 := by
  have := yeb ⟨(a + 16).toNat, by omega⟩
  simp only at this
  rw [show (((a + 16).toNat : Int)) - 16 = a by omega] at this
  exact this
theorem gdrag {a : Int} (h1 : 0 ≤ a) (h2 : a ≤ 16) : leastB (x32 a) = true ∧ rg FloatKind.f32.format (x32 a) ≤ 1082130432 := by
  have := ydm ⟨a.toNat, by omega⟩
  simp only at this
  rw [show ((a.toNat : Int)) = a by omega] at this
  exact ⟨this.1, by omega⟩
theorem y9w {xs : List Int} {j : Nat} (h : j < xs.length) : xs.getD j 0 ∈ xs := by
  simp [List.getD_eq_getElem?_getD, h]
theorem yb5 {as ls ds : List Nat} (h : DrawnP as ls ds) : validProfB as ls ds = true := by
  rcases h with ⟨m, h1, h2, rfl, rfl, rfl⟩ | ⟨u, us, vs, ws, hu1, hu2, hc, hn1, hn2, hv, hw, hvs, hws, rfl, rfl, rfl⟩
  · have := y9o ⟨m - 2, by omega⟩
    simp only at this
    rw [show m - 2 + 2 = m by omega] at this
    exact this
  · unfold validProfB
    simp only [List.length_map, Bool.and_eq_true, decide_eq_true_eq]
    refine ⟨hn1, by omega, hv, hw, zci.2 fun j hj => ?_⟩
    have hg := zkw hc j hj
    unfold profB knotB
    rw [zil x32 us hj, zil l8 vs (by omega), zil x32 ws (by omega), gfrom (by omega) (by omega)]
    have hl := hvs _ (y9w (xs := vs) (j := j) (by omega))
    have hd := hws _ (y9w (xs := ws) (j := j) (by omega))
    rw [(glift (by omega) (by omega)).1, (gdrag hd.1 (by omega)).1]
    by_cases h0 : j = 0
    · subst h0; rfl
    · obtain ⟨i, rfl⟩ : ∃ i, j = i + 1 := ⟨j - 1, by omega⟩
      have hg' := zkw hc i (by omega)
      obtain ⟨k, k1, k2, k3⟩ := zzz hc i hj
      rw [show i + 1 - 1 = i by omega, zil x32 us (by omega), gleq (by omega) (by omega) (by omega) (by omega), decide_eq_false (show ¬ us.getD (i + 1) 0 ≤ us.getD i 0 by omega)]
      simp
theorem yd7 {as ls ds : List Nat} (h : DrawnP as ls ds) : gapsB as = true ∧ smallL ls = true ∧ smallL ds = true := by
  rcases h with ⟨m, h1, h2, rfl, rfl, rfl⟩ | ⟨u, us, vs, ws, hu1, hu2, hc, hn1, hn2, hv, hw, hvs, hws, rfl, rfl, rfl⟩
  · have := yb3 ⟨m - 2, by omega⟩
    simp only at this
    rw [show m - 2 + 2 = m by omega] at this
    simp only [Bool.and_eq_true] at this
    exact ⟨this.1, this.2.1, this.2.2⟩
  · refine ⟨zci.2 fun j hj => ?_, ?_, ?_⟩
    · simp only [List.length_map] at hj
      unfold pairR
      simp only [List.length_map]
      have h0 := zkw hc 0 (by omega)
      have hl := zkw hc (us.length - 1) (by omega)
      have hw' := yer ⟨(us.getD 0 0 + 16).toNat, by omega⟩ ⟨(us.getD (us.length - 1) 0 + 16).toNat, by omega⟩ (by simp only; omega)
      simp only at hw'
      rw [show (((us.getD 0 0 + 16).toNat : Int)) - 16 = us.getD 0 0 by omega, show (((us.getD (us.length - 1) 0 + 16).toNat : Int)) - 16 = us.getD (us.length - 1) 0 by omega] at hw'
      split
      · show gapB (fop .sub .f32 ((us.map x32).getD (us.length - 1) 0) 1065353216) ((us.map x32).getD 0 0) = true
        rw [zil x32 us (by omega), zil x32 us (by omega)]
        exact hw'.1
      · split
        · show gapB ((us.map x32).getD (us.length - 1) 0) (fop .add .f32 ((us.map x32).getD 0 0) 1065353216) = true
          rw [zil x32 us (by omega), zil x32 us (by omega)]
          exact hw'.2
        · show gapB ((us.map x32).getD (j - 1) 0) ((us.map x32).getD j 0) = true
          obtain ⟨i, rfl⟩ : ∃ i, j = i + 1 := ⟨j - 1, by omega⟩
          rw [show i + 1 - 1 = i by omega, zil x32 us (by omega), zil x32 us (by omega)]
          have hg' := zkw hc i (by omega)
          have hg := zkw hc (i + 1) (by omega)
          obtain ⟨k, k1, k2, k3⟩ := zzz hc i (by omega)
          have := yez ⟨(us.getD i 0 + 16).toNat, by omega⟩ ⟨k.toNat, by omega⟩ (by simp only; omega) (by simp only; omega)
          simp only at this
          rw [show (((us.getD i 0 + 16).toNat : Int)) - 16 = us.getD i 0 by omega, show ((k.toNat : Int)) = k by omega, ← k3] at this
          exact this
    · unfold smallL
      rw [List.all_eq_true]
      intro x hx
      obtain ⟨v, hv', rfl⟩ := List.mem_map.1 hx
      have := hvs v hv'
      exact decide_eq_true (glift (by omega) (by omega)).2
    · unfold smallL
      rw [List.all_eq_true]
      intro x hx
      obtain ⟨v, hv', rfl⟩ := List.mem_map.1 hx
      have := hws v hv'
      exact decide_eq_true (gdrag this.1 (by omega)).2
theorem ydq {as ls ds xs : List Nat} {x : Nat} (hv : validProfB as ls ds = true) (hg : gapsB as = true) (hs : smallL xs = true) (hx : finB x = true) (hw : rg FloatKind.f32.format (wrapV x) ≤ 1065353216) (hl : xs.length = as.length) :
    ∃ v, z81 as.length as ls.length ls ds.length ds xs.length xs x = some v ∧ rg FloatKind.f32.format v ≤ 1182793728 := by
  obtain ⟨j, hj, h1, h2⟩ := yg2 hv hx
  obtain ⟨f1, f2, f3, f4⟩ := ydv hv hj
  have hgap := zci.1 hg j (by omega)
  generalize pairR as j = P at *
  obtain ⟨a, b, low, high⟩ := P
  simp only at h1 h2 f1 f2 f3 f4 hgap
  obtain ⟨i0, i1, i2, i3, i4, i5⟩ := zvh h1
  have hne : fcmp .neq .f32 low high = !fcmp .eql .f32 (fop .sub .f32 high low) 0 := by rw [sub_zero f2 f1, ygb (z4u f1) (z4u f2)]
  have oa : okIx (Int.ofNat a) xs.length = true := z90 (by omega)
  have ob : okIx (Int.ofNat b) xs.length = true := z90 (by omega)
  unfold smallL at hs
  rw [List.all_eq_true] at hs
  have ra : rg FloatKind.f32.format (xs.getD a 0) ≤ 1082130432 := of_decide_eq_true (hs _ (by simp [List.getD_eq_getElem?_getD, show a < xs.length by omega]))
  have rb : rg FloatKind.f32.format (xs.getD b 0) ≤ 1082130432 := of_decide_eq_true (hs _ (by simp [List.getD_eq_getElem?_getD, show b < xs.length by omega]))
  refine ⟨mixed (xs.getD a 0) (xs.getD b 0) (if fcmp .eql .f32 (fop .sub .f32 high low) 0 = true then 0 else fop .quo .f32 (fop .sub .f32 (wrapV x) low) (fop .sub .f32 high low)), ?_, ?_⟩
  · unfold z81 zaw
    have m := fun p q s => y93 (show zmc p q s = some (mixed p q s) from rfl)
    simp only [z5r, i0, i1, i2, i3, i4, i5, hne, oa, ob, ix1, gF, z0w, (m _ _ _).1, (m _ _ _).2]
    cases fcmp .eql .f32 (fop .sub .f32 high low) 0 <;> rfl
  · unfold gapB at hgap
    simp only [Bool.and_eq_true, Bool.or_eq_true, decide_eq_true_eq] at hgap
    obtain ⟨g1, g2, g3⟩ := hgap
    have hf : rg FloatKind.f32.format (if fcmp .eql .f32 (fop .sub .f32 high low) 0 = true then 0 else fop .quo .f32 (fop .sub .f32 (wrapV x) low) (fop .sub .f32 high low)) ≤ 1149239296 := by
      split
      · decide
      · rename_i hn
        rcases g3 with g3 | ⟨g3, g4⟩
        · exact absurd g3 hn
        · have ht : rg FloatKind.f32.format (fop .sub .f32 (wrapV x) low) ≤ 1082130432 := zqe hw g1 (by decide) (by decide) (by decide +kernel)
          refine ydw (A := rungV FloatKind.f32.format 1082130432) (B := rungV FloatKind.f32.format 1015021568) (N := 149) (z2b ht (by decide)) (z2b g4 (by decide)) (mg_le ht) (z9t _ g3) (by decide +kernel) (by decide +kernel) (by decide +kernel)
    generalize (if fcmp .eql .f32 (fop .sub .f32 high low) 0 = true then 0 else fop .quo .f32 (fop .sub .f32 (wrapV x) low) (fop .sub .f32 high low)) = f at hf
    unfold mixed
    have e1 : rg FloatKind.f32.format (fop .sub .f32 (xs.getD b 0) (xs.getD a 0)) ≤ 1090519040 := zqe rb ra (by decide) (by decide) (by decide +kernel)
    have e2 : rg FloatKind.f32.format (fop .mul .f32 f (fop .sub .f32 (xs.getD b 0) (xs.getD a 0))) ≤ 1174405120 := zxv (N := 149) hf e1 (by decide) (by decide) (by decide +kernel) (by decide +kernel)
    exact zxk ra e2 (by decide) (by decide) (by decide +kernel)
theorem ygw (a b : Fin 41) : fcmp .gtr .f32 (q4 (a : Int)) (q4 (b : Int)) = decide (b < a) := by revert a b; decide +kernel
theorem yh6 (a : Fin 41) (t : Fin 90) : 2 * a.val < t.val → fcmp .lss .f32 (q4 (a : Int)) (l8 (t : Int)) = true := by revert a t; decide +kernel
theorem yh4 (c : Fin 9) : 1 ≤ c.val → posB (l8 (c : Int)) = true := by revert c; decide +kernel
theorem yfx (w : Fin 25) : finB (t64 ((w : Int) - 12)) = true := by revert w; decide +kernel
theorem yfk (q : Fin 9) : leastB (q4 (q : Int)) = true := by revert q; decide +kernel
theorem ye3 (t : Fin 90) : finB (l8 (t : Int)) = true := by revert t; decide +kernel
theorem ydd (a : Fin 20) (e : Fin 5) : fop .add .f32 (q4 (a : Int)) (l8 (e : Int)) = l8 (2 * (a : Int) + e) := by revert a e; decide +kernel
theorem ye1 (a : Fin 20) : fop .mul .f32 1073741824 (q4 (a : Int)) = q4 (2 * (a : Int)) := by revert a; decide +kernel
theorem yef (a : Fin 45) : fop .mul .f32 1073741824 (l8 (a : Int)) = l8 (2 * (a : Int)) := by revert a; decide +kernel
theorem yfj (w : Fin 17) : fop .add .f32 (t64 ((w : Int) - 8)) 1031798784 = t64 ((w : Int) - 8 + 4) := by revert w; decide +kernel
def ringsG (t : Int) : Int → List (Int × Int × Int) → Prop
  | _, [] => True
  | q, (a, c, w) :: r => (q < a ∧ a ≤ 40 ∧ 2 * a < t) ∧ (1 ≤ c ∧ c ≤ 8) ∧ (-12 ≤ w ∧ w ≤ 12) ∧ ringsG t a r
theorem zlp (pre : List (Int × Int × Int)) (a c w : Int) (r : List (Int × Int × Int)) :
    (ringRow (pre ++ (a, c, w) :: r)).getD (pre.length * 3) 0 = q4 a ∧ (ringRow (pre ++ (a, c, w) :: r)).getD (pre.length * 3).succ 0 = l8 c ∧ (ringRow (pre ++ (a, c, w) :: r)).getD (pre.length * 3).succ.succ 0 = t64 w := by
  have hp := ze5 pre
  rw [zin]
  simp only [List.getD_eq_getElem?_getD]
  rw [List.getElem?_append_right (by omega), List.getElem?_append_right (by omega), List.getElem?_append_right (by omega), hp, show pre.length * 3 - pre.length * 3 = 0 by omega, show (pre.length * 3).succ - pre.length * 3 = 1 by omega, show (pre.length * 3).succ.succ - pre.length * 3 = 2 by omega]
  exact ⟨rfl, rfl, rfl⟩
theorem y8c {t : Int} (ht : t < 90) : ∀ (l pre : List (Int × Int × Int)) (q : Int), 0 ≤ q → q ≤ 40 → ringsG t q l →
    (walkS (ringP (ringRow (pre ++ l)) (l8 t)) (fun i _ => (ringRow (pre ++ l)).getD (i * 3) 0) (fun _ _ => ()) (id : Nat → Nat) l.length pre.length (q4 q)).isRight = true
  | [], pre, q, _, _, _ => rfl
  | (a, c, w) :: r, pre, q, h0, h40, h => by
    obtain ⟨⟨h1, h2, h3⟩, ⟨h4, h5⟩, ⟨h6, h7⟩, h8⟩ := h
    obtain ⟨g1, g2, g3⟩ := zlp pre a c w r
    have f1 := ygw ⟨a.toNat, by omega⟩ ⟨q.toNat, by omega⟩
    simp only [Fin.mk_lt_mk] at f1
    rw [show ((a.toNat : Int)) = a by omega, show ((q.toNat : Int)) = q by omega, decide_eq_true (by omega)] at f1
    have f2 := yh6 ⟨a.toNat, by omega⟩ ⟨t.toNat, by omega⟩ (by simp only; omega)
    simp only at f2
    rw [show ((a.toNat : Int)) = a by omega, show ((t.toNat : Int)) = t by omega] at f2
    have f3 := yh4 ⟨c.toNat, by omega⟩ (by simp only; omega)
    simp only at f3
    rw [show ((c.toNat : Int)) = c by omega] at f3
    have f4 := yfx ⟨(w + 12).toNat, by omega⟩
    simp only at f4
    rw [show (((w + 12).toNat : Int)) - 12 = w by omega] at f4
    have hp : ringP (ringRow (pre ++ (a, c, w) :: r)) (l8 t) pre.length (q4 q) = true := by
      unfold ringP
      rw [g1, g2, g3, f1, f2, f3, f4]
      rfl
    rw [List.length_cons]
    unfold walkS
    rw [if_pos hp]
    have ih := y8c ht r (pre ++ [(a, c, w)]) a (by omega) h2 h8
    simp only [List.append_assoc, List.cons_append, List.nil_append, List.length_append, List.length_cons, List.length_nil] at ih
    show (walkS _ _ _ _ r.length (pre.length + 1) ((ringRow (pre ++ (a, c, w) :: r)).getD (pre.length * 3) 0)).isRight = true
    rw [g1]
    exact ih
theorem zyz {as ls ds : List Nat} {l : List (Int × Int × Int)} {count q t : Int} (hv : validProfB as ls ds = true) (hc : 1 ≤ count ∧ count ≤ 4) (hl : 2 ≤ l.length ∧ l.length ≤ 4) (hq : 0 ≤ q ∧ q ≤ 4) (ht : 0 ≤ t ∧ t < 90) (hr : ringsG t q l) :
    validRotorB as ls ds (ringRow l) l.length count (q4 q) (l8 t) = true := by
  unfold validRotorB
  have f1 := yfk ⟨q.toNat, by omega⟩
  simp only at f1
  rw [show ((q.toNat : Int)) = q by omega] at f1
  have f2 := ye3 ⟨t.toNat, by omega⟩
  simp only at f2
  rw [show ((t.toNat : Int)) = t by omega] at f2
  have f3 : inB count 1 6 = true := by
    unfold inB
    simp only [leI, Bool.and_eq_true, decide_eq_true_eq]
    omega
  have f4 := y8c ht.2 l [] q hq.1 (by omega) hr
  rw [hv, f3, decide_eq_true hl.1, decide_eq_true (show l.length ≤ 12 by omega), f1, f2]
  simpa [ringsW] using f4
def dbl (x : Int × Int × Int) : Int × Int × Int := (2 * x.1, 2 * x.2.1, x.2.2)
def twi (x : Int × Int × Int) : Int × Int × Int := (x.1, x.2.1, x.2.2 + 4)
theorem y88 : ∀ {l : List (Int × Int × Int)} {q : Int}, 0 ≤ q → rings q l → q + 4 * l.length ≤ 18 → ∀ x ∈ l, (1 ≤ x.1 ∧ x.1 ≤ 18) ∧ (1 ≤ x.2.1 ∧ x.2.1 ≤ 4) ∧ (-8 ≤ x.2.2 ∧ x.2.2 ≤ 8)
  | [], _, _, _, _, x, hx => by cases hx
  | (a, c, w) :: r, q, h0, h, hb, x, hx => by
    obtain ⟨⟨k, k1, k2, rfl⟩, h1, h2, h3⟩ := h
    simp only [List.length_cons] at hb
    rcases List.mem_cons.1 hx with rfl | hx
    · exact ⟨by simp only; omega, h1, h2⟩
    · exact y88 (by omega) h3 (by omega) x hx
theorem zpz : ∀ {l : List (Int × Int × Int)} {q : Int}, rings q l → q ≤ lastQ q l ∧ lastQ q l ≤ q + 4 * l.length
  | [], q, _ => by simp [lastQ]
  | (a, c, w) :: r, q, h => by
    obtain ⟨⟨k, k1, k2, rfl⟩, h1, h2, h3⟩ := h
    have := zpz h3
    simp only [List.length_cons, lastQ]
    omega
theorem yc8 : ∀ {l : List (Int × Int × Int)} {q t : Int}, 0 ≤ q → rings q l → q + 4 * l.length ≤ 18 → 2 * lastQ q l < t → ringsG t q l
  | [], _, _, _, _, _, _ => trivial
  | (a, c, w) :: r, q, t, h0, h, hb, ht => by
    obtain ⟨⟨k, k1, k2, rfl⟩, h1, h2, h3⟩ := h
    simp only [List.length_cons] at hb
    have hl := zpz h3
    simp only [lastQ] at ht
    exact ⟨by omega, by omega, by omega, yc8 (by omega) h3 (by omega) ht⟩
theorem y84 : ∀ {l : List (Int × Int × Int)} {q t : Int}, 0 ≤ q → rings q l → q + 4 * l.length ≤ 18 → 2 * lastQ q l < t → ringsG (2 * t) (2 * q) (l.map dbl)
  | [], _, _, _, _, _, _ => trivial
  | (a, c, w) :: r, q, t, h0, h, hb, ht => by
    obtain ⟨⟨k, k1, k2, rfl⟩, h1, h2, h3⟩ := h
    simp only [List.length_cons] at hb
    have hl := zpz h3
    simp only [lastQ] at ht
    exact ⟨by simp only; omega, by simp only; omega, by simp only; omega, y84 (by omega) h3 (by omega) ht⟩
theorem y7z : ∀ {l : List (Int × Int × Int)} {q t : Int}, 0 ≤ q → rings q l → q + 4 * l.length ≤ 18 → 2 * lastQ q l < t → ringsG t q (l.map twi)
  | [], _, _, _, _, _, _ => trivial
  | (a, c, w) :: r, q, t, h0, h, hb, ht => by
    obtain ⟨⟨k, k1, k2, rfl⟩, h1, h2, h3⟩ := h
    simp only [List.length_cons] at hb
    have hl := zpz h3
    simp only [lastQ] at ht
    exact ⟨by simp only; omega, by simp only; omega, by simp only; omega, y7z (by omega) h3 (by omega) ht⟩
theorem y7n (pre l : List Nat) (i x : Nat) : (pre ++ l).set (pre.length + i) x = pre ++ l.set i x := by
  rw [List.set_append_right _ _ (by omega), show pre.length + i - pre.length = i by omega]
theorem y6h : ∀ (r pre : List (Int × Int × Int)) (l : List (Int × Int × Int)), l = pre ++ r → (∀ x ∈ l, (1 ≤ x.1 ∧ x.1 ≤ 18) ∧ (1 ≤ x.2.1 ∧ x.2.1 ≤ 4) ∧ (-8 ≤ x.2.2 ∧ x.2.2 ≤ 8)) →
    (List.range' pre.length r.length).foldl (fun s j => scaleF 1073741824 (ringRow l) j s) (ringRow (pre.map dbl ++ r)) = ringRow (l.map dbl)
  | [], pre, l, hl, _ => by subst hl; simp
  | (a, c, w) :: r, pre, l, hl, hx => by
    have hm := hx (a, c, w) (by rw [hl]; simp)
    simp only at hm
    rw [List.length_cons, List.range'_succ, List.foldl_cons]
    have e1 := ye1 ⟨a.toNat, by omega⟩
    have e2 := yef ⟨c.toNat, by omega⟩
    simp only at e1 e2
    rw [show ((a.toNat : Int)) = a by omega] at e1
    rw [show ((c.toNat : Int)) = c by omega] at e2
    obtain ⟨g1, g2, _⟩ := zlp pre a c w r
    rw [← hl] at g1 g2
    have hs : scaleF 1073741824 (ringRow l) pre.length (ringRow (pre.map dbl ++ (a, c, w) :: r)) = ringRow ((pre ++ [(a, c, w)]).map dbl ++ r) := by
      unfold scaleF
      rw [g1, g2, e1, e2]
      have hp := ze5 (pre.map dbl)
      rw [List.length_map] at hp
      rw [zin (pre.map dbl), ← hp, show ((ringRow (pre.map dbl)).length) = (ringRow (pre.map dbl)).length + 0 from rfl, y7n, show Nat.succ ((ringRow (pre.map dbl)).length + 0) = (ringRow (pre.map dbl)).length + 1 from rfl, y7n]
      simp [zin, ringRow, dbl]
    rw [hs]
    have ih := y6h r (pre ++ [(a, c, w)]) l (by rw [hl]; simp) hx
    simp only [List.length_append, List.length_cons, List.length_nil] at ih
    exact ih
theorem y5r : ∀ (r pre : List (Int × Int × Int)) (l : List (Int × Int × Int)), l = pre ++ r → (∀ x ∈ l, (1 ≤ x.1 ∧ x.1 ≤ 18) ∧ (1 ≤ x.2.1 ∧ x.2.1 ≤ 4) ∧ (-8 ≤ x.2.2 ∧ x.2.2 ≤ 8)) →
    (List.range' pre.length r.length).foldl (fun s j => twistF 1031798784 j s) (ringRow (pre.map twi ++ r)) = ringRow (l.map twi)
  | [], pre, l, hl, _ => by subst hl; simp
  | (a, c, w) :: r, pre, l, hl, hx => by
    have hm := hx (a, c, w) (by rw [hl]; simp)
    simp only at hm
    rw [List.length_cons, List.range'_succ, List.foldl_cons]
    have e1 := yfj ⟨(w + 8).toNat, by omega⟩
    simp only at e1
    rw [show (((w + 8).toNat : Int)) - 8 = w by omega] at e1
    obtain ⟨_, _, g3⟩ := zlp (pre.map twi) a c w r
    rw [List.length_map] at g3
    have hs : twistF 1031798784 pre.length (ringRow (pre.map twi ++ (a, c, w) :: r)) = ringRow ((pre ++ [(a, c, w)]).map twi ++ r) := by
      unfold twistF
      rw [g3, e1]
      have hp := ze5 (pre.map twi)
      rw [List.length_map] at hp
      rw [zin (pre.map twi), ← hp, show Nat.succ (Nat.succ ((ringRow (pre.map twi)).length)) = (ringRow (pre.map twi)).length + 2 from rfl, y7n]
      simp [zin, ringRow, twi]
    rw [hs]
    have ih := y5r r (pre ++ [(a, c, w)]) l (by rw [hl]; simp) hx
    simp only [List.length_append, List.length_cons, List.length_nil] at ih
    exact ih
def solN (count c a : Int) : Nat := fop .quo .f32 (fop .mul .f32 (fOI .f32 count) (l8 c)) (fop .mul .f32 1086918619 (q4 a))
theorem yev (k : Fin 5) (c : Fin 5) (a : Fin 19) : 1 ≤ k.val → 1 ≤ c.val → 1 ≤ a.val → finB (solN k c a) = true ∧ fcmp .leq .f32 (solN k c a) 0 = false ∧ solN k (2 * (c : Int)) (2 * (a : Int)) = solN k c a ∧ solN k c a < 2 ^ 32 ∧ cn .f32 (solN k c a) = solN k c a := by revert k c a; decide +kernel
def tipN (count t a : Int) : Nat := fop .quo .f32 (fop .mul .f32 (fOI .f32 count) (fop .sub .f32 (l8 t) (q4 a))) (fop .mul .f32 1073741824 (q4 a))
theorem yey (k : Fin 5) (t : Fin 42) (a : Fin 19) : 1 ≤ k.val → 2 * a.val < t.val → 1 ≤ a.val → tipN k (2 * (t : Int)) (2 * (a : Int)) = tipN k t a ∧ nn .f32 (tipN k t a) = false ∧ 1000000000 ≤ rg FloatKind.f32.format (tipN k t a) ∧ rg FloatKind.f32.format (tipN k t a) ≤ 1115684864 := by revert k t a; decide +kernel
def flowN (k : Int) : Nat := fop .quo .f32 (fOI .f32 k) 1132462080
theorem yds (k : Fin 60) : flowB (flowN ((k : Int) + 1)) = true ∧ (nn .f32 (sineT (flowN ((k : Int) + 1))) = false ∧ rg FloatKind.f32.format (sineT (flowN ((k : Int) + 1))) ≤ 1065353216) ∧ rg FloatKind.f32.format (sineT (fop .add .f32 (flowN ((k : Int) + 1)) 1048576000)) ≤ 1065353216 := by revert k; decide +kernel
theorem yew (k : Fin 60) (w : Fin 17) : fop .sub .f32 (fop .sub .f32 (flowN ((k : Int) + 1)) (t64 ((w : Int) - 8 + 4))) 0 = fop .sub .f32 (fop .sub .f32 (flowN ((k : Int) + 1)) (t64 ((w : Int) - 8))) 1031798784 ∧ finB (fop .sub .f32 (fop .sub .f32 (flowN ((k : Int) + 1)) (t64 ((w : Int) - 8))) 1031798784) = true ∧ rg FloatKind.f32.format (wrapV (fop .sub .f32 (fop .sub .f32 (flowN ((k : Int) + 1)) (t64 ((w : Int) - 8))) 1031798784)) ≤ 1065353216 := by revert k w; decide +kernel
theorem ycj (t : Fin 45) : finB (fop .quo .f32 (fop .mul .f32 1065353216 (l8 t)) 1073741824) = true ∧ finB (fop .quo .f32 (fop .mul .f32 1065353216 (l8 t)) 1065353216) = true ∧ fcmp .neq .f32 (fop .quo .f32 (fop .mul .f32 1065353216 (l8 t)) 1065353216) (fop .mul .f32 1073741824 (fop .quo .f32 (fop .mul .f32 1065353216 (l8 t)) 1073741824)) = false := by revert t; decide +kernel
theorem ygd {x y : Nat} (hx : finW .f32 x = true) (hy : finW .f32 y = true) (sx : nn .f32 x = false) (sy : nn .f32 y = false) (h0 : 0 < mg .f32 x) (hle : mg .f32 x ≤ mg .f32 y) (hb : 2 * mg .f32 y ≤ mg .f32 x * 2 ^ 149) :
    nn .f32 (fop .quo .f32 x y) = false ∧ 1 ≤ rg FloatKind.f32.format (fop .quo .f32 x y) ∧ rg FloatKind.f32.format (fop .quo .f32 x y) ≤ 1065353216 := by
  obtain ⟨m, a, h1, h2⟩ := z8r hx
  obtain ⟨n, b, h3, h4⟩ := z8r hy
  have hn : n ≠ 0 := by
    rintro rfl
    rw [Nat.zero_mul] at h4
    omega
  have hm : m ≠ 0 := by
    rintro rfl
    rw [Nat.zero_mul] at h2
    omega
  have e : fop .quo .f32 x y = FloatKind.f32.format.nearest (nn .f32 x ^^ nn .f32 y) (2 * (m <<< (FloatKind.f32.format.fractionBits + 2 + n.log2 - m.log2) / n) + ((m <<< (FloatKind.f32.format.fractionBits + 2 + n.log2 - m.log2) % n != 0) : Bool).toNat) (lp .f32 + a - (lp .f32 + b) - (FloatKind.f32.format.fractionBits + 2 + n.log2 - m.log2 : Nat) - 1) := by
    unfold fop floatBits Ieee.Format.div
    simp only [h1, h3, Ieee.Datum.quotient]
    rw [if_neg hn]
    rfl
  have hlp : lp .f32 = -149 := by decide +kernel
  have hlp2 : FloatKind.f32.format.leastPlace = -149 := hlp
  rw [e, (z60 _ _ _ _).1, z48 _ _ (z5n _ _ _), zjt _ _ (z5n _ _ _), sx, sy]
  refine ⟨rfl, ?_⟩
  generalize hmore : FloatKind.f32.format.fractionBits + 2 + n.log2 - m.log2 = more
  rw [Nat.shiftLeft_eq]
  have hD : n ≤ m * 2 ^ more := by
    have q1 : 2 ^ m.log2 ≤ m := Nat.log2_self_le hm
    have q2 : n < 2 ^ (n.log2 + 1) := Nat.lt_log2_self
    have q3 : 2 ^ (n.log2 + 1) ≤ 2 ^ (m.log2 + more) := Nat.pow_le_pow_right (by omega) (by omega)
    rw [Nat.pow_add 2 m.log2 more] at q3
    have q4 := Nat.mul_le_mul_right (2 ^ more) q1
    omega
  have key : m * 2 ^ more * 2 ^ a ≤ n * 2 ^ b * 2 ^ more := by
    rw [Nat.mul_right_comm, h2, h4]
    exact Nat.mul_le_mul_right _ hle
  have low : n * 2 ^ (b + more + 1) ≤ m * 2 ^ more * 2 ^ (149 + a) := by
    have := Nat.mul_le_mul_right (2 ^ more) hb
    rw [← h2, ← h4] at this
    rw [Nat.pow_add, Nat.pow_add, Nat.pow_add, Nat.pow_one]
    rw [show n * (2 ^ b * 2 ^ more * 2) = 2 * (n * 2 ^ b) * 2 ^ more by simp only [Nat.mul_assoc, Nat.mul_comm, Nat.mul_left_comm], show m * 2 ^ more * (2 ^ 149 * 2 ^ a) = m * 2 ^ a * 2 ^ 149 * 2 ^ more by simp only [Nat.mul_assoc, Nat.mul_comm, Nat.mul_left_comm]]
    exact this
  generalize hDD : m * 2 ^ more = D at hD key low ⊢
  have hdm := Nat.div_add_mod D n
  have hmod := Nat.mod_lt D (show 0 < n by omega)
  have hq1 : 1 ≤ D / n := (Nat.le_div_iff_mul_le (by omega)).2 (by omega)
  constructor
  · refine zu1 _ (u := 149 + a) (v := b + more + 1) (by decide) (by rw [hlp2, hlp]; omega) ?_
    rw [show rungV FloatKind.f32.format 1 = 1 by decide +kernel, Nat.one_mul]
    have hP : D ≤ (2 * (D / n) + ((D % n != 0) : Bool).toNat) * n := by
      have t : (2 * (D / n) + ((D % n != 0) : Bool).toNat) * n = 2 * (n * (D / n)) + ((D % n != 0) : Bool).toNat * n := by rw [Nat.add_mul, Nat.mul_assoc, Nat.mul_comm (D / n) n]
      have t2 : n ≤ n * (D / n) := Nat.le_mul_of_pos_right _ hq1
      omega
    generalize 2 * (D / n) + ((D % n != 0) : Bool).toNat = P at hP ⊢
    have h5 := Nat.mul_le_mul_right (2 ^ (149 + a)) hP
    refine Nat.le_of_mul_le_mul_left (c := n) ?_ (by omega)
    rw [show n * (P * 2 ^ (149 + a)) = P * n * 2 ^ (149 + a) by simp only [Nat.mul_assoc, Nat.mul_comm, Nat.mul_left_comm]]
    exact Nat.le_trans low h5
  · refine zdi _ (u := 149 + a) (v := b + more + 1) (by rw [hlp2, hlp]; omega) ?_
    rw [show rungV FloatKind.f32.format 1065353216 = 2 ^ 149 by decide +kernel]
    have hP : (2 * (D / n) + ((D % n != 0) : Bool).toNat) * 2 ^ a ≤ 2 * (2 ^ b * 2 ^ more) := by
      by_cases hz : D % n = 0
      · rw [hz]
        simp only [bne_self_eq_false, Bool.toNat_false, Nat.add_zero]
        have h6 : D / n * 2 ^ a ≤ 2 ^ b * 2 ^ more := by
          refine Nat.le_of_mul_le_mul_left (c := n) ?_ (by omega)
          rw [← Nat.mul_assoc, show n * (D / n) = D by omega, ← Nat.mul_assoc]
          exact key
        rw [Nat.mul_assoc]
        exact Nat.mul_le_mul_left 2 h6
      · have hbit : ((D % n != 0) : Bool).toNat = 1 := by
          have : (D % n != 0) = true := by simpa using hz
          rw [this]; rfl
        rw [hbit]
        rcases Nat.le_total a (b + more) with hab | hab
        · obtain ⟨j, hj⟩ : ∃ j, b + more = a + j := ⟨b + more - a, by omega⟩
          rw [← Nat.pow_add, hj, Nat.pow_add]
          rw [Nat.mul_assoc n, ← Nat.pow_add, hj, Nat.pow_add, ← Nat.mul_assoc, Nat.mul_right_comm] at key
          have h7 : D ≤ n * 2 ^ j := Nat.le_of_mul_le_mul_right key (Nat.two_pow_pos a)
          have h8 : D / n < 2 ^ j := by
            refine (Nat.div_lt_iff_lt_mul (by omega)).2 ?_
            rw [Nat.mul_comm]
            rcases Nat.lt_or_ge D (n * 2 ^ j) with h | h
            · exact h
            · have : D = n * 2 ^ j := by omega
              exact absurd (by rw [this, Nat.mul_mod_right]) hz
          have h9 := Nat.mul_le_mul_right (2 ^ a) (show 2 * (D / n) + 1 ≤ 2 * 2 ^ j by omega)
          refine Nat.le_trans h9 ?_
          rw [Nat.mul_assoc, Nat.mul_comm (2 ^ j)]
          exact Nat.le_refl _
        · exfalso
          obtain ⟨j, hj⟩ : ∃ j, a = b + more + j := ⟨a - (b + more), by omega⟩
          rw [hj, Nat.mul_assoc n, ← Nat.pow_add, Nat.pow_add 2 (b + more) j, Nat.mul_left_comm, Nat.mul_comm] at key
          have key2 : D * 2 ^ j ≤ n := by
            refine Nat.le_of_mul_le_mul_right (c := 2 ^ (b + more)) ?_ (Nat.two_pow_pos _)
            exact key
          have : D ≤ D * 2 ^ j := Nat.le_mul_of_pos_right _ (Nat.two_pow_pos j)
          have hDn : D = n := by omega
          exact hz (by rw [hDn, Nat.mod_self])
    generalize 2 * (D / n) + ((D % n != 0) : Bool).toNat = P at hP ⊢
    rw [Nat.pow_add 2 149 a, show P * (2 ^ 149 * 2 ^ a) = P * 2 ^ a * 2 ^ 149 by simp only [Nat.mul_assoc, Nat.mul_comm, Nat.mul_left_comm], Nat.mul_comm (2 ^ 149)]
    refine Nat.mul_le_mul_right _ (Nat.le_trans hP ?_)
    rw [Nat.pow_succ, Nat.pow_add, Nat.mul_comm]
    exact Nat.le_refl _
theorem ybf {x y : Nat} (hx : finW .f32 x = true) (hy : finW .f32 y = true) (h0 : 0 < mg .f32 y) : ∃ s r, r ≤ FloatKind.f32.format.infRung ∧ fop .quo .f32 x y = FloatKind.f32.format.word s r := by
  obtain ⟨m, a, h1, h2⟩ := z8r hx
  obtain ⟨n, b, h3, h4⟩ := z8r hy
  have hn : n ≠ 0 := by
    rintro rfl
    rw [Nat.zero_mul] at h4
    omega
  have e : ∃ s p q, fop .quo .f32 x y = FloatKind.f32.format.nearest s p q := by
    refine ⟨nn .f32 x ^^ nn .f32 y, 2 * (m <<< (FloatKind.f32.format.fractionBits + 2 + n.log2 - m.log2) / n) + ((m <<< (FloatKind.f32.format.fractionBits + 2 + n.log2 - m.log2) % n != 0) : Bool).toNat, lp .f32 + a - (lp .f32 + b) - (FloatKind.f32.format.fractionBits + 2 + n.log2 - m.log2 : Nat) - 1, ?_⟩
    unfold fop floatBits Ieee.Format.div
    simp only [h1, h3, Ieee.Datum.quotient]
    rw [if_neg hn]
    rfl
  obtain ⟨s, p, q, e⟩ := e
  exact ⟨s, rnd FloatKind.f32.format p q, z5n _ _ _, by rw [e, (z60 _ _ _ _).1]⟩
theorem yae {ys : List Int} {m : Nat} (hy : byteL ys) {i n : Int} (hi : i = 0 ∨ i = 1) (hn : 1 ≤ n) : ∃ v, zk5 m ys i n = true ∧ zgf m ys i n = v ∧ 0 ≤ v ∧ v < n := by
  have key : ∃ v, zjy m ys i n = some v ∧ 0 ≤ v ∧ v < n := by
    unfold zjy zka
    have hz : okNz n = true := decide_eq_true (by omega)
    cases h1 : leI n 1
    · rw [z7m]
      cases h2 : ltI i (Int.ofNat m)
      · rw [z7m, hz, z0w]
        refine ⟨_, rfl, ?_⟩
        have : addI .i64 (mulI .i64 i 37) 11 = i * 37 + 11 := by
          rcases hi with rfl | rfl <;> decide
        rw [this]
        exact ⟨Int.tmod_nonneg _ (by omega), Int.tmod_lt_of_pos _ (by omega)⟩
      · have h3 : okIx i m = true := decide_eq_true ⟨by omega, of_decide_eq_true h2⟩
        rw [zax, h3, hz, z0w, z0w]
        refine ⟨_, rfl, ?_⟩
        have := zzk (y89 hy (ixO 0 i 1))
        exact ⟨Int.tmod_nonneg _ this.1, Int.tmod_lt_of_pos _ (by omega)⟩
    · exact ⟨0, rfl, by omega, by omega⟩
  obtain ⟨v, h1, h2⟩ := key
  obtain ⟨p, q⟩ := y8v h1
  exact ⟨v, p, q, h2⟩
theorem zq0 {x : Nat} (h : canW .f32 x) : zat x x = true ∧ za6 x x = true := by
  obtain ⟨p, q⟩ := y5w (y5y h h)
  refine y1g ?_
  unfold zdl zb5
  rw [p, q, decide_eq_true rfl]
  rfl
theorem yad {x : Nat} (h : finW .f32 x = true) : zg9 (fcvV .f32 .f64 x) (fcvV .f32 .f64 x) = true ∧ fcmp .gtr .f64 (ze7 (fcvV .f32 .f64 x) (fcvV .f32 .f64 x)) 4562254508917369340 = false := by
  have hf : finW .f64 (fcvV .f32 .f64 x) = true := by rw [y2u]; exact h
  have hs : fop .sub .f64 (fcvV .f32 .f64 x) (fcvV .f32 .f64 x) = 0 := by
    rw [zew hf hf, Int.sub_self]
    unfold sgn0
    rw [if_pos rfl, Int.natAbs_zero, zrb, Bool.and_not_self]
    rfl
  obtain ⟨p, q⟩ := y7c (show zgj (fcvV .f32 .f64 x) (fcvV .f32 .f64 x) = some 0 by
    unfold zgj zg8
    rw [hs]
    cases fcmp .lss .f64 (fcvV .f32 .f64 x) (fcvV .f32 .f64 x) <;> rfl)
  exact ⟨p, by rw [q]; decide +kernel⟩
theorem yda (m : Fin 8) : ((listOf (plateA (m.val + 2)) (m.val + 2)).all fun x => decide (x < 2 ^ 32 ∧ cn .f32 x = x)) = true ∧ ((listOf (plateL (m.val + 2)) (m.val + 2)).all fun x => decide (x < 2 ^ 32 ∧ cn .f32 x = x)) = true ∧ ((listOf (plateD (m.val + 2)) (m.val + 2)).all fun x => decide (x < 2 ^ 32 ∧ cn .f32 x = x)) = true := by revert m; decide +kernel
theorem ycb (u : Fin 33) : x32 ((u : Int) - 16) < 2 ^ 32 ∧ cn .f32 (x32 ((u : Int) - 16)) = x32 ((u : Int) - 16) := by revert u; decide +kernel
theorem ygx (u : Fin 33) : l8 ((u : Int) - 16) < 2 ^ 32 ∧ cn .f32 (l8 ((u : Int) - 16)) = l8 ((u : Int) - 16) := by revert u; decide +kernel
theorem zxa {xs : List Nat} (h : (xs.all fun x => decide (x < 2 ^ 32 ∧ cn .f32 x = x)) = true) : ∀ x ∈ xs, canW .f32 x := fun x hx => by
  have := List.all_eq_true.1 h x hx
  simp only [decide_eq_true_eq] at this
  exact this
theorem ydi {as ls ds : List Nat} (h : DrawnP as ls ds) : (∀ x ∈ as, canW .f32 x) ∧ (∀ x ∈ ls, canW .f32 x) ∧ (∀ x ∈ ds, canW .f32 x) := by
  rcases h with ⟨m, h1, h2, rfl, rfl, rfl⟩ | ⟨u, us, vs, ws, hu1, hu2, hc, hn1, hn2, hv, hw, hvs, hws, rfl, rfl, rfl⟩
  · have := yda ⟨m - 2, by omega⟩
    simp only at this
    rw [show m - 2 + 2 = m by omega] at this
    exact ⟨zxa this.1, zxa this.2.1, zxa this.2.2⟩
  · refine ⟨fun x hx => ?_, fun x hx => ?_, fun x hx => ?_⟩
    · obtain ⟨v, hv', rfl⟩ := List.mem_map.1 hx
      obtain ⟨j, hj, rfl⟩ := List.getElem_of_mem hv'
      have := zkw hc j hj
      rw [List.getD_eq_getElem?_getD, List.getElem?_eq_getElem hj] at this
      simp only [Option.getD_some] at this
      have g := ycb ⟨(us[j] + 16).toNat, by omega⟩
      simp only at g
      rw [show (((us[j] + 16).toNat : Int)) - 16 = us[j] by omega] at g
      exact g
    · obtain ⟨v, hv', rfl⟩ := List.mem_map.1 hx
      have := hvs v hv'
      have g := ygx ⟨(v + 16).toNat, by omega⟩
      simp only at g
      rw [show (((v + 16).toNat : Int)) - 16 = v by omega] at g
      exact g
    · obtain ⟨v, hv', rfl⟩ := List.mem_map.1 hx
      have := hws v hv'
      have g := ycb ⟨(v + 16).toNat, by omega⟩
      simp only at g
      rw [show (((v + 16).toNat : Int)) - 16 = v by omega] at g
      exact g
def evenE : List Nat := evenL 1065353216 1077936128 1048576000 0 4 4
theorem ydb : (ringsW evenE 4 1065353216 1077936128).isRight = true ∧ leastB 1065353216 = true ∧ finB 1077936128 = true ∧ setSt evenE 2 (gF evenE (ixO 0 2 3)) (gF evenE (Nat.succ (ixO 0 2 3))) (gF evenE (Nat.succ (Nat.succ (ixO 0 2 3)))) = evenE ∧ (evenE.all fun x => decide (x < 2 ^ 32 ∧ cn .f32 x = x)) = true ∧
    fcmp .gtr .f32 (gF evenE (ixO 0 0 3)) 1065353216 = true ∧ fcmp .lss .f32 (gF evenE (ixO 0 3 3)) 1077936128 = true ∧ stationB 4 2 = true ∧ (1065353216 < 2 ^ 32 ∧ cn .f32 1065353216 = 1065353216) ∧ (1077936128 < 2 ^ 32 ∧ cn .f32 1077936128 = 1077936128) := by decide +kernel
theorem yaj (as ls ds st : List Nat) (n : Nat) (count : Int) (hub tip : Nat) : sameRotB as ls ds st n count hub tip as ls ds st n count hub tip = true := by
  unfold sameRotB sameProfB ringsSame
  have : (List.range n).all (tripB st st) = true := zci.2 fun j _ => by unfold tripB; simp
  simp [this]
theorem y7q {as ls ds st : List Nat} {n : Nat} {count : Int} {hub tip : Nat} {i : Int} {x pitch al l d : Nat} (z : st.length = n * 3) (hix : okIx i n = true) (ha : angB st i pitch x = al)
    (h1 : z81 as.length as ls.length ls ds.length ds ls.length ls al = some l) (h2 : z81 as.length as ls.length ls ds.length ds ds.length ds al = some d) :
    z6l as.length as ls.length ls ds.length ds n st count hub tip i x pitch = some (fop .add .f32 (fop .mul .f32 l (sineT (fop .add .f32 x 1048576000))) (fop .mul .f32 d (sineT x)), fop .sub .f32 (fop .mul .f32 l (sineT x)) (fop .mul .f32 d (sineT (fop .add .f32 x 1048576000)))) := by
  have hst : pF st 0 (muN n 3) = st := z8h z
  subst ha
  obtain ⟨l3, l4⟩ := zs9 h1
  obtain ⟨d3, d4⟩ := zs9 h2
  obtain ⟨s1, s2⟩ := znw (zo2 x)
  obtain ⟨s3, s4⟩ := znw (zo2 (fop .add .f32 x 1048576000))
  have ea : fop .sub .f32 (fop .sub .f32 x (gF st (Nat.succ (Nat.succ (ixO 0 i 3))))) pitch = angB st i pitch x := rfl
  unfold z6l z96
  simp only [z5r, hst, hix, ea, l3, l4, d3, d4, s1, s2, s3, s4, z0w]
theorem y1h {as ls ds st : List Nat} {n : Nat} {count : Int} {hub tip : Nat} {i : Int} {x pitch a b : Nat} (z : st.length = n * 3) (hl : ls.length < 281474976710656) (hd : ds.length < 281474976710656) (hv : validRotorB as ls ds st n count hub tip = true) (hi : stationB n i = true) (hf : flowB x = true) (hp : finB pitch = true) (ha : finB (angB st i pitch x) = true)
    (h : z6l as.length as ls.length ls ds.length ds n st count hub tip i x pitch = some (a, b)) (fa : finB a = true) (fb : finB b = true) : z94 as.length as ls.length ls ds.length ds n st count hub tip i x pitch = some (a, b, true) := by
  have hst : pF st 0 (muN n 3) = st := z8h z
  have hn := ybu hv
  have hix := zpw hi (by omega)
  obtain ⟨p1, q1⟩ := z3x (z3y (as := as) (st := st) (n := n) (count := count) (hub := hub) (tip := tip) hl hd)
  obtain ⟨p2, q2⟩ := zbh (zbi (as := as) (ls := ls) (ds := ds) (st := st) (n := n) (count := count) (hub := hub) (tip := tip) i)
  obtain ⟨p3, q3⟩ := zxc (zyo x)
  obtain ⟨p4, q4⟩ := z7n (z7g pitch)
  obtain ⟨p5, q5⟩ := z7n (z7g (angB st i pitch x))
  obtain ⟨a1, a2, a3⟩ := zz3 h
  obtain ⟨c1, c2, c3, c4⟩ := y2p (y1o a b)
  have ea : fop .sub .f32 (fop .sub .f32 x (gF st (Nat.succ (Nat.succ (ixO 0 i 3))))) pitch = angB st i pitch x := rfl
  unfold z94 zcs
  simp only [z5r, hst, p1, q1, p2, q2, p3, q3, p4, q4, ea, p5, q5, hv, hi, hf, hp, ha, hix, a1, a2, a3, c1, c2, c3, c4, fa, fb, Bool.and_self, if_true, z0w, zkv, z7m]
theorem zy4 {as ls ds st : List Nat} {n : Nat} {count : Int} {hub tip : Nat} {i : Int} {x : Nat} (z : st.length = n * 3) (hl : ls.length < 281474976710656) (hd : ds.length < 281474976710656) (hv : validRotorB as ls ds st n count hub tip = true) (hi : stationB n i = true) (hf : flowB x = true) :
    z6o as.length as ls.length ls ds.length ds n st count hub tip i x = some (checkV (tipS st count tip i (sineT x)), finB (tipS st count tip i (sineT x))) := by
  have hst : pF st 0 (muN n 3) = st := z8h z
  have hn := ybu hv
  have hix := zpw hi (by omega)
  obtain ⟨p1, q1⟩ := z3x (z3y (as := as) (st := st) (n := n) (count := count) (hub := hub) (tip := tip) hl hd)
  obtain ⟨p2, q2⟩ := zbh (zbi (as := as) (ls := ls) (ds := ds) (st := st) (n := n) (count := count) (hub := hub) (tip := tip) i)
  obtain ⟨p3, q3⟩ := zxc (zyo x)
  obtain ⟨p6, q6⟩ := znw (zo2 x)
  obtain ⟨a1, a2⟩ := zwb (show z8i as.length as ls.length ls ds.length ds n st count hub tip i x = some (tipS st count tip i (sineT x)) by
    unfold z8i z8l
    rw [hix, p6, q6]; rfl)
  obtain ⟨c1, c2, c3⟩ := zqn (zqb (tipS st count tip i (sineT x)))
  unfold z6o zau
  simp only [z5r, hst, p1, q1, p2, q2, p3, q3, hv, hi, hf, a1, a2, c1, c2, c3, z0w, zkv, z7m]
theorem yh0 (xs : List Int) : pI xs 0 (muN xs.length 1) = xs := by simp [pI, muN]
theorem ybj {xs : List Int} (k : ∀ x ∈ xs, bdI .u8 x) : byteL xs := fun x hx => by
  have := k x hx
  have h1 : IntKind.u8.min = 0 := rfl
  have h2 : IntKind.u8.max = 255 := rfl
  unfold bdI at this
  rw [h1, h2] at this
  exact this
theorem zr7 {x : Nat} (h : finB x = true) : checkV x = x := by unfold checkV; rw [h]; rfl
theorem yfp {l : List (Int × Int × Int)} {j : Nat} (h : j < l.length) : ∃ pre a c w r, l = pre ++ (a, c, w) :: r ∧ pre.length = j := by
  refine ⟨l.take j, l[j].1, l[j].2.1, l[j].2.2, l.drop (j + 1), ?_, by simp; omega⟩
  show l = l.take j ++ l[j] :: l.drop (j + 1)
  rw [← List.drop_eq_getElem_cons h, List.take_append_drop]
theorem yf7 {W s : Nat} (h1 : nn .f32 W = false) (h2 : 1000000000 ≤ rg FloatKind.f32.format W) (h3 : rg FloatKind.f32.format W ≤ 1115684864) (s1 : nn .f32 s = false) (s2 : rg FloatKind.f32.format s ≤ 1065353216) :
    finB (fop .quo .f32 W (fop .add .f32 W s)) = true ∧ canW .f32 (fop .quo .f32 W (fop .add .f32 W s)) ∧ fcmp .leq .f32 (fop .quo .f32 W (fop .add .f32 W s)) 0 = false ∧ fcmp .gtr .f32 (fop .quo .f32 W (fop .add .f32 W s)) 1065353216 = false := by
  have fW : finW .f32 W = true := z2b h3 (by decide)
  have fs : finW .f32 s = true := z2b s2 (by decide)
  have hv : vl .f32 W + vl .f32 s = ((mg .f32 W + mg .f32 s : Nat) : Int) := by
    unfold vl
    rw [h1, s1]
    simp [sg]
  have hY : nn .f32 (fop .add .f32 W s) = false ∧ rg FloatKind.f32.format W ≤ rg FloatKind.f32.format (fop .add .f32 W s) ∧ rg FloatKind.f32.format (fop .add .f32 W s) ≤ 1124073472 := by
    refine ⟨?_, ?_, zxk h3 s2 (by decide) (by decide) (by decide +kernel)⟩
    · rw [zu5 fW fs, hv, zjt _ _ (z5n _ _ _)]
      unfold sgn0
      rw [h1, s1, Bool.false_and]
      split
      · rfl
      · exact decide_eq_false (by omega)
    · rw [zu5 fW fs, hv, z48 _ _ (z5n _ _ _), Int.natAbs_natCast]
      refine zu1 _ (u := 0) (v := 0) (Nat.le_of_lt (zgk fW)) (by unfold lp; omega) ?_
      simp only [Nat.pow_zero, Nat.mul_one]
      have : mg .f32 W = rungV FloatKind.f32.format (rg FloatKind.f32.format W) := rfl
      omega
  obtain ⟨y1, y2, y3⟩ := hY
  generalize fop .add .f32 W s = Y at y1 y2 y3 ⊢
  have fY : finW .f32 Y = true := z2b y3 (by decide)
  have m1 : rungV FloatKind.f32.format 1000000000 ≤ mg .f32 W := z9t _ h2
  have m2 : mg .f32 W ≤ mg .f32 Y := z9t _ y2
  have m3 : mg .f32 Y ≤ rungV FloatKind.f32.format 1124073472 := mg_le y3
  have c0 : 0 < rungV FloatKind.f32.format 1000000000 := by decide +kernel
  have c1 : 2 * rungV FloatKind.f32.format 1124073472 ≤ rungV FloatKind.f32.format 1000000000 * 2 ^ 149 := by decide +kernel
  obtain ⟨q1, q2, q3⟩ := ygd fW fY h1 y1 (by omega) m2 (Nat.le_trans (Nat.mul_le_mul_left 2 m3) (Nat.le_trans c1 (Nat.mul_le_mul_right _ m1)))
  obtain ⟨sw, r, hr, hw⟩ := ybf fW fY (by omega)
  generalize fop .quo .f32 W Y = c at q1 q2 q3 hw ⊢
  have fc : finW .f32 c = true := z2b q3 (by decide)
  have hn : nanB .f32 c = false := z4u fc
  have hsw : sw = false := by rw [hw, zjt _ _ hr] at q1; exact q1
  have hrc : c = r := by rw [hw, hsw]; rfl
  have hi : FloatKind.f32.format.infRung = 2139095040 := by decide
  have hs : srung FloatKind.f32.format c = (rg FloatKind.f32.format c : Int) := by
    unfold srung sg
    rw [show ngB FloatKind.f32.format c = false from q1]
    rfl
  have n0 : nanB .f32 0 = false := by decide +kernel
  have n1 : nanB .f32 1065353216 = false := by decide +kernel
  have e0 : srung FloatKind.f32.format 0 = 0 := by decide +kernel
  have e1 : srung FloatKind.f32.format 1065353216 = 1065353216 := by decide +kernel
  refine ⟨by rw [zlm]; exact fc, ⟨?_, z3z hn⟩, ?_, ?_⟩
  · show c < 2 ^ 32
    rw [hrc]; omega
  · rw [(z5u .f32 hn n0).2.2.2.1, hs, e0]
    exact decide_eq_false (by omega)
  · rw [(z5u .f32 hn n1).2.2.2.2.1, hs, e1]
    exact decide_eq_false (by omega)
end Go.Rf
