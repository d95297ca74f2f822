/-
  Plain laws.
-/
import Derived.Test.YtdhmognknjpemaaRotorsL3
set_option linter.unusedVariables false
set_option linter.unusedSimpArgs false
set_option maxRecDepth 100000
set_option maxHeartbeats 4000000
namespace Go.Rf
open Go
theorem plain_FnRotors {xs ys : List Int} (kx : ∀ x ∈ xs, bdI .u8 x) (mx : xs.length ≤ maxLen) (ky : ∀ x ∈ ys, bdI .u8 x) (my : ys.length ≤ maxLen) : zd1 xs.length xs ys.length ys = some true := by
  have hx := ybj kx
  have hy := ybj ky
  obtain ⟨as, ls, ds, l, count, q, e, hD, hc, hq, hr, hl, he, hF⟩ := yex (n := xs.length) hx
  have hlast := zpz hr
  have hqb : q + 4 * l.length ≤ 18 := by omega
  have htip : fop .add .f32 (q4 (lastQ q l)) (l8 e) = l8 (2 * lastQ q l + e) := by
    have := ydd ⟨(lastQ q l).toNat, by omega⟩ ⟨e.toNat, by omega⟩
    simp only at this
    rw [show (((lastQ q l).toNat : Int)) = lastQ q l by omega, show ((e.toNat : Int)) = e by omega] at this
    exact this
  rw [htip] at hF
  generalize ht : 2 * lastQ q l + e = t at hF
  have hall := y88 hq.1 hr hqb
  have gG := yc8 (t := t) hq.1 hr hqb (by omega)
  have gD := y84 (t := t) hq.1 hr hqb (by omega)
  have gT := y7z (t := t) hq.1 hr hqb (by omega)
  have hv := yb5 hD
  obtain ⟨tg, tl, td⟩ := yd7 hD
  obtain ⟨ca, cl, cd⟩ := ydi hD
  obtain ⟨v1, v2, v3, v4⟩ := zrh hv
  have z0 := ze5 l
  have z1 : (ringRow (l.map dbl)).length = l.length * 3 := by rw [ze5, List.length_map]
  have z2 : (ringRow (l.map twi)).length = l.length * 3 := by rw [ze5, List.length_map]
  have V0 := zyz hv hc hl (by omega) (by omega) gG
  have V1 : validRotorB as ls ds (ringRow (l.map dbl)) l.length count (q4 (2 * q)) (l8 (2 * t)) = true := by
    have := zyz (l := l.map dbl) hv hc (by rw [List.length_map]; exact hl) (q := 2 * q) (t := 2 * t) (by omega) (by omega) gD
    rwa [List.length_map] at this
  have V2 : validRotorB as ls ds (ringRow (l.map twi)) l.length count (q4 q) (l8 t) = true := by
    have := zyz (l := l.map twi) hv hc (by rw [List.length_map]; exact hl) (q := q) (t := t) (by omega) (by omega) gT
    rwa [List.length_map] at this
  -- the scaled one, the twisted one
  have eS : scaleL 1073741824 (ringRow l) l.length = ringRow (l.map dbl) := y6h l [] l rfl hall
  have eT : twistL 1031798784 (ringRow l) l.length = ringRow (l.map twi) := y5r l [] l rfl hall
  have eq2 : fop .mul .f32 1073741824 (q4 q) = q4 (2 * q) := by
    have := ye1 ⟨q.toNat, by omega⟩
    simp only at this
    rwa [show ((q.toNat : Int)) = q by omega] at this
  have et2 : fop .mul .f32 1073741824 (l8 t) = l8 (2 * t) := by
    have := yef ⟨t.toNat, by omega⟩
    simp only at this
    rwa [show ((t.toNat : Int)) = t by omega] at this
  have hScale : z1x as.length as ls.length ls ds.length ds l.length (ringRow l) count (q4 q) (l8 t) 1073741824 = some (as.length, ls.length, ds.length, l.length, count, q4 (2 * q), l8 (2 * t), true, as, ls, ds, ringRow (l.map dbl)) := by
    rw [y2l _ (by omega) (by omega) (by omega) z0 (by omega)]
    unfold scaleR giveR
    rw [V0, eS, eq2, et2, V1]
    rfl
  have hTwist : z21 as.length as ls.length ls ds.length ds l.length (ringRow l) count (q4 q) (l8 t) 1031798784 = some (as.length, ls.length, ds.length, l.length, count, q4 q, l8 t, true, as, ls, ds, ringRow (l.map twi)) := by
    rw [y2q _ (by omega) (by omega) (by omega) z0 (by omega)]
    unfold twistR giveR
    rw [V0, eT, V2]
    rfl
  -- the station
  obtain ⟨i, pi, qi, i0, i1⟩ := yae (m := ys.length) hy (i := 0) (n := Int.ofNat l.length) (.inl rfl) (by simp; omega)
  obtain ⟨k, pk, qk, k0, k1⟩ := yae (m := ys.length) hy (i := 1) (n := 60) (.inr rfl) (by omega)
  obtain ⟨j, rfl⟩ := Int.eq_ofNat_of_zero_le i0
  have hj : j < l.length := by simp at i1; omega
  obtain ⟨pre, a, c, w, r, hsplit, hpre⟩ := yfp hj
  have hm := hall (a, c, w) (by rw [hsplit]; simp)
  simp only at hm
  have hat : 2 * a < t := by
    have : ∀ (l : List (Int × Int × Int)) (q : Int), ringsG t q l → ∀ x ∈ l, 2 * x.1 < t := by
      intro l
      induction l with
      | nil => intro q _ x hx; cases hx
      | cons y r ih =>
        intro q h x hx
        obtain ⟨a', c', w'⟩ := y
        rcases List.mem_cons.1 hx with rfl | hx
        · exact h.1.2.2
        · exact ih _ h.2.2.2 x hx
    exact this l q gG (a, c, w) (by rw [hsplit]; simp)
  have hst : stationB l.length (j : Int) = true := by
    unfold stationB inB
    have : subI .i64 (Int.ofNat l.length) 1 = (l.length : Int) - 1 := z7s (by simp; omega) (by simp; omega)
    rw [this]
    simp only [leI, Bool.and_eq_true, decide_eq_true_eq]
    omega
  have hix := zpw hst (by omega)
  have ej : ixO 0 (j : Int) 3 = j * 3 := ix3 j
  obtain ⟨g0, g1, g2⟩ := zlp pre a c w r
  rw [← hsplit, hpre] at g0 g1 g2
  have hsD : l.map dbl = pre.map dbl ++ (2 * a, 2 * c, w) :: r.map dbl := by rw [hsplit]; simp [dbl]
  have hsT : l.map twi = pre.map twi ++ (a, c, w + 4) :: r.map twi := by rw [hsplit]; simp [twi]
  obtain ⟨d0, d1, d2⟩ := zlp (pre.map dbl) (2 * a) (2 * c) w (r.map dbl)
  rw [← hsD, List.length_map, hpre] at d0 d1 d2
  obtain ⟨w0, w1, w2⟩ := zlp (pre.map twi) a c (w + 4) (r.map twi)
  rw [← hsT, List.length_map, hpre] at w0 w1 w2
  -- how much is blade
  obtain ⟨so1, so2, so3, so4, so5⟩ := yev ⟨count.toNat, by omega⟩ ⟨c.toNat, by omega⟩ ⟨a.toNat, by omega⟩ (by simp only; omega) (by simp only; omega) (by simp only; omega)
  simp only at so1 so2 so3 so4 so5
  rw [show ((count.toNat : Int)) = count by omega, show ((c.toNat : Int)) = c by omega, show ((a.toNat : Int)) = a by omega] at so1 so2 so3 so4 so5
  have es0 : solid (ringRow l) count (j : Int) = solN count c a := by unfold solid solN gF; rw [ej, g0, g1]
  have es1 : solid (ringRow (l.map dbl)) count (j : Int) = solN count c a := by rw [← so3]; unfold solid solN gF; rw [ej, d0, d1]
  have hSol0 : z6n as.length as ls.length ls ds.length ds l.length (ringRow l) count (q4 q) (l8 t) (j : Int) = some (solN count c a, true) := by
    rw [zs4 _ z0 (by omega) (by omega)]
    unfold solidR
    rw [V0, hst, es0, so1, zr7 so1]
    rfl
  have hSol1 : z6n as.length as ls.length ls ds.length ds l.length (ringRow (l.map dbl)) count (q4 (2 * q)) (l8 (2 * t)) (j : Int) = some (solN count c a, true) := by
    rw [zs4 _ z1 (by omega) (by omega)]
    unfold solidR
    rw [V1, hst, es1, so1, zr7 so1]
    rfl
  -- the flow, the tip's share
  have ek : addI .i64 1 k = k + 1 := by
    have : addI .i64 1 k = 1 + k := z7s (by omega) (by omega)
    omega
  have efl : fop .quo .f32 (fOI .f32 (k + 1)) 1132462080 = flowN (k + 1) := rfl
  obtain ⟨fl1, ⟨fl2, fl3⟩, fl4⟩ := yds ⟨k.toNat, by omega⟩
  simp only at fl1 fl2 fl3 fl4
  rw [show ((k.toNat : Int)) = k by omega] at fl1 fl2 fl3 fl4
  obtain ⟨tp1, tp2, tp3, tp4⟩ := yey ⟨count.toNat, by omega⟩ ⟨t.toNat, by omega⟩ ⟨a.toNat, by omega⟩ (by simp only; omega) (by simp only; omega) (by simp only; omega)
  simp only at tp1 tp2 tp3 tp4
  rw [show ((count.toNat : Int)) = count by omega, show ((t.toNat : Int)) = t by omega, show ((a.toNat : Int)) = a by omega] at tp1 tp2 tp3 tp4
  obtain ⟨sh1, sh2, sh3, sh4⟩ := yf7 tp2 tp3 tp4 fl2 fl3
  have ew0 : tipS (ringRow l) count (l8 t) (j : Int) (sineT (flowN (k + 1))) = fop .quo .f32 (tipN count t a) (fop .add .f32 (tipN count t a) (sineT (flowN (k + 1)))) := by unfold tipS tipW tipN gF; rw [ej, g0]
  have ew1 : tipS (ringRow (l.map dbl)) count (l8 (2 * t)) (j : Int) (sineT (flowN (k + 1))) = fop .quo .f32 (tipN count t a) (fop .add .f32 (tipN count t a) (sineT (flowN (k + 1)))) := by rw [← tp1]; unfold tipS tipW tipN gF; rw [ej, d0]
  generalize hC : fop .quo .f32 (tipN count t a) (fop .add .f32 (tipN count t a) (sineT (flowN (k + 1)))) = C at sh1 sh2 sh3 sh4 ew0 ew1
  have hTip0 : z6o as.length as ls.length ls ds.length ds l.length (ringRow l) count (q4 q) (l8 t) (j : Int) (flowN (k + 1)) = some (C, true) := by
    rw [zy4 z0 (by omega) (by omega) V0 hst fl1, ew0, sh1, zr7 sh1]
  have hTip1 : z6o as.length as ls.length ls ds.length ds l.length (ringRow (l.map dbl)) count (q4 (2 * q)) (l8 (2 * t)) (j : Int) (flowN (k + 1)) = some (C, true) := by
    rw [zy4 z1 (by omega) (by omega) V1 hst fl1, ew1, sh1, zr7 sh1]
  -- pushes
  obtain ⟨an1, an2, an3⟩ := yew ⟨k.toNat, by omega⟩ ⟨(w + 8).toNat, by omega⟩
  simp only at an1 an2 an3
  rw [show ((k.toNat : Int)) = k by omega, show (((w + 8).toNat : Int)) - 8 = w by omega] at an1 an2 an3
  have ea0 : angB (ringRow l) (j : Int) 1031798784 (flowN (k + 1)) = fop .sub .f32 (fop .sub .f32 (flowN (k + 1)) (t64 w)) 1031798784 := by unfold angB gF; rw [ej, g2]
  have ea1 : angB (ringRow (l.map twi)) (j : Int) 0 (flowN (k + 1)) = fop .sub .f32 (fop .sub .f32 (flowN (k + 1)) (t64 w)) 1031798784 := by rw [← an1]; unfold angB gF; rw [ej, w2]
  obtain ⟨lv, lv1, lv2⟩ := ydq (xs := ls) hv tg tl an2 an3 v3
  obtain ⟨dv, dv1, dv2⟩ := ydq (xs := ds) hv tg td an2 an3 v4
  have pu0 := y7q (count := count) (hub := q4 q) (tip := l8 t) z0 hix ea0 lv1 dv1
  have pu1 := y7q (count := count) (hub := q4 q) (tip := l8 t) z2 hix ea1 lv1 dv1
  have mm : ∀ {u s : Nat}, rg FloatKind.f32.format u ≤ 1182793728 → rg FloatKind.f32.format s ≤ 1065353216 → rg FloatKind.f32.format (fop .mul .f32 u s) ≤ 1182793728 := fun hu hs => zxv (N := 149) hu hs (by decide) (by decide) (by decide +kernel) (by decide +kernel)
  have fA : finB (fop .add .f32 (fop .mul .f32 lv (sineT (fop .add .f32 (flowN (k + 1)) 1048576000))) (fop .mul .f32 dv (sineT (flowN (k + 1))))) = true := by
    rw [zlm]
    exact z2b (zxk (c := 1191182336) (mm lv2 fl4) (mm dv2 fl3) (by decide) (by decide) (by decide +kernel)) (by decide)
  have fB : finB (fop .sub .f32 (fop .mul .f32 lv (sineT (flowN (k + 1)))) (fop .mul .f32 dv (sineT (fop .add .f32 (flowN (k + 1)) 1048576000)))) = true := by
    rw [zlm]
    exact z2b (zqe (c := 1191182336) (mm lv2 fl3) (mm dv2 fl4) (by decide) (by decide) (by decide +kernel)) (by decide)
  generalize fop .add .f32 (fop .mul .f32 lv (sineT (fop .add .f32 (flowN (k + 1)) 1048576000))) (fop .mul .f32 dv (sineT (flowN (k + 1)))) = PA at pu0 pu1 fA
  generalize fop .sub .f32 (fop .mul .f32 lv (sineT (flowN (k + 1)))) (fop .mul .f32 dv (sineT (fop .add .f32 (flowN (k + 1)) 1048576000))) = PB at pu0 pu1 fB
  have b16 : finB 1031798784 = true := by decide +kernel
  have b00 : finB 0 = true := by decide +kernel
  have hP0 := y1h z0 (by omega) (by omega) V0 hst fl1 b16 (by rw [ea0]; exact an2) pu0 fA fB
  have hP1 := y1h z2 (by omega) (by omega) V2 hst fl1 b00 (by rw [ea1]; exact an2) pu1 fA fB
  obtain ⟨gp1, gp2⟩ := yad (x := PA) (by rw [← zlm]; exact fA)
  obtain ⟨gp3, gp4⟩ := yad (x := PB) (by rw [← zlm]; exact fB)
  -- tip ratios
  obtain ⟨ra1, ra2, ra3⟩ := ycj ⟨t.toNat, by omega⟩
  simp only at ra1 ra2 ra3
  rw [show ((t.toNat : Int)) = t by omega] at ra1 ra2 ra3
  have p2 : posB 1073741824 = true := by decide +kernel
  have p1 : posB 1065353216 = true := by decide +kernel
  have hR0 : z8g as.length as ls.length ls ds.length ds l.length (ringRow l) count (q4 q) (l8 t) 1073741824 1065353216 = some (fop .quo .f32 (fop .mul .f32 1065353216 (l8 t)) 1073741824, true) := by
    rw [zui _ _ z0 (by omega) (by omega)]
    unfold tipR
    rw [V0, p2, p1, ra1, zr7 ra1]
    rfl
  have hR1 : z8g as.length as ls.length ls ds.length ds l.length (ringRow l) count (q4 q) (l8 t) 1065353216 1065353216 = some (fop .quo .f32 (fop .mul .f32 1065353216 (l8 t)) 1065353216, true) := by
    rw [zui _ _ z0 (by omega) (by omega)]
    unfold tipR
    rw [V0, p1, ra2, zr7 ra2]
    rfl
  -- the even rotor
  obtain ⟨ev1, ev2, ev3, ev4, ev5, ev6, ev7, ev8, ev9, ev10⟩ := ydb
  have hcount : inB count 1 6 = true := by
    unfold inB
    simp only [leI, Bool.and_eq_true, decide_eq_true_eq]
    omega
  have VE : validRotorB as ls ds evenE 4 count 1065353216 1077936128 = true := by
    unfold validRotorB
    rw [hv, hcount, ev1, ev2, ev3]
    rfl
  have hEven : z2f as.length as ls.length ls ds.length ds count 4 1065353216 1077936128 1048576000 0 = some (as.length, ls.length, ds.length, 4, count, 1065353216, 1077936128, true, as, ls, ds, evenE) := by
    rw [y3g _ _ _ _ _ _ (by omega) (by omega) (by omega)]
    unfold evenR giveR
    rw [show inB 4 2 12 = true from rfl, if_pos rfl]
    show some (if validRotorB as ls ds evenE 4 count 1065353216 1077936128 = true then _ else _) = _
    rw [VE]
    rfl
  have zE : evenE.length = 4 * 3 := zw6 _ _ _ _ _ _
  have hSet : z1w as.length as ls.length ls ds.length ds 4 evenE count 1065353216 1077936128 2 (gF evenE (ixO 0 2 3)) (gF evenE (Nat.succ (ixO 0 2 3))) (gF evenE (Nat.succ (Nat.succ (ixO 0 2 3)))) = some (as.length, ls.length, ds.length, 4, count, 1065353216, 1077936128, true, as, ls, ds, evenE) := by
    rw [y2a _ _ _ _ (by omega) (by omega) (by omega) zE (by omega)]
    unfold setR giveR
    rw [VE, ev8, ev4, VE]
    rfl
  have hSame : z9v as.length as ls.length ls ds.length ds 4 evenE count 1065353216 1077936128 as.length as ls.length ls ds.length ds 4 evenE count 1065353216 1077936128 = some true := by
    rw [y3e ca cl cd zE (zxa ev5) ev9 ev10 ca cl cd zE (zxa ev5) ev9 ev10 (by omega) (by omega) (by omega) (by omega), yaj]
  -- all together
  obtain ⟨B0, B1, B2, B3, B4, B5, B6, B7, B8, B9, B10, B11⟩ := y4j hF
  obtain ⟨S0, S1, S2, S3, S4, S5, S6, S7, S8, S9, S10, S11, S12⟩ := y27 hScale
  obtain ⟨W0, W1, W2, W3, W4, W5, W6, W7, W8, W9, W10, W11, W12⟩ := y2n hTwist
  obtain ⟨SA0, SA1, SA2⟩ := zs3 hSol0
  obtain ⟨SB0, SB1, SB2⟩ := zs3 hSol1
  obtain ⟨TA0, TA1, TA2⟩ := zsi hTip0
  obtain ⟨TB0, TB1, TB2⟩ := zsi hTip1
  obtain ⟨PA0, PA1, PA2, PA3⟩ := zun hP0
  obtain ⟨PB0, PB1, PB2, PB3⟩ := zun hP1
  obtain ⟨RA0, RA1, RA2⟩ := zv8 hR0
  obtain ⟨RB0, RB1, RB2⟩ := zv8 hR1
  obtain ⟨VR0, VR1⟩ := z3x (z3y (as := as) (st := ringRow l) (n := l.length) (count := count) (hub := q4 q) (tip := l8 t) (show ls.length < 281474976710656 by omega) (show ds.length < 281474976710656 by omega))
  rw [V0] at VR1
  obtain ⟨NA0, NA1⟩ := zq0 (x := solN count c a) ⟨so4, so5⟩
  obtain ⟨NB0, NB1⟩ := zq0 sh2
  obtain ⟨E0, E1, E2, E3, E4, E5, E6, E7, E8, E9, E10, E11, E12⟩ := y3j hEven
  obtain ⟨T0, T1, T2, T3, T4, T5, T6, T7, T8, T9, T10, T11, T12⟩ := y2f hSet
  obtain ⟨X0, X1⟩ := y3c hSame
  obtain ⟨L0, L1⟩ := y5m (show zeg xs.length xs ys.length ys = some (ltI 1048576 (Int.ofNat xs.length) || ltI 1048576 (Int.ofNat ys.length)) by
    unfold zeg zen
    cases ltI 1048576 (Int.ofNat xs.length) <;> rfl)
  have pz0 : pF (ringRow l) 0 (muN l.length 3) = ringRow l := z8h z0
  have pz1 : pF (ringRow (l.map dbl)) 0 (muN l.length 3) = ringRow (l.map dbl) := z8h z1
  have pz2 : pF (ringRow (l.map twi)) 0 (muN l.length 3) = ringRow (l.map twi) := z8h z2
  have pzE : pF evenE 0 (muN 4 3) = evenE := z8h zE
  have hch : fcmp .neq .f32 (gF (ringRow (l.map twi)) (Nat.succ (ixO 0 (j : Int) 3))) (gF (ringRow l) (Nat.succ (ixO 0 (j : Int) 3))) = false := by
    rw [ej]
    unfold gF
    rw [w1, g1]
    have hn : nanB .f32 (l8 c) = false := by
      have := ye3 ⟨c.toNat, by omega⟩
      simp only at this
      rw [show ((c.toNat : Int)) = c by omega, zlm] at this
      exact z4u this
    rw [y01, hn]
  have o2 : okIx 2 4 = true := rfl
  have o0 : okIx 0 4 = true := rfl
  have o3 : okIx 3 4 = true := rfl
  have e4 : eqI (Int.ofNat 4) 4 = true := rfl
  unfold zd1 zcn
  simp only [laws_FnRotors_c0, laws_FnRotors_c1, laws_FnRotors_c2, laws_FnRotors_c3, laws_FnRotors_c4, laws_FnRotors_c5, laws_FnRotors_c6, laws_FnRotors_c7, laws_FnRotors_c8, laws_FnRotors_c9, laws_FnRotors_c10, laws_FnRotors_c11, laws_FnRotors_c12, laws_FnRotors_c13, laws_FnRotors_c14, laws_FnRotors_c15, laws_FnRotors_c16, laws_FnRotors_c17, laws_FnRotors_c18, laws_FnRotors_c19, laws_FnRotors_c20, laws_FnRotors_c21, laws_FnRotors_c22, laws_FnRotors_c23, laws_FnRotors_c24, laws_FnRotors_c25, laws_FnRotors_c26, laws_FnRotors_c27, laws_FnRotors_c28, laws_FnRotors_c29, laws_FnRotors_c30, laws_FnRotors_c31, laws_FnRotors_c32, laws_FnRotors_c33, laws_FnRotors_c34, laws_FnRotors_c35, laws_FnRotors_c36, laws_FnRotors_c37, laws_FnRotors_c38, laws_FnRotors_c39, laws_FnRotors_c40, laws_FnRotors_c41, laws_FnRotors_c42, laws_FnRotors_c43, laws_FnRotors_c44, laws_FnRotors_c45, laws_FnRotors_c46, laws_FnRotors_c47, laws_FnRotors_c48, laws_FnRotors_c49, laws_FnRotors_c50, laws_FnRotors_c51, laws_FnRotors_c52, laws_FnRotors_c53, laws_FnRotors_c54, laws_FnRotors_c55, laws_FnRotors_c56, laws_FnRotors_c57, laws_FnRotors_c58, laws_FnRotors_c59, laws_FnRotors_c60, laws_FnRotors_c61, laws_FnRotors_c62, laws_FnRotors_c63, laws_FnRotors_c64, yh0, L0, L1, z0w]
  cases (ltI 1048576 (Int.ofNat xs.length) || ltI 1048576 (Int.ofNat ys.length))
  · simp only [B0, B1, B2, B3, B4, B5, B6, B7, B8, B9, B10, B11, z5r, pz0, pz1, pz2, pzE, pi, qi, pk, qk, ek, efl, S0, S1, S2, S3, S4, S5, S6, S7, S8, S9, S10, S11, S12, W0, W1, W2, W3, W4, W5, W6, W7, W8, W9, W10, W11, W12, SA0, SA1, SA2, SB0, SB1, SB2, TA0, TA1, TA2, TB0, TB1, TB2, PA0, PA1, PA2, PA3, PB0, PB1, PB2, PB3, RA0, RA1, RA2, RB0, RB1, RB2, VR0, VR1, NA0, NA1, NB0, NB1, sh3, sh4, so2, gp1, gp2, gp3, gp4, ra3, hix, hch, E0, E1, E2, E3, E4, E5, E6, E7, E8, E9, E10, E11, E12, T0, T1, T2, T3, T4, T5, T6, T7, T8, T9, T10, T11, T12, X0, X1, o0, o2, o3, e4, ev6, ev7, z0w, zkv, zax, z7m]
  · rfl
end Go.Rf
