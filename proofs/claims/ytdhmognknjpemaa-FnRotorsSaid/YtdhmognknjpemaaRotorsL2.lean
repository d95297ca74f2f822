/-
  Plain laws.
-/
import Derived.Test.YtdhmognknjpemaaRotorsL1
set_option linter.unusedVariables false
set_option linter.unusedSimpArgs false
set_option maxRecDepth 100000
set_option maxHeartbeats 4000000
namespace Go.Rf
open Go
theorem ydv {as ls ds : List Nat} {j : Nat} (hv : validProfB as ls ds = true) (hj : j ≤ as.length) : finW .f32 (pairR as j).2.2.1 = true ∧ finW .f32 (pairR as j).2.2.2 = true ∧ (pairR as j).1 < as.length ∧ (pairR as j).2.1 < as.length := by
  obtain ⟨c1, c2, c3, c4⟩ := zrh hv
  have hk := y6i hv
  have hf : ∀ i, i < as.length → rg FloatKind.f32.format (as.getD i 0) ≤ 1056964608 := fun i hi => zy3 (hk i hi)
  have h1 : ∀ i, i < as.length → finW .f32 (as.getD i 0) = true := fun i hi => z2b (hf i hi) (by decide +kernel)
  unfold pairR
  split
  · refine ⟨?_, h1 0 (by omega), by show as.length - 1 < as.length; omega, by show 0 < as.length; omega⟩
    exact z2b (zqe (c := 1073741824) (hf _ (by omega)) (show rg FloatKind.f32.format 1065353216 ≤ 1065353216 by decide +kernel) (by decide +kernel) (by decide +kernel) (by decide +kernel)) (by decide +kernel)
  · split
    · refine ⟨h1 _ (by omega), ?_, by show as.length - 1 < as.length; omega, by show 0 < as.length; omega⟩
      exact z2b (zxk (c := 1073741824) (hf _ (by omega)) (show rg FloatKind.f32.format 1065353216 ≤ 1065353216 by decide +kernel) (by decide +kernel) (by decide +kernel) (by decide +kernel)) (by decide +kernel)
    · exact ⟨h1 _ (by omega), h1 _ (by omega), by show j - 1 < as.length; omega, by show j < as.length; omega⟩
noncomputable def tipW (st : List Nat) (count : Int) (tip : Nat) (i : Int) : Nat := fop .quo .f32 (fop .mul .f32 (fOI .f32 count) (fop .sub .f32 tip (gF st (ixO 0 i 3)))) (fop .mul .f32 1073741824 (gF st (ixO 0 i 3)))
noncomputable def tipS (st : List Nat) (count : Int) (tip : Nat) (i : Int) (s : Nat) : Nat := fop .quo .f32 (tipW st count tip i) (fop .add .f32 (tipW st count tip i) s)
theorem ybu {as ls ds st : List Nat} {n : Nat} {count : Int} {hub tip : Nat} (h : validRotorB as ls ds st n count hub tip = true) : n ≤ 12 := by
  unfold validRotorB at h
  simp only [Bool.and_eq_true, decide_eq_true_eq] at h
  exact h.2.2.2.1
def flowB (x : Nat) : Bool := fromToB x 981668463 1048508891
theorem zyo (x : Nat) : zgb x = some (flowB x) := by
  obtain ⟨p, q⟩ := zus (zuv x 981668463 1048508891)
  unfold zgb zgc
  rw [p, q]; rfl
theorem zvi {xs : List Nat} {n : Nat} (z : xs.length = n * 3) (hl : n ≤ 1099511627776) : z1u n xs = some (n, xs) := by
  have hst : pF xs 0 (muN n 3) = xs := z8h z
  have ho : okA2 0 n 12 (nF xs) (nF []) 3 = true := decide_eq_true ⟨by omega, by omega, by simp [nF, z], by simp [nF]⟩
  unfold z1u z2s
  rw [hst, ho, yal]
  · show some (0 + n, xs) = _
    rw [Nat.zero_add]
  · intro h
    have h0 : n = 0 := of_decide_eq_true h
    subst h0
    obtain rfl := List.eq_nil_of_length_eq_zero (show xs.length = 0 by omega)
    rfl
theorem zo3 {as ls ds st : List Nat} {n : Nat} {count : Int} {hub tip : Nat} (ha : as.length ≤ 1099511627776) (hl : ls.length ≤ 1099511627776) (hd : ds.length ≤ 1099511627776) (z : st.length = n * 3) (hn : n ≤ 1099511627776) :
    z45 as.length as ls.length ls ds.length ds n st count hub tip = some (as.length, ls.length, ds.length, n, as, ls, ds, st) := by
  have hst : pF st 0 (muN n 3) = st := z8h z
  obtain ⟨e0, e1, e2, e3, e4, e5, e6⟩ := zr4 (zr2 ha hl hd)
  obtain ⟨c0, c1, c2⟩ := zk8 (zvi z hn)
  unfold z45 zc4
  simp only [z5r, hst, e0, e1, e2, e3, e4, e5, e6, c0, c1, c2, z0w]
abbrev RotR := Nat × Nat × Nat × Nat × Int × Nat × Nat × Bool × List Nat × List Nat × List Nat × List Nat
def noneR : RotR := (0, 0, 0, 0, 0, 0, 0, false, [], [], [], [])
def giveR (as ls ds st : List Nat) (n : Nat) (count : Int) (hub tip : Nat) : RotR :=
  if validRotorB as ls ds st n count hub tip = true then (as.length, ls.length, ds.length, n, count, hub, tip, true, as, ls, ds, st) else noneR
theorem y4v {f : Nat → List Nat → List Nat} (h : ∀ i s, (f i s).length = s.length) : ∀ k i (s : List Nat), ((List.range' i k).foldl (fun s j => f j s) s).length = s.length
  | 0, i, s => by simp
  | k + 1, i, s => by rw [List.range'_succ, List.foldl_cons, y4v h k (i + 1), h]
def setSt (st : List Nat) (i : Int) (a b c : Nat) : List Nat := ((st.set (ixO 0 i 3) a).set (Nat.succ (ixO 0 i 3)) b).set (Nat.succ (Nat.succ (ixO 0 i 3))) c
def setR (as ls ds st : List Nat) (n : Nat) (count : Int) (hub tip : Nat) (i : Int) (a b c : Nat) : RotR :=
  if validRotorB as ls ds st n count hub tip = true then (if stationB n i = true then giveR as ls ds (setSt st i a b c) n count hub tip else noneR) else noneR
theorem ydu {st : List Nat} {n : Nat} (z : st.length = n * 3) (i : Int) (a b c : Nat) : (setSt st i a b c).length = n * 3 := by unfold setSt; simp [z]
theorem y2a {as ls ds st : List Nat} {n : Nat} {count : Int} {hub tip : Nat} (i : Int) (a b c : Nat) (ha : as.length ≤ 1099511627776) (hl : ls.length ≤ 1099511627776) (hd : ds.length ≤ 1099511627776) (z : st.length = n * 3) (hn : n ≤ 1099511627776) :
    z1w as.length as ls.length ls ds.length ds n st count hub tip i a b c = some (setR as ls ds st n count hub tip i a b c) := by
  have hst : pF st 0 (muN n 3) = st := z8h z
  have hs : pF (setSt st i a b c) 0 (muN n 3) = setSt st i a b c := z8h (ydu z i a b c)
  obtain ⟨p1, q1⟩ := z3x (z3y (as := as) (st := st) (n := n) (count := count) (hub := hub) (tip := tip) (show ls.length < 281474976710656 by omega) (show ds.length < 281474976710656 by omega))
  obtain ⟨p2, q2⟩ := zbh (zbi (as := as) (ls := ls) (ds := ds) (st := st) (n := n) (count := count) (hub := hub) (tip := tip) i)
  obtain ⟨e0, e1, e2, e3, e4, e5, e6, e7, e8⟩ := znr (zo3 (count := count) (hub := hub) (tip := tip) ha hl hd z hn)
  obtain ⟨p3, q3⟩ := z3x (z3y (as := as) (st := setSt st i a b c) (n := n) (count := count) (hub := hub) (tip := tip) (show ls.length < 281474976710656 by omega) (show ds.length < 281474976710656 by omega))
  have hx : (sF (sF (sF st (ixO 0 i 3) a) (Nat.succ (ixO 0 i 3)) b) (Nat.succ (Nat.succ (ixO 0 i 3))) c) = setSt st i a b c := rfl
  unfold z1w zar setR
  simp only [z5r, hst, p1, q1, p2, q2, z0w]
  cases validRotorB as ls ds st n count hub tip
  · rfl
  · cases hi : stationB n i
    · rfl
    · have hix := zpw hi hn
      simp only [e0, e1, e2, e3, e4, e5, e6, e7, e8, hix, z5r, hst, hx, hs, p3, q3, z0w, zkv, z7m, if_true]
      unfold giveR
      cases validRotorB as ls ds (setSt st i a b c) n count hub tip <;> rfl
def twistF (y : Nat) (i : Nat) (s : List Nat) : List Nat := s.set (Nat.succ (Nat.succ (i * 3))) (fop .add .f32 (s.getD (Nat.succ (Nat.succ (i * 3))) 0) y)
def twistL (y : Nat) (st : List Nat) (n : Nat) : List Nat := (List.range' 0 n).foldl (fun s j => twistF y j s) st
theorem yco (y : Nat) {st : List Nat} {n : Nat} (z : st.length = n * 3) : (twistL y st n).length = n * 3 := by
  unfold twistL; rw [y4v (fun i s => by unfold twistF; simp), z]
theorem y61 (y : Nat) (st : List Nat) {n : Nat} (hn : n ≤ 1099511627776) : z1p y (Int.ofNat n) n big 0 st = some (Int.ofNat n, false, twistL y st n) :=
  folds (L := fun m i s => z1p y (Int.ofNat n) n m i s) (len := n) (twistF y) (e := fun s => (Int.ofNat n, false, s))
    (fun m i s hi => by
      show z1p _ _ _ _ _ _ = z1p _ _ _ _ _ _
      rw [zm0]; unfold z50
      rw [ltN_t hi, z90 hi, ix3, addI1 (by omega)]; rfl)
    (fun m s => by show z1p _ _ _ _ _ _ = _; rw [zm0]; unfold z50; rw [ltN_f (Nat.le_refl _)]; rfl) n 0 big st (by omega) (zdc (by omega))
def twistR (as ls ds st : List Nat) (n : Nat) (count : Int) (hub tip : Nat) (y : Nat) : RotR :=
  if validRotorB as ls ds st n count hub tip = true then giveR as ls ds (twistL y st n) n count hub tip else noneR
theorem y2q {as ls ds st : List Nat} {n : Nat} {count : Int} {hub tip : Nat} (y : Nat) (ha : as.length ≤ 1099511627776) (hl : ls.length ≤ 1099511627776) (hd : ds.length ≤ 1099511627776) (z : st.length = n * 3) (hn : n ≤ 1099511627776) :
    z21 as.length as ls.length ls ds.length ds n st count hub tip y = some (twistR as ls ds st n count hub tip y) := by
  have hst : pF st 0 (muN n 3) = st := z8h z
  have hs : pF (twistL y st n) 0 (muN n 3) = twistL y st n := z8h (yco y z)
  obtain ⟨p1, q1⟩ := z3x (z3y (as := as) (st := st) (n := n) (count := count) (hub := hub) (tip := tip) (show ls.length < 281474976710656 by omega) (show ds.length < 281474976710656 by omega))
  obtain ⟨e0, e1, e2, e3, e4, e5, e6, e7, e8⟩ := znr (zo3 (count := count) (hub := hub) (tip := tip) ha hl hd z hn)
  obtain ⟨p3, q3⟩ := z3x (z3y (as := as) (st := twistL y st n) (n := n) (count := count) (hub := hub) (tip := tip) (show ls.length < 281474976710656 by omega) (show ds.length < 281474976710656 by omega))
  obtain ⟨g1, _, _, g2⟩ := zwk rfl (y61 y st hn)
  unfold z21 zb7 twistR
  simp only [z5r, hst, p1, q1, z0w]
  cases validRotorB as ls ds st n count hub tip
  · rfl
  · simp only [e0, e1, e2, e3, e4, e5, e6, e7, e8, z5r, hst, g1, g2, hs, p3, q3, z0w, zkv, z7m, if_true]
    unfold giveR
    cases validRotorB as ls ds (twistL y st n) n count hub tip <;> rfl
def scaleF (y : Nat) (st : List Nat) (i : Nat) (s : List Nat) : List Nat := (s.set (i * 3) (fop .mul .f32 y (st.getD (i * 3) 0))).set (Nat.succ (i * 3)) (fop .mul .f32 y (st.getD (Nat.succ (i * 3)) 0))
def scaleL (y : Nat) (st : List Nat) (n : Nat) : List Nat := (List.range' 0 n).foldl (fun s j => scaleF y st j s) st
theorem ycq (y : Nat) {st : List Nat} {n : Nat} (z : st.length = n * 3) : (scaleL y st n).length = n * 3 := by
  unfold scaleL; rw [y4v (fun i s => by unfold scaleF; simp), z]
theorem y6m (y : Nat) (st : List Nat) {n : Nat} (hn : n ≤ 1099511627776) : z1o y n (Int.ofNat n) st n big 0 st = some (Int.ofNat n, false, scaleL y st n) :=
  folds (L := fun m i s => z1o y n (Int.ofNat n) st n m i s) (len := n) (scaleF y st) (e := fun s => (Int.ofNat n, false, s))
    (fun m i s hi => by
      show z1o _ _ _ _ _ _ _ _ = z1o _ _ _ _ _ _ _ _
      rw [zlv]; unfold z52
      rw [ltN_t hi, z90 hi, ix3, addI1 (by omega)]; rfl)
    (fun m s => by show z1o _ _ _ _ _ _ _ _ = _; rw [zlv]; unfold z52; rw [ltN_f (Nat.le_refl _)]; rfl) n 0 big st (by omega) (zdc (by omega))
def scaleR (as ls ds st : List Nat) (n : Nat) (count : Int) (hub tip : Nat) (y : Nat) : RotR :=
  if validRotorB as ls ds st n count hub tip = true then giveR as ls ds (scaleL y st n) n count (fop .mul .f32 y hub) (fop .mul .f32 y tip) else noneR
theorem y2l {as ls ds st : List Nat} {n : Nat} {count : Int} {hub tip : Nat} (y : Nat) (ha : as.length ≤ 1099511627776) (hl : ls.length ≤ 1099511627776) (hd : ds.length ≤ 1099511627776) (z : st.length = n * 3) (hn : n ≤ 1099511627776) :
    z1x as.length as ls.length ls ds.length ds n st count hub tip y = some (scaleR as ls ds st n count hub tip y) := by
  have hst : pF st 0 (muN n 3) = st := z8h z
  have hs : pF (scaleL y st n) 0 (muN n 3) = scaleL y st n := z8h (ycq y z)
  obtain ⟨p1, q1⟩ := z3x (z3y (as := as) (st := st) (n := n) (count := count) (hub := hub) (tip := tip) (show ls.length < 281474976710656 by omega) (show ds.length < 281474976710656 by omega))
  obtain ⟨e0, e1, e2, e3, e4, e5, e6, e7, e8⟩ := znr (zo3 (count := count) (hub := hub) (tip := tip) ha hl hd z hn)
  obtain ⟨p3, q3⟩ := z3x (z3y (as := as) (st := scaleL y st n) (n := n) (count := count) (hub := fop .mul .f32 y hub) (tip := fop .mul .f32 y tip) (show ls.length < 281474976710656 by omega) (show ds.length < 281474976710656 by omega))
  obtain ⟨g1, _, _, g2⟩ := zwa rfl (y6m y st hn)
  unfold z1x zao scaleR
  simp only [z5r, hst, p1, q1, z0w]
  cases validRotorB as ls ds st n count hub tip
  · rfl
  · simp only [e0, e1, e2, e3, e4, e5, e6, e7, e8, z5r, hst, g1, g2, hs, p3, q3, z0w, zkv, z7m, if_true]
    unfold giveR
    cases validRotorB as ls ds (scaleL y st n) n count (fop .mul .f32 y hub) (fop .mul .f32 y tip) <;> rfl
def evenRow (hub tip chord twist n i : Nat) : List Nat := [fop .add .f32 hub (fop .mul .f32 (fop .sub .f32 tip hub) (fop .quo .f32 (fop .add .f32 (fOI .f32 (Int.ofNat i)) 1056964608) (fOI .f32 (Int.ofNat n)))), chord, twist]
def evenL (hub tip chord twist n : Nat) : Nat → List Nat
  | 0 => []
  | i + 1 => evenL hub tip chord twist n i ++ evenRow hub tip chord twist n i
theorem zw6 (hub tip chord twist n : Nat) : ∀ i, (evenL hub tip chord twist n i).length = i * 3
  | 0 => rfl
  | i + 1 => by rw [evenL, List.length_append, zw6, Nat.add_mul]; rfl
theorem yec {n : Nat} {b : List Nat} (l : List Nat) (hl : l.length = 3) (hb : b.length = n * 3) (hn : n < 1099511627776) : okA2 n 1 12 (nF (pF l 0 (muN 1 3))) (nF b) 3 = true :=
  decide_eq_true ⟨by omega, by omega, by simp [nF, pF, muN, hl], by simp [nF, hb]⟩
theorem y7b (hub tip chord twist : Nat) {n : Nat} (hn : n ≤ 12) : z1n (Int.ofNat n) hub tip chord twist (Int.ofNat n) big 0 0 [] = some (Int.ofNat n, false, n, evenL hub tip chord twist n n) := by
  have := runs (L := fun m i => z1n (Int.ofNat n) hub tip chord twist (Int.ofNat n) m i i.toNat (evenL hub tip chord twist n i.toNat)) (len := n) (e := (Int.ofNat n, false, n, evenL hub tip chord twist n n))
    (fun m i hi => by
      show z1n _ _ _ _ _ _ _ _ i (evenL hub tip chord twist n i) = z1n _ _ _ _ _ _ _ _ (i + 1) (evenL hub tip chord twist n (i + 1))
      rw [zmu]; unfold z5i
      rw [ltN_t hi, addI1 (by omega), yec _ rfl (zw6 hub tip chord twist n i) (by omega)]
      rfl)
    (fun m => by
      show z1n _ _ _ _ _ _ _ _ n (evenL hub tip chord twist n n) = _
      rw [zmu]; unfold z5i
      rw [ltN_f (Nat.le_refl _), z7m]) (by omega)
  exact this
def evenR (as ls ds : List Nat) (count stations : Int) (hub tip chord twist : Nat) : RotR :=
  if inB stations 2 12 = true then giveR as ls ds (evenL hub tip chord twist stations.toNat stations.toNat) stations.toNat count hub tip else noneR
theorem y3g {as ls ds : List Nat} (count stations : Int) (hub tip chord twist : Nat) (ha : as.length ≤ 1099511627776) (hl : ls.length ≤ 1099511627776) (hd : ds.length ≤ 1099511627776) :
    z2f as.length as ls.length ls ds.length ds count stations hub tip chord twist = some (evenR as ls ds count stations hub tip chord twist) := by
  obtain ⟨p1, q1⟩ := zrg (zrr stations 2 12)
  obtain ⟨e0, e1, e2, e3, e4, e5, e6⟩ := zr4 (zr2 ha hl hd)
  unfold z2f zc6 evenR
  simp only [z5r, p1, q1, z0w]
  cases hc : inB stations 2 12
  · rfl
  · have h2 := ye5 hc
    obtain ⟨n, rfl⟩ := Int.eq_ofNat_of_zero_le (show 0 ≤ stations by omega)
    have hn : n ≤ 12 := by omega
    have hs : pF (evenL hub tip chord twist n n) 0 (muN n 3) = evenL hub tip chord twist n n := z8h (zw6 _ _ _ _ _ _)
    obtain ⟨p3, q3⟩ := z3x (z3y (as := as) (st := evenL hub tip chord twist n n) (n := n) (count := count) (hub := hub) (tip := tip) (show ls.length < 281474976710656 by omega) (show ds.length < 281474976710656 by omega))
    obtain ⟨g1, _, _, g2, g3⟩ := zx8 rfl (y7b hub tip chord twist hn)
    have en : ((n : Int)) = Int.ofNat n := rfl
    simp only [en, e0, e1, e2, e3, e4, e5, e6, z5r, g1, g2, g3, hs, p3, q3, z0w, zkv, z7m, if_true]
    unfold giveR
    show br (!validRotorB as ls ds (evenL hub tip chord twist n n) n count hub tip) _ _ = some (if validRotorB as ls ds (evenL hub tip chord twist n n) n count hub tip = true then _ else _)
    cases validRotorB as ls ds (evenL hub tip chord twist n n) n count hub tip <;> rfl
def angB (st : List Nat) (i : Int) (pitch x : Nat) : Nat := fop .sub .f32 (fop .sub .f32 x (gF st (Nat.succ (Nat.succ (ixO 0 i 3))))) pitch
theorem y1o (x y : Nat) : z82 x y = some (if (finB x && finB y) = true then (x, y, true) else (0, 0, false)) := by
  obtain ⟨p, q⟩ := zt4 (show z9r 2 (pF [x, y] 0 (muN 2 1)) = some ([x, y].all finB) from zt6 (xs := [x, y]) (by simp))
  unfold z82 zb1
  rw [p, q]
  simp only [List.all_cons, List.all_nil, Bool.and_true, z0w]
  cases finB x <;> cases finB y <;> rfl
def byteL (xs : List Int) : Prop := ∀ x ∈ xs, 0 ≤ x ∧ x ≤ 255
theorem y89 {xs : List Int} (h : byteL xs) (k : Nat) : 0 ≤ xs.getD k 0 ∧ xs.getD k 0 ≤ 255 := by
  rw [List.getD_eq_getElem?_getD]
  cases hk : xs[k]? with
  | none => exact ⟨by simp, by simp⟩
  | some x => exact h x (List.mem_of_getElem? hk)
theorem ye7 {n : Nat} (h : n ≤ 255) : IntKind.u64.wrap (n : Int) = n := by
  unfold IntKind.wrap
  simp [IntKind.signed, IntKind.bits]
  omega
theorem ydl (x : Int) : 0 ≤ bitI .and .u64 x 255 ∧ bitI .and .u64 x 255 ≤ 255 := by
  have hle : (BitVec.ofInt 64 x &&& BitVec.ofInt 64 255).toNat ≤ 255 := by
    rw [BitVec.toNat_and]
    exact Nat.le_trans Nat.and_le_right (by decide)
  have e : bitI .and .u64 x 255 = ((BitVec.ofInt 64 x &&& BitVec.ofInt 64 255).toNat : Int) := ye7 hle
  rw [e]
  omega
def nxO (b0 : List Int) (b2_0n : Nat) (b2_1 b2_2 : Int) : Option (Int × Int × Int) :=
  (br (ltI b2_1 (Int.ofNat b2_0n)) (grd (okIx b2_1 b2_0n) (br (leI (addI IntKind.i64 b2_1 1) (Int.ofNat b2_0n)) (some (cvI IntKind.i64 (gI b0 (ixO 0 b2_1 1)), addI IntKind.i64 b2_1 1, addI IntKind.u64 (addI IntKind.u64 (mulI IntKind.u64 b2_2 6364136223846793005) (cvI IntKind.u64 (cvI IntKind.i64 (gI b0 (ixO 0 b2_1 1))))) 1442695040888963407)) (some (cvI IntKind.i64 (bitI BinOp.and IntKind.u64 (shI Bool.false IntKind.u64 (addI IntKind.u64 (addI IntKind.u64 (mulI IntKind.u64 b2_2 6364136223846793005) (cvI IntKind.u64 (cvI IntKind.i64 (gI b0 (ixO 0 b2_1 1))))) 1442695040888963407) 40) 255), addI IntKind.i64 b2_1 1, addI IntKind.u64 (addI IntKind.u64 (mulI IntKind.u64 b2_2 6364136223846793005) (cvI IntKind.u64 (cvI IntKind.i64 (gI b0 (ixO 0 b2_1 1))))) 1442695040888963407)))) (br (leI (addI IntKind.i64 b2_1 1) (Int.ofNat b2_0n)) (some (0, addI IntKind.i64 b2_1 1, addI IntKind.u64 (addI IntKind.u64 (mulI IntKind.u64 b2_2 6364136223846793005) (cvI IntKind.u64 0)) 1442695040888963407)) (some (cvI IntKind.i64 (bitI BinOp.and IntKind.u64 (shI Bool.false IntKind.u64 (addI IntKind.u64 (addI IntKind.u64 (mulI IntKind.u64 b2_2 6364136223846793005) (cvI IntKind.u64 0)) 1442695040888963407) 40) 255), addI IntKind.i64 b2_1 1, addI IntKind.u64 (addI IntKind.u64 (mulI IntKind.u64 b2_2 6364136223846793005) (cvI IntKind.u64 0)) 1442695040888963407))))
theorem zzk {x : Int} (h : 0 ≤ x ∧ x ≤ 255) : 0 ≤ cvI .i64 x ∧ cvI .i64 x ≤ 255 := by
  have : cvI .i64 x = x := z7s (by omega) (by omega)
  rw [this]; exact h
theorem nx_ok {xs : List Int} {n : Nat} {a s : Int} (hx : byteL xs) (h0 : 0 ≤ a) (h1 : a ≤ 1099511627776) :
    ∃ r a' s', nxO xs n a s = some (r, a', s') ∧ (0 ≤ r ∧ r ≤ 255) ∧ (0 ≤ a' ∧ a' ≤ a + 1) := by
  have e1 : addI .i64 a 1 = a + 1 := z7s (by omega) (by omega)
  unfold nxO
  rw [e1]
  cases hlt : ltI a (Int.ofNat n)
  · rw [z7m]
    cases leI (a + 1) (Int.ofNat n)
    · exact ⟨_, _, _, rfl, zzk (ydl _), by omega⟩
    · exact ⟨_, _, _, rfl, by omega, by omega⟩
  · have hlt' := of_decide_eq_true hlt
    have hok : okIx a n = true := decide_eq_true ⟨h0, hlt'⟩
    rw [zax, hok, z0w]
    cases leI (a + 1) (Int.ofNat n)
    · exact ⟨_, _, _, rfl, zzk (ydl _), by omega⟩
    · exact ⟨_, _, _, rfl, zzk (y89 hx _), by omega⟩
theorem z99 {r : Int} (h : 0 ≤ r ∧ r ≤ 255) {m : Int} (hm : 0 < m) : 0 ≤ remI r m ∧ remI r m < m := ⟨Int.tmod_nonneg _ h.1, Int.tmod_lt_of_pos _ hm⟩
def x32 (u : Int) : Nat := fop .quo .f32 (fOI .f32 u) 1107296256
def l8 (u : Int) : Nat := fop .quo .f32 (fOI .f32 u) 1090519040
def q4 (u : Int) : Nat := fop .quo .f32 (fOI .f32 u) 1082130432
def t64 (u : Int) : Nat := fop .quo .f32 (fOI .f32 u) 1115684864
theorem ygj (u : Fin 33) (k : Fin 5) : fop .add .f32 (x32 ((u : Int) - 16)) (x32 (k : Int)) = x32 ((u : Int) - 16 + k) := by revert u k; decide +kernel
theorem ygt (u : Fin 33) : rg FloatKind.f32.format (x32 ((u : Int) - 16)) ≤ 1056964608 ∧ fromToB (x32 ((u : Int) - 16)) 3204448256 1056964608 = true := by revert u; decide +kernel
theorem ydm (u : Fin 17) : leastB (x32 (u : Int)) = true ∧ rg FloatKind.f32.format (x32 (u : Int)) ≤ 1056964608 := by revert u; decide +kernel
theorem yh3 (u : Fin 20) (k : Fin 5) : fop .add .f32 (q4 (u : Int)) (q4 (k : Int)) = q4 ((u : Int) + k) := by revert u k; decide +kernel
theorem nx_v1 {xs : List Int} {n : Nat} {a s : Int} (hx : byteL xs) (h0 : 0 ≤ a) (h1 : a ≤ 1099511627776) :
    ∃ r a' s', z4s xs n a s = true ∧ z40 xs n a s = r ∧ z10 xs n a s = a' ∧ z11 xs n a s = s' ∧ (0 ≤ r ∧ r ≤ 255) ∧ (0 ≤ a' ∧ a' ≤ a + 1) := by
  obtain ⟨r, a', s', h, hb⟩ := nx_ok (n := n) (s := s) hx h0 h1
  obtain ⟨m, hm⟩ := zd7
  obtain ⟨p, q0, q1, q2⟩ := zoy (m := big) rfl (show z1j xs n a s big = some (r, a', s') by rw [hm, znh]; exact h)
  exact ⟨r, a', s', p, q0, q1, q2, hb⟩
theorem nx_v2 {xs : List Int} {n : Nat} {a s : Int} (hx : byteL xs) (h0 : 0 ≤ a) (h1 : a ≤ 1099511627776) :
    ∃ r a' s', z2o xs n a s = true ∧ z28 xs n a s = r ∧ z25 xs n a s = a' ∧ z24 xs n a s = s' ∧ (0 ≤ r ∧ r ≤ 255) ∧ (0 ≤ a' ∧ a' ≤ a + 1) := by
  obtain ⟨r, a', s', h, hb⟩ := nx_ok (n := n) (s := s) hx h0 h1
  obtain ⟨m, hm⟩ := zd7
  obtain ⟨p, q0, q1, q2⟩ := znu (m := big) rfl (show z1d xs n a s big = some (r, a', s') by rw [hm, zm6]; exact h)
  exact ⟨r, a', s', p, q0, q1, q2, hb⟩
theorem nx_v3 {xs : List Int} {n : Nat} {a s : Int} (hx : byteL xs) (h0 : 0 ≤ a) (h1 : a ≤ 1099511627776) :
    ∃ r a' s', z23 xs n a s = true ∧ z1b xs n a s = r ∧ z09 xs n a s = a' ∧ z0a xs n a s = s' ∧ (0 ≤ r ∧ r ≤ 255) ∧ (0 ≤ a' ∧ a' ≤ a + 1) := by
  obtain ⟨r, a', s', h, hb⟩ := nx_ok (n := n) (s := s) hx h0 h1
  obtain ⟨m, hm⟩ := zd7
  obtain ⟨p, q0, q1, q2⟩ := znn (m := big) rfl (show z1c xs n a s big = some (r, a', s') by rw [hm, zm5]; exact h)
  exact ⟨r, a', s', p, q0, q1, q2, hb⟩
theorem nx_v4 {xs : List Int} {n : Nat} {a s : Int} (hx : byteL xs) (h0 : 0 ≤ a) (h1 : a ≤ 1099511627776) :
    ∃ r a' s', z47 xs n a s = true ∧ z3q xs n a s = r ∧ z3r xs n a s = a' ∧ z3p xs n a s = s' ∧ (0 ≤ r ∧ r ≤ 255) ∧ (0 ≤ a' ∧ a' ≤ a + 1) := by
  obtain ⟨r, a', s', h, hb⟩ := nx_ok (n := n) (s := s) hx h0 h1
  obtain ⟨m, hm⟩ := zd7
  obtain ⟨p, q0, q1, q2⟩ := zo4 (m := big) rfl (show z1g xs n a s big = some (r, a', s') by rw [hm, zm7]; exact h)
  exact ⟨r, a', s', p, q0, q1, q2, hb⟩
theorem nx_v5 {xs : List Int} {n : Nat} {a s : Int} (hx : byteL xs) (h0 : 0 ≤ a) (h1 : a ≤ 1099511627776) :
    ∃ r a' s', z2p xs n a s = true ∧ z19 xs n a s = r ∧ z0b xs n a s = a' ∧ z0c xs n a s = s' ∧ (0 ≤ r ∧ r ≤ 255) ∧ (0 ≤ a' ∧ a' ≤ a + 1) := by
  obtain ⟨r, a', s', h, hb⟩ := nx_ok (n := n) (s := s) hx h0 h1
  obtain ⟨m, hm⟩ := zd7
  obtain ⟨p, q0, q1, q2⟩ := zo7 (m := big) rfl (show z1f xs n a s big = some (r, a', s') by rw [hm, zm4]; exact h)
  exact ⟨r, a', s', p, q0, q1, q2, hb⟩
theorem nx_v6 {xs : List Int} {n : Nat} {a s : Int} (hx : byteL xs) (h0 : 0 ≤ a) (h1 : a ≤ 1099511627776) :
    ∃ r a' s', z5c xs n a s = true ∧ z3o xs n a s = r ∧ z4q xs n a s = a' ∧ z4t xs n a s = s' ∧ (0 ≤ r ∧ r ≤ 255) ∧ (0 ≤ a' ∧ a' ≤ a + 1) := by
  obtain ⟨r, a', s', h, hb⟩ := nx_ok (n := n) (s := s) hx h0 h1
  obtain ⟨m, hm⟩ := zd7
  obtain ⟨p, q0, q1, q2⟩ := znm (m := big) rfl (show z1e xs n a s big = some (r, a', s') by rw [hm, zm8]; exact h)
  exact ⟨r, a', s', p, q0, q1, q2, hb⟩
def climb : Int → List Int → Prop
  | _, [] => True
  | u, v :: r => v = u ∧ ∃ k, 1 ≤ k ∧ k ≤ 4 ∧ climb (u + k) r
theorem yf6 {u k : Int} (h1 : -16 ≤ u) (h2 : u ≤ 16) (h3 : 0 ≤ k) (h4 : k ≤ 4) : fop .add .f32 (x32 u) (x32 k) = x32 (u + k) := by
  have := ygj ⟨(u + 16).toNat, by omega⟩ ⟨k.toNat, by omega⟩
  simp only at this
  rw [show (((u + 16).toNat : Int)) - 16 = u by omega, show ((k.toNat : Int)) = k by omega] at this
  exact this
theorem y81 {xs : List Int} {n : Nat} (hx : byteL xs) : ∀ (m : Nat) (u a s : Int) (us ls ds : List Int) (f : Nat), m < f → -16 ≤ u → u + 4 * m ≤ 16 → 0 ≤ a → a + 3 * m ≤ 1099511627776 → ls.length = us.length → ds.length = us.length → us.length + m ≤ 100 →
    ∃ us' ls' ds' u' a' s', z0l xs n f (x32 u) (Int.ofNat m) a s us.length us.length us.length (us.map x32) (ls.map l8) (ds.map x32) = some (x32 u', 0, false, a', s', us.length + m, us.length + m, us.length + m, (us ++ us').map x32, (ls ++ ls').map l8, (ds ++ ds').map x32) ∧
      us'.length = m ∧ ls'.length = m ∧ ds'.length = m ∧ climb u us' ∧ (∀ v ∈ ls', -6 ≤ v ∧ v ≤ 10) ∧ (∀ v ∈ ds', 0 ≤ v ∧ v ≤ 8) ∧ 0 ≤ a' ∧ a' ≤ a + 3 * m
  | 0, u, a, s, us, ls, ds, f, hf, _, _, ha, _, _, _, _ => by
    obtain ⟨f, rfl⟩ : ∃ g, f = g + 1 := ⟨f - 1, by omega⟩
    refine ⟨[], [], [], u, a, s, ?_, rfl, rfl, rfl, trivial, by simp, by simp, ha, by omega⟩
    rw [zdm]; unfold z2m
    simp only [List.append_nil, Nat.add_zero]
    rfl
  | m + 1, u, a, s, us, ls, ds, f, hf, hu1, hu2, ha, ha2, hl, hd, hn => by
    obtain ⟨f, rfl⟩ : ∃ g, f = g + 1 := ⟨f - 1, by omega⟩
    obtain ⟨r1, a1, s1, p1, q1, w1, v1, b1, c1⟩ := nx_v3 (n := n) (s := s) hx ha (by omega)
    obtain ⟨r2, a2, s2, p2, q2, w2, v2, b2, c2⟩ := nx_v3 (n := n) (a := a1) (s := s1) hx (by omega) (by omega)
    obtain ⟨r3, a3, s3, p3, q3, w3, v3, b3, c3⟩ := nx_v3 (n := n) (a := a2) (s := s2) hx (by omega) (by omega)
    have g1 := z99 b1 (m := 17) (by omega)
    have g2 := z99 b2 (m := 9) (by omega)
    have g3 := z99 b3 (m := 4) (by omega)
    have e1 : subI .i64 (remI r1 17) 6 = remI r1 17 - 6 := z7s (by omega) (by omega)
    have e3 : addI .i64 1 (remI r3 4) = 1 + remI r3 4 := z7s (by omega) (by omega)
    have en : subI .i64 (Int.ofNat (m + 1)) 1 = Int.ofNat m := by
      have : subI .i64 (Int.ofNat (m + 1)) 1 = (Int.ofNat (m + 1)) - 1 := z7s (by simp <;> omega) (by simp <;> omega)
      rw [this]; simp
    have hx1 : fop .add .f32 (x32 u) (fop .quo .f32 (fOI .f32 (1 + remI r3 4)) 1107296256) = x32 (u + (1 + remI r3 4)) := yf6 hu1 (by omega) (by omega) (by omega)
    have k1 : okNz 17 = true := rfl
    have k2 : okNz 9 = true := rfl
    have k3 : okNz 4 = true := rfl
    obtain ⟨us', ls', ds', u', a', s', h, t1, t2, t3, t4, t5, t6, t7, t8⟩ := y81 hx m (u + (1 + remI r3 4)) a3 s3 (us ++ [u]) (ls ++ [remI r1 17 - 6]) (ds ++ [remI r2 9]) f (by omega) (by omega) (by omega) (by omega) (by omega) (by simp [hl]) (by simp [hd]) (by simp <;> omega)
    refine ⟨u :: us', (remI r1 17 - 6) :: ls', remI r2 9 :: ds', u', a', s', ?_, by simp [t1], by simp [t2], by simp [t3], ⟨rfl, 1 + remI r3 4, by omega, by omega, t4⟩, ?_, ?_, t7, by omega⟩
    · rw [zdm]; unfold z2m
      rw [show ltI 0 (Int.ofNat (m + 1)) = true from ltI_t (by simp <;> omega)]
      simp only [p1, q1, w1, v1, p2, q2, w2, v2, p3, q3, w3, v3, k1, k2, k3, e1, e3, en, hx1, zax, z0w]
      rw [zx7 _ (b := us.map x32) (by simp) (by omega), zx7 _ (b := ls.map l8) (by simp [hl]) (by omega), zx7 _ (b := ds.map x32) (by simp [hd]) (by omega)]
      simp only [z0w]
      simp only [List.append_assoc, List.cons_append, List.nil_append, List.length_append, List.length_cons, List.length_nil] at h
      rw [show us.length + (m + 1) = us.length + (0 + 1) + m by omega]
      rw [← h]
      simp only [List.map_append]
      rfl
    · intro v hv
      rcases List.mem_cons.1 hv with rfl | hv
      · omega
      · exact t5 v hv
    · intro v hv
      rcases List.mem_cons.1 hv with rfl | hv
      · omega
      · exact t6 v hv
def rings : Int → List (Int × Int × Int) → Prop
  | _, [] => True
  | q, (a, c, w) :: r => (∃ k, 1 ≤ k ∧ k ≤ 4 ∧ a = q + k) ∧ (1 ≤ c ∧ c ≤ 4) ∧ (-8 ≤ w ∧ w ≤ 8) ∧ rings a r
def ringRow : List (Int × Int × Int) → List Nat
  | [] => []
  | (a, c, w) :: r => q4 a :: l8 c :: t64 w :: ringRow r
theorem ze5 : ∀ l, (ringRow l).length = l.length * 3
  | [] => rfl
  | (a, c, w) :: r => by simp [ringRow, ze5 r]; omega
theorem zin : ∀ l r, ringRow (l ++ r) = ringRow l ++ ringRow r
  | [], r => rfl
  | (a, c, w) :: l, r => by simp [ringRow, zin l r]
def lastQ (q : Int) : List (Int × Int × Int) → Int
  | [] => q
  | (a, _, _) :: r => lastQ a r
theorem yg4 {u k : Int} (h1 : 0 ≤ u) (h2 : u ≤ 19) (h3 : 0 ≤ k) (h4 : k ≤ 4) : fop .add .f32 (q4 u) (q4 k) = q4 (u + k) := by
  have := yh3 ⟨u.toNat, by omega⟩ ⟨k.toNat, by omega⟩
  simp only at this
  rw [show ((u.toNat : Int)) = u by omega, show ((k.toNat : Int)) = k by omega] at this
  exact this
theorem y2d {xs : List Int} {n : Nat} (hx : byteL xs) : ∀ (m : Nat) (q a s : Int) (l : List (Int × Int × Int)) (f : Nat), m < f → 0 ≤ q → q + 4 * m ≤ 19 → 0 ≤ a → a + 3 * m ≤ 1099511627776 → l.length + m ≤ 100 →
    ∃ l' a' s', z0s xs n f (q4 q) (Int.ofNat m) a s l.length (ringRow l) = some (q4 (lastQ q l'), 0, false, a', s', l.length + m, ringRow (l ++ l')) ∧
      l'.length = m ∧ rings q l' ∧ 0 ≤ a' ∧ a' ≤ a + 3 * m
  | 0, q, a, s, l, f, hf, _, _, ha, _, _ => by
    obtain ⟨f, rfl⟩ : ∃ g, f = g + 1 := ⟨f - 1, by omega⟩
    refine ⟨[], a, s, ?_, rfl, trivial, ha, by omega⟩
    rw [zda]; unfold z2n
    simp only [List.append_nil, Nat.add_zero]
    rfl
  | m + 1, q, a, s, l, f, hf, hq1, hq2, ha, ha2, hn => by
    obtain ⟨f, rfl⟩ : ∃ g, f = g + 1 := ⟨f - 1, by omega⟩
    obtain ⟨r1, a1, s1, p1, q1, w1, v1, b1, c1⟩ := nx_v5 (n := n) (s := s) hx ha (by omega)
    obtain ⟨r2, a2, s2, p2, q2, w2, v2, b2, c2⟩ := nx_v5 (n := n) (a := a1) (s := s1) hx (by omega) (by omega)
    obtain ⟨r3, a3, s3, p3, q3, w3, v3, b3, c3⟩ := nx_v6 (n := n) (a := a2) (s := s2) hx (by omega) (by omega)
    have g1 := z99 b1 (m := 4) (by omega)
    have g2 := z99 b2 (m := 4) (by omega)
    have g3 := z99 b3 (m := 17) (by omega)
    have e1 : addI .i64 1 (remI r1 4) = 1 + remI r1 4 := z7s (by omega) (by omega)
    have e2 : addI .i64 1 (remI r2 4) = 1 + remI r2 4 := z7s (by omega) (by omega)
    have e3 : subI .i64 (remI r3 17) 8 = remI r3 17 - 8 := z7s (by omega) (by omega)
    have en : subI .i64 (Int.ofNat (m + 1)) 1 = Int.ofNat m := by
      have : subI .i64 (Int.ofNat (m + 1)) 1 = (Int.ofNat (m + 1)) - 1 := z7s (by simp <;> omega) (by simp <;> omega)
      rw [this]; simp
    have hx1 : fop .add .f32 (q4 q) (fop .quo .f32 (fOI .f32 (1 + remI r1 4)) 1082130432) = q4 (q + (1 + remI r1 4)) := yg4 hq1 (by omega) (by omega) (by omega)
    have k1 : okNz 17 = true := rfl
    have k3 : okNz 4 = true := rfl
    obtain ⟨l', a', s', h, t1, t4, t7, t8⟩ := y2d hx m (q + (1 + remI r1 4)) a3 s3 (l ++ [(q + (1 + remI r1 4), 1 + remI r2 4, remI r3 17 - 8)]) f (by omega) (by omega) (by omega) (by omega) (by omega) (by simp <;> omega)
    refine ⟨(q + (1 + remI r1 4), 1 + remI r2 4, remI r3 17 - 8) :: l', a', s', ?_, by simp [t1], ⟨⟨1 + remI r1 4, by omega, by omega, rfl⟩, by omega, by omega, t4⟩, t7, by omega⟩
    rw [zda]; unfold z2n
    rw [show ltI 0 (Int.ofNat (m + 1)) = true from ltI_t (by simp <;> omega)]
    simp only [p1, q1, w1, v1, p2, q2, w2, v2, p3, q3, w3, v3, k1, k3, e1, e2, e3, en, hx1, zax, z0w]
    rw [yec _ rfl (ze5 l) (by omega)]
    simp only [z0w]
    simp only [List.append_assoc, List.cons_append, List.nil_append, List.length_append, List.length_cons, List.length_nil] at h
    rw [show l.length + (m + 1) = l.length + (0 + 1) + m by omega]
    refine Eq.trans ?_ h
    rw [zin]
    rfl
theorem y5d {n : Nat} (hn : n ≤ 24) : z61 (Int.ofNat n) = some (n, n, n, listOf (plateA n) n, listOf (plateL n) n, listOf (plateD n) n) := by
  obtain ⟨g1, _, _, g2, g3, g4, g5, g6, g7⟩ := zz8 rfl (y6d hn)
  obtain ⟨n0, n1, n2, n3⟩ := zyb (show zbe = some ([], [], []) from rfl)
  unfold z61 zcp
  simp only [n0, n1, n2, n3, g1, g2, g3, g4, g5, g6, g7, z0w]
def DrawnP (as ls ds : List Nat) : Prop :=
  (∃ m : Nat, 2 ≤ m ∧ m ≤ 9 ∧ as = listOf (plateA m) m ∧ ls = listOf (plateL m) m ∧ ds = listOf (plateD m) m) ∨
  ∃ (u : Int) (us vs ws : List Int), -16 ≤ u ∧ u ≤ -8 ∧ climb u us ∧ 2 ≤ us.length ∧ us.length ≤ 6 ∧ vs.length = us.length ∧ ws.length = us.length ∧ (∀ v ∈ vs, -6 ≤ v ∧ v ≤ 10) ∧ (∀ v ∈ ws, 0 ≤ v ∧ v ≤ 8) ∧ as = us.map x32 ∧ ls = vs.map l8 ∧ ds = ws.map x32
theorem yex {xs : List Int} {n : Nat} (hx : byteL xs) : ∃ as ls ds l count q e, DrawnP as ls ds ∧ (1 ≤ count ∧ count ≤ 4) ∧ (0 ≤ q ∧ q ≤ 2) ∧ rings q l ∧ (2 ≤ l.length ∧ l.length ≤ 4) ∧ (1 ≤ e ∧ e ≤ 4) ∧
    z35 n xs = some (as.length, ls.length, ds.length, l.length, count, q4 q, fop .add .f32 (q4 (lastQ q l)) (l8 e), as, ls, ds, ringRow l) := by
  obtain ⟨r0, a0, s0, p0, q0, w0, v0, b0, c0⟩ := nx_v1 (n := n) (a := 0) (s := 0) hx (by omega) (by omega)
  have g0 := z99 b0 (m := 4) (by omega)
  by_cases hz : remI r0 4 = 0
  · obtain ⟨r1, a1, s1, p1, q1, w1, v1, b1, c1⟩ := nx_v1 (n := n) (a := a0) (s := s0) hx (by omega) (by omega)
    have h1 := z99 b1 (m := 8) (by omega)
    have e1 : addI .i64 2 (remI r1 8) = Int.ofNat (2 + remI r1 8).toNat := by
      have : addI .i64 2 (remI r1 8) = 2 + remI r1 8 := z7s (by omega) (by omega)
      rw [this]; simp; omega
    obtain ⟨y0, y1, y2, y3, y4, y5, y6⟩ := y4w (y5d (n := (2 + remI r1 8).toNat) (by omega))
    obtain ⟨rc, ac, sc, pc, qc, wc, vc, bc, cc⟩ := nx_v2 (n := n) (a := a1) (s := s1) hx (by omega) (by omega)
    obtain ⟨rh, ah, sh, ph, qh, wh, vh, bh, ch⟩ := nx_v2 (n := n) (a := ac) (s := sc) hx (by omega) (by omega)
    obtain ⟨rn, an, sn, pn, qn', wn, vn, bn, cn'⟩ := nx_v4 (n := n) (a := ah) (s := sh) hx (by omega) (by omega)
    have gc := z99 bc (m := 4) (by omega)
    have gh := z99 bh (m := 3) (by omega)
    have gn := z99 bn (m := 3) (by omega)
    have ec : addI .i64 1 (remI rc 4) = 1 + remI rc 4 := z7s (by omega) (by omega)
    have en : addI .i64 2 (remI rn 3) = Int.ofNat (2 + remI rn 3).toNat := by
      have : addI .i64 2 (remI rn 3) = 2 + remI rn 3 := z7s (by omega) (by omega)
      rw [this]; simp; omega
    have hq : fop .quo .f32 (fOI .f32 (remI rh 3)) 1082130432 = q4 (remI rh 3) := rfl
    obtain ⟨l, al, sl, hl, tl, rl, bl, cl⟩ := y2d (n := n) hx (2 + remI rn 3).toNat (remI rh 3) an sn [] big (zdc (by omega)) (by omega) (by omega) (by omega) (by omega) (by simp <;> omega)
    obtain ⟨g1, g2, _, _, g3, g4, g5, g6⟩ := zfs rfl (show z0s xs n big (q4 (remI rh 3)) (Int.ofNat (2 + remI rn 3).toNat) an sn 0 [] = some _ from hl)
    simp only [List.length_nil, Nat.zero_add, List.nil_append] at g5 g6
    obtain ⟨rt, at', st', pt, qt, wt, vt, bt, ct⟩ := nx_v5 (n := n) (a := al) (s := sl) hx (by omega) (by omega)
    have gt := z99 bt (m := 4) (by omega)
    have et : addI .i64 1 (remI rt 4) = 1 + remI rt 4 := z7s (by omega) (by omega)
    have k4 : okNz 4 = true := rfl
    have k3 : okNz 3 = true := rfl
    have k8 : okNz 8 = true := rfl
    refine ⟨_, _, _, l, 1 + remI rc 4, remI rh 3, 1 + remI rt 4, .inl ⟨(2 + remI r1 8).toNat, by omega, by omega, rfl, rfl, rfl⟩, ?_, ?_, rl, by omega, by omega, ?_⟩
    rotate_left 2
    · unfold z35 zal
      simp only [zbr, zc2, zbu, zby, z7i, z59, zbn, zbo, z5b, z5h, z4z, zbc, zan, z6s, zas, z88, z87, zba, z84, zb4, zb2, zje, zj6, zb8, zb6, z6r, z85, z83, z80, zji, zjb, p0, q0, w0, v0, hz, p1, q1, w1, v1, e1, y0, y1, y2, y3, y4, y5, y6, k8, pc, qc, wc, vc, ph, qh, wh, vh, pn, qn', wn, vn, ec, en, hq, g1, g2, g3, g4, g5, g6, pt, qt, wt, vt, et, k3, k4, z0w, zlh, yeq, tl]
      rw [show eqI 0 0 = true from rfl, zax]
      rfl
    · omega
    · omega
  · obtain ⟨r1, a1, s1, p1, q1, w1, v1, b1, c1⟩ := nx_v3 (n := n) (a := a0) (s := s0) hx (by omega) (by omega)
    obtain ⟨r2, a2, s2, p2, q2, w2, v2, b2, c2⟩ := nx_v3 (n := n) (a := a1) (s := s1) hx (by omega) (by omega)
    have h1 := z99 b1 (m := 9) (by omega)
    have h2 := z99 b2 (m := 5) (by omega)
    have e1 : subI .i64 (remI r1 9) 16 = remI r1 9 - 16 := z7s (by omega) (by omega)
    have e2 : addI .i64 2 (remI r2 5) = Int.ofNat (2 + remI r2 5).toNat := by
      have : addI .i64 2 (remI r2 5) = 2 + remI r2 5 := z7s (by omega) (by omega)
      rw [this]; simp; omega
    have ex : fop .quo .f32 (fOI .f32 (remI r1 9 - 16)) 1107296256 = x32 (remI r1 9 - 16) := rfl
    obtain ⟨us, vs, ws, u', a3, s3, h, t1, t2, t3, t4, t5, t6, t7, t8⟩ := y81 (n := n) hx (2 + remI r2 5).toNat (remI r1 9 - 16) a2 s2 [] [] [] big (zdc (by omega)) (by omega) (by omega) (by omega) (by omega) rfl rfl (by simp <;> omega)
    obtain ⟨n0, n1, n2, n3⟩ := zyb (show zbe = some ([], [], []) from rfl)
    obtain ⟨z1, _, _, _, z2, z3, z4, z5, z6, z7, z8, z9⟩ := zps rfl (show z0l xs n big (x32 (remI r1 9 - 16)) (Int.ofNat (2 + remI r2 5).toNat) a2 s2 0 0 0 [] [] [] = some _ from h)
    simp only [List.length_nil, Nat.zero_add, List.nil_append] at z4 z5 z6 z7 z8 z9
    obtain ⟨rc, ac, sc, pc, qc, wc, vc, bc, cc⟩ := nx_v2 (n := n) (a := a3) (s := s3) hx (by omega) (by omega)
    obtain ⟨rh, ah, sh, ph, qh, wh, vh, bh, ch⟩ := nx_v2 (n := n) (a := ac) (s := sc) hx (by omega) (by omega)
    obtain ⟨rn, an, sn, pn, qn', wn, vn, bn, cn'⟩ := nx_v4 (n := n) (a := ah) (s := sh) hx (by omega) (by omega)
    have gc := z99 bc (m := 4) (by omega)
    have gh := z99 bh (m := 3) (by omega)
    have gn := z99 bn (m := 3) (by omega)
    have ec : addI .i64 1 (remI rc 4) = 1 + remI rc 4 := z7s (by omega) (by omega)
    have en : addI .i64 2 (remI rn 3) = Int.ofNat (2 + remI rn 3).toNat := by
      have : addI .i64 2 (remI rn 3) = 2 + remI rn 3 := z7s (by omega) (by omega)
      rw [this]; simp; omega
    have hq : fop .quo .f32 (fOI .f32 (remI rh 3)) 1082130432 = q4 (remI rh 3) := rfl
    obtain ⟨l, al, sl, hl, tl, rl, bl, cl⟩ := y2d (n := n) hx (2 + remI rn 3).toNat (remI rh 3) an sn [] big (zdc (by omega)) (by omega) (by omega) (by omega) (by omega) (by simp <;> omega)
    obtain ⟨g1, g2, _, _, g3, g4, g5, g6⟩ := zfs rfl (show z0s xs n big (q4 (remI rh 3)) (Int.ofNat (2 + remI rn 3).toNat) an sn 0 [] = some _ from hl)
    simp only [List.length_nil, Nat.zero_add, List.nil_append] at g5 g6
    obtain ⟨rt, at', st', pt, qt, wt, vt, bt, ct⟩ := nx_v5 (n := n) (a := al) (s := sl) hx (by omega) (by omega)
    have gt := z99 bt (m := 4) (by omega)
    have et : addI .i64 1 (remI rt 4) = 1 + remI rt 4 := z7s (by omega) (by omega)
    have k4 : okNz 4 = true := rfl
    have k3 : okNz 3 = true := rfl
    have k9 : okNz 9 = true := rfl
    have k5 : okNz 5 = true := rfl
    refine ⟨us.map x32, vs.map l8, ws.map x32, l, 1 + remI rc 4, remI rh 3, 1 + remI rt 4, .inr ⟨remI r1 9 - 16, us, vs, ws, by omega, by omega, t4, by omega, by omega, by omega, by omega, t5, t6, rfl, rfl, rfl⟩, ?_, ?_, rl, by omega, by omega, ?_⟩
    rotate_left 2
    · unfold z35 zal
      simp only [zbr, zc2, zbu, zby, z7i, z59, zbn, zbo, z5b, z5h, z4z, zbc, zan, z6s, zas, z88, z87, zba, z84, zb4, zb2, zje, zj6, zb8, zb6, z6r, z85, z83, z80, zji, zjb, p0, q0, w0, v0, p1, q1, w1, v1, p2, q2, w2, v2, e1, e2, ex, n0, n1, n2, n3, z1, z2, z3, z4, z5, z6, z7, z8, z9, k9, k5, pc, qc, wc, vc, ph, qh, wh, vh, pn, qn', wn, vn, ec, en, hq, g1, g2, g3, g4, g5, g6, pt, qt, wt, vt, et, k3, k4, z0w, List.length_map, t1, t2, t3, tl]
      rw [show eqI (remI r0 4) 0 = false from decide_eq_false hz, z7m]
      rfl
    · omega
    · omega
theorem y9o (m : Fin 8) : validProfB (listOf (plateA (m.val + 2)) (m.val + 2)) (listOf (plateL (m.val + 2)) (m.val + 2)) (listOf (plateD (m.val + 2)) (m.val + 2)) = true := by revert m; decide +kernel
def gapB (low high : Nat) : Bool := decide (rg FloatKind.f32.format low ≤ 1073741824) && (decide (rg FloatKind.f32.format high ≤ 1073741824) && (fcmp .eql .f32 (fop .sub .f32 high low) 0 || (decide (1015021568 ≤ rg FloatKind.f32.format (fop .sub .f32 high low)) && decide (rg FloatKind.f32.format (fop .sub .f32 high low) ≤ 1082130432))))
def gapsB (as : List Nat) : Bool := (List.range (as.length + 1)).all fun j => gapB (pairR as j).2.2.1 (pairR as j).2.2.2
def smallL (xs : List Nat) : Bool := xs.all fun x => decide (rg FloatKind.f32.format x ≤ 1082130432)
theorem yb3 (m : Fin 8) : (gapsB (listOf (plateA (m.val + 2)) (m.val + 2)) && (smallL (listOf (plateL (m.val + 2)) (m.val + 2)) && smallL (listOf (plateD (m.val + 2)) (m.val + 2)))) = true := by revert m; decide +kernel
end Go.Rf
