import Derived.Test.YtdmbbllcgpicbaaB
set_option linter.unusedVariables false
set_option linter.unusedSimpArgs false
set_option maxRecDepth 100000
set_option maxHeartbeats 4000000
namespace Go.Rf
open Go
noncomputable def z7d {R : Type} (a : Nat) (b : Nat) (k_ : Bool → Option R) : Option R := (br (fcmp BinOp.neq FloatKind.f64 a a) (br (fcmp BinOp.neq FloatKind.f64 a a) (k_ (fcmp BinOp.neq FloatKind.f64 b b)) (k_ Bool.false)) (br (fcmp BinOp.neq FloatKind.f64 b b) (br (fcmp BinOp.neq FloatKind.f64 a a) (k_ (fcmp BinOp.neq FloatKind.f64 b b)) (k_ Bool.false)) (br (fcmp BinOp.eql FloatKind.f64 a 0) (br (fcmp BinOp.eql FloatKind.f64 b 0) (k_ (beqB (fcmp BinOp.gtr FloatKind.f64 (fop BinOp.quo FloatKind.f64 4607182418800017408 a) 0) (fcmp BinOp.gtr FloatKind.f64 (fop BinOp.quo FloatKind.f64 4607182418800017408 b) 0))) (k_ (fcmp BinOp.eql FloatKind.f64 a b))) (k_ (fcmp BinOp.eql FloatKind.f64 a b)))))
noncomputable def z7f (a : Nat) (b : Nat) : Option (Bool) := z7d a b (fun c0_ => some c0_)
theorem zec {R R' : Type} (o : Option R → Option R') (h0 : o none = none) (a : Nat) (b : Nat) (k_ : Bool → Option R) : z7d a b (fun c0_ => o (k_ c0_)) = o (z7d a b k_) := by
  unfold z7d
  repeat (first | refine grd_out h0 ?_ | refine br_out ?_ ?_ | rfl | exact h0.symm)
noncomputable def zb3 (a : Nat) (b : Nat) : Bool := (z7f a b).isSome
noncomputable def zac (a : Nat) (b : Nat) : Bool := ((z7f a b).getD default)
theorem zft {a : Nat} {b : Nat} {r : Bool} (h : z7f a b = some r) : zb3 a b = true ∧ zac a b = r := by
  unfold zb3 zac
  rw [h]
  exact ⟨rfl, rfl⟩
noncomputable def zae {R : Type} (n_ : Int) (low : Int) (q0t : Int) (k_ : Bool → Option R) : Option R := (br (leI low n_) (k_ (leI n_ q0t)) (k_ Bool.false))
noncomputable def zan (n_ : Int) (low : Int) (q0t : Int) : Option (Bool) := zae n_ low q0t (fun c0_ => some c0_)
theorem zg8 {R R' : Type} (o : Option R → Option R') (h0 : o none = none) (n_ : Int) (low : Int) (q0t : Int) (k_ : Bool → Option R) : zae n_ low q0t (fun c0_ => o (k_ c0_)) = o (zae n_ low q0t k_) := by
  unfold zae
  repeat (first | refine grd_out h0 ?_ | refine br_out ?_ ?_ | rfl | exact h0.symm)
noncomputable def zcb (n_ : Int) (low : Int) (q0t : Int) : Bool := (zan n_ low q0t).isSome
noncomputable def zc2 (n_ : Int) (low : Int) (q0t : Int) : Bool := ((zan n_ low q0t).getD default)
theorem zh2 {n_ : Int} {low : Int} {q0t : Int} {r : Bool} (h : zan n_ low q0t = some r) : zcb n_ low q0t = true ∧ zc2 n_ low q0t = r := by
  unfold zcb zc2
  rw [h]
  exact ⟨rfl, rfl⟩
noncomputable def z8y {R : Type} (x : Nat) (k_ : Bool → Option R) : Option R := (k_ (fcmp BinOp.eql FloatKind.f32 (fop BinOp.sub FloatKind.f32 x x) 0))
noncomputable def z8z (x : Nat) : Option (Bool) := z8y x (fun c0_ => some c0_)
theorem zeb {R R' : Type} (o : Option R → Option R') (h0 : o none = none) (x : Nat) (k_ : Bool → Option R) : z8y x (fun c0_ => o (k_ c0_)) = o (z8y x k_) := by
  unfold z8y
  repeat (first | refine grd_out h0 ?_ | refine br_out ?_ ?_ | rfl | exact h0.symm)
noncomputable def z65 (x : Nat) : Bool := (z8z x).isSome
noncomputable def z5y (x : Nat) : Bool := ((z8z x).getD default)
theorem zcs {x : Nat} {r : Bool} (h : z8z x = some r) : z65 x = true ∧ z5y x = r := by
  unfold z65 z5y
  rw [h]
  exact ⟨rfl, rfl⟩
noncomputable def z9g {R : Type} (n_ : Int) (low : Int) (q0t : Int) (k_ : Bool → Option R) : Option R := (br (leI low n_) (k_ (leI n_ q0t)) (k_ Bool.false))
noncomputable def z9f (n_ : Int) (low : Int) (q0t : Int) : Option (Bool) := z9g n_ low q0t (fun c0_ => some c0_)
theorem zfs {R R' : Type} (o : Option R → Option R') (h0 : o none = none) (n_ : Int) (low : Int) (q0t : Int) (k_ : Bool → Option R) : z9g n_ low q0t (fun c0_ => o (k_ c0_)) = o (z9g n_ low q0t k_) := by
  unfold z9g
  repeat (first | refine grd_out h0 ?_ | refine br_out ?_ ?_ | rfl | exact h0.symm)
noncomputable def zc0 (n_ : Int) (low : Int) (q0t : Int) : Bool := (z9f n_ low q0t).isSome
noncomputable def zbq (n_ : Int) (low : Int) (q0t : Int) : Bool := ((z9f n_ low q0t).getD default)
theorem zgs {n_ : Int} {low : Int} {q0t : Int} {r : Bool} (h : z9f n_ low q0t = some r) : zc0 n_ low q0t = true ∧ zbq n_ low q0t = r := by
  unfold zc0 zbq
  rw [h]
  exact ⟨rfl, rfl⟩
noncomputable def z81 {R : Type} (x : Nat) (low : Nat) (q0t : Nat) (k_ : Bool → Option R) : Option R := (br (fcmp BinOp.geq FloatKind.f32 x low) (k_ (fcmp BinOp.leq FloatKind.f32 x q0t)) (k_ Bool.false))
noncomputable def z84 (x : Nat) (low : Nat) (q0t : Nat) : Option (Bool) := z81 x low q0t (fun c0_ => some c0_)
theorem zes {R R' : Type} (o : Option R → Option R') (h0 : o none = none) (x : Nat) (low : Nat) (q0t : Nat) (k_ : Bool → Option R) : z81 x low q0t (fun c0_ => o (k_ c0_)) = o (z81 x low q0t k_) := by
  unfold z81
  repeat (first | refine grd_out h0 ?_ | refine br_out ?_ ?_ | rfl | exact h0.symm)
noncomputable def zbj (x : Nat) (low : Nat) (q0t : Nat) : Bool := (z84 x low q0t).isSome
noncomputable def zb1 (x : Nat) (low : Nat) (q0t : Nat) : Bool := ((z84 x low q0t).getD default)
theorem zfz {x : Nat} {low : Nat} {q0t : Nat} {r : Bool} (h : z84 x low q0t = some r) : zbj x low q0t = true ∧ zb1 x low q0t = r := by
  unfold zbj zb1
  rw [h]
  exact ⟨rfl, rfl⟩
noncomputable def z9o {R : Type} (x : Nat) (k_ : Bool → Option R) : Option R := (k_ (fcmp BinOp.eql FloatKind.f32 (fop BinOp.sub FloatKind.f32 x x) 0))
noncomputable def z9i (x : Nat) : Option (Bool) := z9o x (fun c0_ => some c0_)
theorem zew {R R' : Type} (o : Option R → Option R') (h0 : o none = none) (x : Nat) (k_ : Bool → Option R) : z9o x (fun c0_ => o (k_ c0_)) = o (z9o x k_) := by
  unfold z9o
  repeat (first | refine grd_out h0 ?_ | refine br_out ?_ ?_ | rfl | exact h0.symm)
noncomputable def z86 (x : Nat) : Bool := (z9i x).isSome
noncomputable def z7q (x : Nat) : Bool := ((z9i x).getD default)
theorem zc5 {x : Nat} {r : Bool} (h : z9i x = some r) : z86 x = true ∧ z7q x = r := by
  unfold z86 z7q
  rw [h]
  exact ⟨rfl, rfl⟩
noncomputable def zb9 {R : Type}  (k_ : (List Nat) → (List Nat) → (List Nat) → Option R) : Option R := (k_ [] [] [])
noncomputable def z8e  : Option ((List Nat) × (List Nat) × (List Nat)) := zb9 (fun c0_ c1_ c2_ => some (c0_, c1_, c2_))
theorem zfp {R R' : Type} (o : Option R → Option R') (h0 : o none = none)  (k_ : (List Nat) → (List Nat) → (List Nat) → Option R) : zb9 (fun c0_ c1_ c2_ => o (k_ c0_ c1_ c2_)) = o (zb9 k_) := by
  unfold zb9
  repeat (first | refine grd_out h0 ?_ | refine br_out ?_ ?_ | rfl | exact h0.symm)
noncomputable def zc1  : Bool := (z8e).isSome
noncomputable def z5v  : List Nat := ((z8e).getD default).1
noncomputable def z5x  : List Nat := ((z8e).getD default).2.1
noncomputable def z5w  : List Nat := ((z8e).getD default).2.2
theorem zgw  {r : (List Nat) × (List Nat) × (List Nat)} (h : z8e = some r) : zc1 = true ∧ z5v = r.1 ∧ z5x = r.2.1 ∧ z5w = r.2.2 := by
  unfold zc1 z5v z5x z5w
  rw [h]
  exact ⟨rfl, rfl, rfl, rfl⟩
noncomputable def zbw {R : Type}  (k_ : Nat → Option R) : Option R := (grd (okU FloatKind.f64 9221120237041090561) (k_ (cnI FloatKind.f64 9221120237041090561)))
noncomputable def zbt  : Option (Nat) := zbw (fun c0_ => some c0_)
theorem zgy {R R' : Type} (o : Option R → Option R') (h0 : o none = none)  (k_ : Nat → Option R) : zbw (fun c0_ => o (k_ c0_)) = o (zbw k_) := by
  unfold zbw
  repeat (first | refine grd_out h0 ?_ | refine br_out ?_ ?_ | rfl | exact h0.symm)
noncomputable def zca  : Bool := (zbt).isSome
noncomputable def zbd  : Nat := ((zbt).getD default)
theorem zfv  {r : Nat} (h : zbt = some r) : zca = true ∧ zbd = r := by
  unfold zca zbd
  rw [h]
  exact ⟨rfl, rfl⟩
noncomputable def z7o {R : Type} (x : Nat) (k_ : Nat → Option R) : Option R := (grd (fcvB FloatKind.f64 FloatKind.f32 x) (k_ (fcvV FloatKind.f64 FloatKind.f32 x)))
noncomputable def z7p (x : Nat) : Option (Nat) := z7o x (fun c0_ => some c0_)
theorem zed {R R' : Type} (o : Option R → Option R') (h0 : o none = none) (x : Nat) (k_ : Nat → Option R) : z7o x (fun c0_ => o (k_ c0_)) = o (z7o x k_) := by
  unfold z7o
  repeat (first | refine grd_out h0 ?_ | refine br_out ?_ ?_ | rfl | exact h0.symm)
noncomputable def zb7 (x : Nat) : Bool := (z7p x).isSome
noncomputable def zab (x : Nat) : Nat := ((z7p x).getD default)
theorem zfq {x : Nat} {r : Nat} (h : z7p x = some r) : zb7 x = true ∧ zab x = r := by
  unfold zb7 zab
  rw [h]
  exact ⟨rfl, rfl⟩
noncomputable def zbs {R : Type} (x : Nat) (k_ : Nat → Option R) : Option R := (grd (bnot (nanQ FloatKind.f64 x)) (grd (okU FloatKind.f64 (bitI BinOp.andNot IntKind.u64 (Int.ofNat x) 9223372036854775808)) (k_ (cnI FloatKind.f64 (bitI BinOp.andNot IntKind.u64 (Int.ofNat x) 9223372036854775808)))))
noncomputable def zbr (x : Nat) : Option (Nat) := zbs x (fun c0_ => some c0_)
theorem zgq {R R' : Type} (o : Option R → Option R') (h0 : o none = none) (x : Nat) (k_ : Nat → Option R) : zbs x (fun c0_ => o (k_ c0_)) = o (zbs x k_) := by
  unfold zbs
  repeat (first | refine grd_out h0 ?_ | refine br_out ?_ ?_ | rfl | exact h0.symm)
noncomputable def zcx (x : Nat) : Bool := (zbr x).isSome
noncomputable def zch (x : Nat) : Nat := ((zbr x).getD default)
theorem zh9 {x : Nat} {r : Nat} (h : zbr x = some r) : zcx x = true ∧ zch x = r := by
  unfold zcx zch
  rw [h]
  exact ⟨rfl, rfl⟩
noncomputable def z8a {R : Type} (x : Nat) (k_ : Bool → Option R) : Option R := (grd (z65 x) (br (z5y x) (k_ (fcmp BinOp.geq FloatKind.f32 x 0)) (k_ Bool.false)))
noncomputable def z7x (x : Nat) : Option (Bool) := z8a x (fun c0_ => some c0_)
theorem zf2 {R R' : Type} (o : Option R → Option R') (h0 : o none = none) (x : Nat) (k_ : Bool → Option R) : z8a x (fun c0_ => o (k_ c0_)) = o (z8a x k_) := by
  unfold z8a
  repeat (first | refine grd_out h0 ?_ | refine br_out ?_ ?_ | rfl | exact h0.symm)
noncomputable def z6x (x : Nat) : Bool := (z7x x).isSome
noncomputable def z6k (x : Nat) : Bool := ((z7x x).getD default)
theorem zgb {x : Nat} {r : Bool} (h : z7x x = some r) : z6x x = true ∧ z6k x = r := by
  unfold z6x z6k
  rw [h]
  exact ⟨rfl, rfl⟩
noncomputable def z8v {R : Type} (x : Nat) (k_ : Bool → Option R) : Option R := (grd (z86 x) (br (z7q x) (k_ (fcmp BinOp.geq FloatKind.f32 x 0)) (k_ Bool.false)))
noncomputable def z8w (x : Nat) : Option (Bool) := z8v x (fun c0_ => some c0_)
theorem zf5 {R R' : Type} (o : Option R → Option R') (h0 : o none = none) (x : Nat) (k_ : Bool → Option R) : z8v x (fun c0_ => o (k_ c0_)) = o (z8v x k_) := by
  unfold z8v
  repeat (first | refine grd_out h0 ?_ | refine br_out ?_ ?_ | rfl | exact h0.symm)
noncomputable def zbu (x : Nat) : Bool := (z8w x).isSome
noncomputable def zbg (x : Nat) : Bool := ((z8w x).getD default)
theorem zgk {x : Nat} {r : Bool} (h : z8w x = some r) : zbu x = true ∧ zbg x = r := by
  unfold zbu zbg
  rw [h]
  exact ⟨rfl, rfl⟩
noncomputable def z6r {R : Type} (x : Nat) (k_ : Bool → Option R) : Option R := (grd (z86 x) (k_ (bnot (z7q x))))
noncomputable def z6o (x : Nat) : Option (Bool) := z6r x (fun c0_ => some c0_)
theorem ze1 {R R' : Type} (o : Option R → Option R') (h0 : o none = none) (x : Nat) (k_ : Bool → Option R) : z6r x (fun c0_ => o (k_ c0_)) = o (z6r x k_) := by
  unfold z6r
  repeat (first | refine grd_out h0 ?_ | refine br_out ?_ ?_ | rfl | exact h0.symm)
noncomputable def z9q (x : Nat) : Bool := (z6o x).isSome
noncomputable def z93 (x : Nat) : Bool := ((z6o x).getD default)
theorem zev {x : Nat} {r : Bool} (h : z6o x = some r) : z9q x = true ∧ z93 x = r := by
  unfold z9q z93
  rw [h]
  exact ⟨rfl, rfl⟩
noncomputable def z9e {R : Type} (x : Nat) (k_ : Bool → Option R) : Option R := (grd (zcx x) (k_ (fcmp BinOp.geq FloatKind.f64 (zch x) 4841369599423283200)))
noncomputable def z9d (x : Nat) : Option (Bool) := z9e x (fun c0_ => some c0_)
theorem zfm {R R' : Type} (o : Option R → Option R') (h0 : o none = none) (x : Nat) (k_ : Bool → Option R) : z9e x (fun c0_ => o (k_ c0_)) = o (z9e x k_) := by
  unfold z9e
  repeat (first | refine grd_out h0 ?_ | refine br_out ?_ ?_ | rfl | exact h0.symm)
noncomputable def zc4 (x : Nat) : Bool := (z9d x).isSome
noncomputable def zbv (x : Nat) : Bool := ((z9d x).getD default)
theorem zgp {x : Nat} {r : Bool} (h : z9d x = some r) : zc4 x = true ∧ zbv x = r := by
  unfold zc4 zbv
  rw [h]
  exact ⟨rfl, rfl⟩
noncomputable def z4s {R : Type} (an : Nat) (b0 : List Nat) (k : Int) (i : Int) (kn_ : Int → Int → Option R) (k0_ : Unit → Option R) (k1_ : Int → Int → Bool → Option R) : Option R := (br (ltI i (Int.ofNat an)) (grd (okIx i an) (br (fcmp BinOp.neq FloatKind.f32 (gF b0 (ixO 0 i 1)) (fOI FloatKind.f32 k)) (k0_ ()) (kn_ (addI IntKind.i64 k 1) (addI IntKind.i64 i 1)))) (k1_ k i (ltI i (Int.ofNat an))))
theorem zcr {R R' : Type} (o : Option R → Option R') (h0 : o none = none) (an : Nat) (b0 : List Nat) (k : Int) (i : Int) (kn_ : Int → Int → Option R) (k0_ : Unit → Option R) (k1_ : Int → Int → Bool → Option R) : z4s an b0 k i (fun k' i' => o (kn_ k' i')) (fun _ => o (k0_ ())) (fun c0_ c1_ c2_ => o (k1_ c0_ c1_ c2_)) = o (z4s an b0 k i kn_ k0_ k1_) := by
  unfold z4s
  repeat (first | refine grd_out h0 ?_ | refine br_out ?_ ?_ | rfl | exact h0.symm)
noncomputable def z3i (an : Nat) (b0 : List Nat) : Nat → Int → Int → Option ((Unit) ⊕ (Int × Int × Bool))
  | 0, _, _ => none
  | n + 1, k, i => z4s an b0  k i  (fun k' i' => z3i an b0 n k' i') (fun _ => some (Sum.inl ())) (fun c0_ c1_ c2_ => some (Sum.inr (c0_, c1_, c2_)))
theorem zb0 (an : Nat) (b0 : List Nat) (n : Nat) (k : Int) (i : Int) : z3i an b0 (n + 1) k i = z4s an b0  k i  (fun k' i' => z3i an b0 n k' i') (fun _ => some (Sum.inl ())) (fun c0_ c1_ c2_ => some (Sum.inr (c0_, c1_, c2_))) := rfl
noncomputable def z7s (an : Nat) (b0 : List Nat) (k : Int) (i : Int) : Bool := (z3i an b0 big k i).isSome
noncomputable def z77 (an : Nat) (b0 : List Nat) (k : Int) (i : Int) : Bool := oL (z3i an b0 big k i)
noncomputable def z6t (an : Nat) (b0 : List Nat) (k : Int) (i : Int) : Int := ((tR (z3i an b0 big k i)).getD default).1
noncomputable def z8k (an : Nat) (b0 : List Nat) (k : Int) (i : Int) : Int := ((tR (z3i an b0 big k i)).getD default).2.1
noncomputable def z8h (an : Nat) (b0 : List Nat) (k : Int) (i : Int) : Bool := ((tR (z3i an b0 big k i)).getD default).2.2
theorem zd1 {an : Nat} {b0 : List Nat} {k : Int} {i : Int} {m : Nat} {r : Int × Int × Bool} (hm : m = big) (h : z3i an b0 m k i = some (Sum.inr r)) : z7s an b0 k i = true ∧ z77 an b0 k i = false ∧ z6t an b0 k i = r.1 ∧ z8k an b0 k i = r.2.1 ∧ z8h an b0 k i = r.2.2 := by
  subst hm
  unfold z7s z77 z6t z8k z8h
  rw [h]
  exact ⟨rfl, rfl, rfl, rfl, rfl⟩
noncomputable def z6f {R : Type} (a_n : Nat) (a : List Nat) (k : Int) (k_ : Int → Option R) : Option R := (grd (z7s a_n a k 0) (br (z77 a_n a k 0) (k_ (Int.negSucc 0)) (k_ (z6t a_n a k 0))))
noncomputable def z6h (a_n : Nat) (a : List Nat) (k : Int) : Option (Int) := z6f a_n a k (fun c0_ => some c0_)
theorem zdh {R R' : Type} (o : Option R → Option R') (h0 : o none = none) (a_n : Nat) (a : List Nat) (k : Int) (k_ : Int → Option R) : z6f a_n a k (fun c0_ => o (k_ c0_)) = o (z6f a_n a k k_) := by
  unfold z6f
  repeat (first | refine grd_out h0 ?_ | refine br_out ?_ ?_ | rfl | exact h0.symm)
noncomputable def z6g (a_n : Nat) (a : List Nat) (k : Int) : Bool := (z6h a_n a k).isSome
noncomputable def z3r (a_n : Nat) (a : List Nat) (k : Int) : Int := ((z6h a_n a k).getD default)
theorem zb6 {a_n : Nat} {a : List Nat} {k : Int} {r : Int} (h : z6h a_n a k = some r) : z6g a_n a k = true ∧ z3r a_n a k = r := by
  unfold z6g z3r
  rw [h]
  exact ⟨rfl, rfl⟩
noncomputable def z75 {R : Type} (x : Nat) (k_ : Bool → Option R) : Option R := (grd (zbu x) (k_ (bnot (zbg x))))
noncomputable def z74 (x : Nat) : Option (Bool) := z75 x (fun c0_ => some c0_)
theorem ze5 {R R' : Type} (o : Option R → Option R') (h0 : o none = none) (x : Nat) (k_ : Bool → Option R) : z75 x (fun c0_ => o (k_ c0_)) = o (z75 x k_) := by
  unfold z75
  repeat (first | refine grd_out h0 ?_ | refine br_out ?_ ?_ | rfl | exact h0.symm)
noncomputable def zad (x : Nat) : Bool := (z74 x).isSome
noncomputable def z9t (x : Nat) : Bool := ((z74 x).getD default)
theorem zfd {x : Nat} {r : Bool} (h : z74 x = some r) : zad x = true ∧ z9t x = r := by
  unfold zad z9t
  rw [h]
  exact ⟨rfl, rfl⟩
noncomputable def zao {R : Type} (x : Nat) (k_ : Nat → Option R) : Option R := (grd (bnot (nanQ FloatKind.f64 x)) (k_ (fint Ieee.Toward.zero x)))
noncomputable def zas (x : Nat) : Option (Nat) := zao x (fun c0_ => some c0_)
theorem zg6 {R R' : Type} (o : Option R → Option R') (h0 : o none = none) (x : Nat) (k_ : Nat → Option R) : zao x (fun c0_ => o (k_ c0_)) = o (zao x k_) := by
  unfold zao
  repeat (first | refine grd_out h0 ?_ | refine br_out ?_ ?_ | rfl | exact h0.symm)
noncomputable def zc6 (x : Nat) : Bool := (zas x).isSome
noncomputable def z8d (x : Nat) : Nat := ((zas x).getD default)
theorem zh1 {x : Nat} {r : Nat} (h : zas x = some r) : zc6 x = true ∧ z8d x = r := by
  unfold zc6 z8d
  rw [h]
  exact ⟨rfl, rfl⟩
noncomputable def z53 {R : Type} (an : Nat) (bn : Nat) (b0 : List Nat) (b1 : List Nat) (i : Int) (kn_ : Int → Option R) (k0_ : Unit → Option R) (k1_ : Int → Bool → Option R) : Option R := (br (ltI i (Int.ofNat an)) (grd (okIx i an) (grd (okIx i bn) (grd (zb3 (fcvV FloatKind.f32 FloatKind.f64 (gF b0 (ixO 0 i 1))) (fcvV FloatKind.f32 FloatKind.f64 (gF b1 (ixO 0 i 1)))) (br (bnot (zac (fcvV FloatKind.f32 FloatKind.f64 (gF b0 (ixO 0 i 1))) (fcvV FloatKind.f32 FloatKind.f64 (gF b1 (ixO 0 i 1))))) (k0_ ()) (kn_ (addI IntKind.i64 i 1)))))) (k1_ i (ltI i (Int.ofNat an))))
theorem zd7 {R R' : Type} (o : Option R → Option R') (h0 : o none = none) (an : Nat) (bn : Nat) (b0 : List Nat) (b1 : List Nat) (i : Int) (kn_ : Int → Option R) (k0_ : Unit → Option R) (k1_ : Int → Bool → Option R) : z53 an bn b0 b1 i (fun i' => o (kn_ i')) (fun _ => o (k0_ ())) (fun c0_ c1_ => o (k1_ c0_ c1_)) = o (z53 an bn b0 b1 i kn_ k0_ k1_) := by
  unfold z53
  repeat (first | refine grd_out h0 ?_ | refine br_out ?_ ?_ | rfl | exact h0.symm)
noncomputable def z48 (an : Nat) (bn : Nat) (b0 : List Nat) (b1 : List Nat) : Nat → Int → Option ((Unit) ⊕ (Int × Bool))
  | 0, _ => none
  | n + 1, i => z53 an bn b0 b1  i  (fun i' => z48 an bn b0 b1 n i') (fun _ => some (Sum.inl ())) (fun c0_ c1_ => some (Sum.inr (c0_, c1_)))
theorem zbk (an : Nat) (bn : Nat) (b0 : List Nat) (b1 : List Nat) (n : Nat) (i : Int) : z48 an bn b0 b1 (n + 1) i = z53 an bn b0 b1  i  (fun i' => z48 an bn b0 b1 n i') (fun _ => some (Sum.inl ())) (fun c0_ c1_ => some (Sum.inr (c0_, c1_))) := rfl
noncomputable def z8g (an : Nat) (bn : Nat) (b0 : List Nat) (b1 : List Nat) (i : Int) : Bool := (z48 an bn b0 b1 big i).isSome
noncomputable def z8b (an : Nat) (bn : Nat) (b0 : List Nat) (b1 : List Nat) (i : Int) : Bool := oL (z48 an bn b0 b1 big i)
noncomputable def z9a (an : Nat) (bn : Nat) (b0 : List Nat) (b1 : List Nat) (i : Int) : Int := ((tR (z48 an bn b0 b1 big i)).getD default).1
noncomputable def z9b (an : Nat) (bn : Nat) (b0 : List Nat) (b1 : List Nat) (i : Int) : Bool := ((tR (z48 an bn b0 b1 big i)).getD default).2
theorem zdw {an : Nat} {bn : Nat} {b0 : List Nat} {b1 : List Nat} {i : Int} {m : Nat} {r : Int × Bool} (hm : m = big) (h : z48 an bn b0 b1 m i = some (Sum.inr r)) : z8g an bn b0 b1 i = true ∧ z8b an bn b0 b1 i = false ∧ z9a an bn b0 b1 i = r.1 ∧ z9b an bn b0 b1 i = r.2 := by
  subst hm
  unfold z8g z8b z9a z9b
  rw [h]
  exact ⟨rfl, rfl, rfl, rfl⟩
noncomputable def z4t {R : Type} (t6 : Nat) (t7 : Nat) (t8 : Int) (kn_ : Nat → Int → Option R) (k0_ : Nat → Int → Bool → Option R) : Option R := (br (leI 1 t8) (kn_ (fop BinOp.sub FloatKind.f64 4607182418800017408 (fop BinOp.quo FloatKind.f64 (fop BinOp.mul FloatKind.f64 t6 t7) (fOI FloatKind.f64 (mulI IntKind.i64 (mulI IntKind.i64 2 t8) (addI IntKind.i64 (mulI IntKind.i64 2 t8) 1))))) (subI IntKind.i64 t8 1)) (k0_ t7 t8 (leI 1 t8)))
theorem zcn {R R' : Type} (o : Option R → Option R') (h0 : o none = none) (t6 : Nat) (t7 : Nat) (t8 : Int) (kn_ : Nat → Int → Option R) (k0_ : Nat → Int → Bool → Option R) : z4t t6 t7 t8 (fun t7' t8' => o (kn_ t7' t8')) (fun c0_ c1_ c2_ => o (k0_ c0_ c1_ c2_)) = o (z4t t6 t7 t8 kn_ k0_) := by
  unfold z4t
  repeat (first | refine grd_out h0 ?_ | refine br_out ?_ ?_ | rfl | exact h0.symm)
noncomputable def z3q (t6 : Nat) : Nat → Nat → Int → Option ((Nat × Int × Bool))
  | 0, _, _ => none
  | n + 1, t7, t8 => z4t t6  t7 t8  (fun t7' t8' => z3q t6 n t7' t8') (fun c0_ c1_ c2_ => some (c0_, c1_, c2_))
theorem zay (t6 : Nat) (n : Nat) (t7 : Nat) (t8 : Int) : z3q t6 (n + 1) t7 t8 = z4t t6  t7 t8  (fun t7' t8' => z3q t6 n t7' t8') (fun c0_ c1_ c2_ => some (c0_, c1_, c2_)) := rfl
noncomputable def z42 (t6 : Nat) (t7 : Nat) (t8 : Int) : Bool := (z3q t6 big t7 t8).isSome
noncomputable def z2h (t6 : Nat) (t7 : Nat) (t8 : Int) : Nat := ((z3q t6 big t7 t8).getD default).1
noncomputable def z8q (t6 : Nat) (t7 : Nat) (t8 : Int) : Int := ((z3q t6 big t7 t8).getD default).2.1
noncomputable def z8p (t6 : Nat) (t7 : Nat) (t8 : Int) : Bool := ((z3q t6 big t7 t8).getD default).2.2
theorem zd9 {t6 : Nat} {t7 : Nat} {t8 : Int} {m : Nat} {r : Nat × Int × Bool} (hm : m = big) (h : z3q t6 m t7 t8 = some r) : z42 t6 t7 t8 = true ∧ z2h t6 t7 t8 = r.1 ∧ z8q t6 t7 t8 = r.2.1 ∧ z8p t6 t7 t8 = r.2.2 := by
  subst hm
  unfold z42 z2h z8q z8p
  rw [h]
  exact ⟨rfl, rfl, rfl, rfl⟩
noncomputable def z71 {R : Type} (a_n : Nat) (a : List Nat) (b_n : Nat) (b : List Nat) (k_ : Bool → Option R) : Option R := (br (neI (Int.ofNat a_n) (Int.ofNat b_n)) (k_ Bool.false) (grd (z8g a_n b_n a b 0) (br (z8b a_n b_n a b 0) (k_ Bool.false) (k_ Bool.true))))
noncomputable def z6z (a_n : Nat) (a : List Nat) (b_n : Nat) (b : List Nat) : Option (Bool) := z71 a_n a b_n b (fun c0_ => some c0_)
theorem zea {R R' : Type} (o : Option R → Option R') (h0 : o none = none) (a_n : Nat) (a : List Nat) (b_n : Nat) (b : List Nat) (k_ : Bool → Option R) : z71 a_n a b_n b (fun c0_ => o (k_ c0_)) = o (z71 a_n a b_n b k_) := by
  unfold z71
  repeat (first | refine grd_out h0 ?_ | refine br_out ?_ ?_ | rfl | exact h0.symm)
noncomputable def z73 (a_n : Nat) (a : List Nat) (b_n : Nat) (b : List Nat) : Bool := (z6z a_n a b_n b).isSome
noncomputable def z6s (a_n : Nat) (a : List Nat) (b_n : Nat) (b : List Nat) : Bool := ((z6z a_n a b_n b).getD default)
theorem zbn {a_n : Nat} {a : List Nat} {b_n : Nat} {b : List Nat} {r : Bool} (h : z6z a_n a b_n b = some r) : z73 a_n a b_n b = true ∧ z6s a_n a b_n b = r := by
  unfold z73 z6s
  rw [h]
  exact ⟨rfl, rfl⟩
noncomputable def z6m {R : Type} (q09 : Nat) (q0g : List Nat) (q0e : Nat) (q0k : List Nat) (q0f : Nat) (q0l : List Nat) (k : Int) (k_ : Int → Option R) : Option R := (grd (z6g q09 (pF q0g 0 (muN q09 1)) k) (br (ltI (z3r q09 (pF q0g 0 (muN q09 1)) k) 0) (k_ (Int.negSucc 0)) (grd (z6g q0e (pF q0k 0 (muN q0e 1)) (z3r q09 (pF q0g 0 (muN q09 1)) k)) (br (ltI (z3r q0e (pF q0k 0 (muN q0e 1)) (z3r q09 (pF q0g 0 (muN q09 1)) k)) 0) (k_ (Int.negSucc 0)) (grd (z6g q0f (pF q0l 0 (muN q0f 1)) (z3r q0e (pF q0k 0 (muN q0e 1)) (z3r q09 (pF q0g 0 (muN q09 1)) k))) (br (ltI (z3r q0f (pF q0l 0 (muN q0f 1)) (z3r q0e (pF q0k 0 (muN q0e 1)) (z3r q09 (pF q0g 0 (muN q09 1)) k))) 0) (k_ (Int.negSucc 0)) (k_ (z3r q0f (pF q0l 0 (muN q0f 1)) (z3r q0e (pF q0k 0 (muN q0e 1)) (z3r q09 (pF q0g 0 (muN q09 1)) k))))))))))
noncomputable def z6q (q09 : Nat) (q0g : List Nat) (q0e : Nat) (q0k : List Nat) (q0f : Nat) (q0l : List Nat) (k : Int) : Option (Int) := z6m q09 q0g q0e q0k q0f q0l k (fun c0_ => some c0_)
theorem zdx {R R' : Type} (o : Option R → Option R') (h0 : o none = none) (q09 : Nat) (q0g : List Nat) (q0e : Nat) (q0k : List Nat) (q0f : Nat) (q0l : List Nat) (k : Int) (k_ : Int → Option R) : z6m q09 q0g q0e q0k q0f q0l k (fun c0_ => o (k_ c0_)) = o (z6m q09 q0g q0e q0k q0f q0l k k_) := by
  unfold z6m
  repeat (first | refine grd_out h0 ?_ | refine br_out ?_ ?_ | rfl | exact h0.symm)
noncomputable def z7w (q09 : Nat) (q0g : List Nat) (q0e : Nat) (q0k : List Nat) (q0f : Nat) (q0l : List Nat) (k : Int) : Bool := (z6q q09 q0g q0e q0k q0f q0l k).isSome
noncomputable def z60 (q09 : Nat) (q0g : List Nat) (q0e : Nat) (q0k : List Nat) (q0f : Nat) (q0l : List Nat) (k : Int) : Int := ((z6q q09 q0g q0e q0k q0f q0l k).getD default)
theorem zet {q09 : Nat} {q0g : List Nat} {q0e : Nat} {q0k : List Nat} {q0f : Nat} {q0l : List Nat} {k : Int} {r : Int} (h : z6q q09 q0g q0e q0k q0f q0l k = some r) : z7w q09 q0g q0e q0k q0f q0l k = true ∧ z60 q09 q0g q0e q0k q0f q0l k = r := by
  unfold z7w z60
  rw [h]
  exact ⟨rfl, rfl⟩
noncomputable def z5r {R : Type} (q02 : Nat) (k_ : Nat → Option R) : Option R := (br (fcmp BinOp.neq FloatKind.f64 (fop BinOp.sub FloatKind.f64 q02 q02) 0) (grd zca (k_ zbd)) (br (fcmp BinOp.geq FloatKind.f64 q02 4841369599423283200) (k_ 0) (br (fcmp BinOp.leq FloatKind.f64 q02 14064741636278059008) (k_ 0) (grd (f2iB FloatKind.f64 q02 IntKind.i64) (br (fcmp BinOp.lss FloatKind.f64 (fop BinOp.sub FloatKind.f64 q02 (fOI FloatKind.f64 (f2iV FloatKind.f64 q02 IntKind.i64))) 0) (br (fcmp BinOp.geq FloatKind.f64 (fop BinOp.add FloatKind.f64 (fop BinOp.sub FloatKind.f64 q02 (fOI FloatKind.f64 (f2iV FloatKind.f64 q02 IntKind.i64))) 4607182418800017408) 4602678819172646912) (br (fcmp BinOp.gtr FloatKind.f64 (fop BinOp.sub FloatKind.f64 (fop BinOp.add FloatKind.f64 (fop BinOp.sub FloatKind.f64 q02 (fOI FloatKind.f64 (f2iV FloatKind.f64 q02 IntKind.i64))) 4607182418800017408) 4602678819172646912) 4598175219545276416) (grd (z42 (fop BinOp.mul FloatKind.f64 (fop BinOp.mul FloatKind.f64 (fop BinOp.sub FloatKind.f64 4602678819172646912 (fop BinOp.sub FloatKind.f64 (fop BinOp.add FloatKind.f64 (fop BinOp.sub FloatKind.f64 q02 (fOI FloatKind.f64 (f2iV FloatKind.f64 q02 IntKind.i64))) 4607182418800017408) 4602678819172646912)) 4618760256179416344) (fop BinOp.mul FloatKind.f64 (fop BinOp.sub FloatKind.f64 4602678819172646912 (fop BinOp.sub FloatKind.f64 (fop BinOp.add FloatKind.f64 (fop BinOp.sub FloatKind.f64 q02 (fOI FloatKind.f64 (f2iV FloatKind.f64 q02 IntKind.i64))) 4607182418800017408) 4602678819172646912)) 4618760256179416344)) 4607182418800017408 8) (br (fcmp BinOp.geq FloatKind.f64 (fop BinOp.add FloatKind.f64 (fop BinOp.sub FloatKind.f64 q02 (fOI FloatKind.f64 (f2iV FloatKind.f64 q02 IntKind.i64))) 4607182418800017408) 4602678819172646912) (k_ (fneg FloatKind.f64 (fop BinOp.mul FloatKind.f64 (fop BinOp.mul FloatKind.f64 (fop BinOp.sub FloatKind.f64 4602678819172646912 (fop BinOp.sub FloatKind.f64 (fop BinOp.add FloatKind.f64 (fop BinOp.sub FloatKind.f64 q02 (fOI FloatKind.f64 (f2iV FloatKind.f64 q02 IntKind.i64))) 4607182418800017408) 4602678819172646912)) 4618760256179416344) (z2h (fop BinOp.mul FloatKind.f64 (fop BinOp.mul FloatKind.f64 (fop BinOp.sub FloatKind.f64 4602678819172646912 (fop BinOp.sub FloatKind.f64 (fop BinOp.add FloatKind.f64 (fop BinOp.sub FloatKind.f64 q02 (fOI FloatKind.f64 (f2iV FloatKind.f64 q02 IntKind.i64))) 4607182418800017408) 4602678819172646912)) 4618760256179416344) (fop BinOp.mul FloatKind.f64 (fop BinOp.sub FloatKind.f64 4602678819172646912 (fop BinOp.sub FloatKind.f64 (fop BinOp.add FloatKind.f64 (fop BinOp.sub FloatKind.f64 q02 (fOI FloatKind.f64 (f2iV FloatKind.f64 q02 IntKind.i64))) 4607182418800017408) 4602678819172646912)) 4618760256179416344)) 4607182418800017408 8)))) (k_ (fop BinOp.mul FloatKind.f64 (fop BinOp.mul FloatKind.f64 (fop BinOp.sub FloatKind.f64 4602678819172646912 (fop BinOp.sub FloatKind.f64 (fop BinOp.add FloatKind.f64 (fop BinOp.sub FloatKind.f64 q02 (fOI FloatKind.f64 (f2iV FloatKind.f64 q02 IntKind.i64))) 4607182418800017408) 4602678819172646912)) 4618760256179416344) (z2h (fop BinOp.mul FloatKind.f64 (fop BinOp.mul FloatKind.f64 (fop BinOp.sub FloatKind.f64 4602678819172646912 (fop BinOp.sub FloatKind.f64 (fop BinOp.add FloatKind.f64 (fop BinOp.sub FloatKind.f64 q02 (fOI FloatKind.f64 (f2iV FloatKind.f64 q02 IntKind.i64))) 4607182418800017408) 4602678819172646912)) 4618760256179416344) (fop BinOp.mul FloatKind.f64 (fop BinOp.sub FloatKind.f64 4602678819172646912 (fop BinOp.sub FloatKind.f64 (fop BinOp.add FloatKind.f64 (fop BinOp.sub FloatKind.f64 q02 (fOI FloatKind.f64 (f2iV FloatKind.f64 q02 IntKind.i64))) 4607182418800017408) 4602678819172646912)) 4618760256179416344)) 4607182418800017408 8))))) (grd (z42 (fop BinOp.mul FloatKind.f64 (fop BinOp.mul FloatKind.f64 (fop BinOp.sub FloatKind.f64 (fop BinOp.add FloatKind.f64 (fop BinOp.sub FloatKind.f64 q02 (fOI FloatKind.f64 (f2iV FloatKind.f64 q02 IntKind.i64))) 4607182418800017408) 4602678819172646912) 4618760256179416344) (fop BinOp.mul FloatKind.f64 (fop BinOp.sub FloatKind.f64 (fop BinOp.add FloatKind.f64 (fop BinOp.sub FloatKind.f64 q02 (fOI FloatKind.f64 (f2iV FloatKind.f64 q02 IntKind.i64))) 4607182418800017408) 4602678819172646912) 4618760256179416344)) 4607182418800017408 8) (br (fcmp BinOp.geq FloatKind.f64 (fop BinOp.add FloatKind.f64 (fop BinOp.sub FloatKind.f64 q02 (fOI FloatKind.f64 (f2iV FloatKind.f64 q02 IntKind.i64))) 4607182418800017408) 4602678819172646912) (k_ (fneg FloatKind.f64 (fop BinOp.mul FloatKind.f64 (fop BinOp.mul FloatKind.f64 (fop BinOp.sub FloatKind.f64 (fop BinOp.add FloatKind.f64 (fop BinOp.sub FloatKind.f64 q02 (fOI FloatKind.f64 (f2iV FloatKind.f64 q02 IntKind.i64))) 4607182418800017408) 4602678819172646912) 4618760256179416344) (z2h (fop BinOp.mul FloatKind.f64 (fop BinOp.mul FloatKind.f64 (fop BinOp.sub FloatKind.f64 (fop BinOp.add FloatKind.f64 (fop BinOp.sub FloatKind.f64 q02 (fOI FloatKind.f64 (f2iV FloatKind.f64 q02 IntKind.i64))) 4607182418800017408) 4602678819172646912) 4618760256179416344) (fop BinOp.mul FloatKind.f64 (fop BinOp.sub FloatKind.f64 (fop BinOp.add FloatKind.f64 (fop BinOp.sub FloatKind.f64 q02 (fOI FloatKind.f64 (f2iV FloatKind.f64 q02 IntKind.i64))) 4607182418800017408) 4602678819172646912) 4618760256179416344)) 4607182418800017408 8)))) (k_ (fop BinOp.mul FloatKind.f64 (fop BinOp.mul FloatKind.f64 (fop BinOp.sub FloatKind.f64 (fop BinOp.add FloatKind.f64 (fop BinOp.sub FloatKind.f64 q02 (fOI FloatKind.f64 (f2iV FloatKind.f64 q02 IntKind.i64))) 4607182418800017408) 4602678819172646912) 4618760256179416344) (z2h (fop BinOp.mul FloatKind.f64 (fop BinOp.mul FloatKind.f64 (fop BinOp.sub FloatKind.f64 (fop BinOp.add FloatKind.f64 (fop BinOp.sub FloatKind.f64 q02 (fOI FloatKind.f64 (f2iV FloatKind.f64 q02 IntKind.i64))) 4607182418800017408) 4602678819172646912) 4618760256179416344) (fop BinOp.mul FloatKind.f64 (fop BinOp.sub FloatKind.f64 (fop BinOp.add FloatKind.f64 (fop BinOp.sub FloatKind.f64 q02 (fOI FloatKind.f64 (f2iV FloatKind.f64 q02 IntKind.i64))) 4607182418800017408) 4602678819172646912) 4618760256179416344)) 4607182418800017408 8)))))) (br (fcmp BinOp.gtr FloatKind.f64 (fop BinOp.add FloatKind.f64 (fop BinOp.sub FloatKind.f64 q02 (fOI FloatKind.f64 (f2iV FloatKind.f64 q02 IntKind.i64))) 4607182418800017408) 4598175219545276416) (grd (z42 (fop BinOp.mul FloatKind.f64 (fop BinOp.mul FloatKind.f64 (fop BinOp.sub FloatKind.f64 4602678819172646912 (fop BinOp.add FloatKind.f64 (fop BinOp.sub FloatKind.f64 q02 (fOI FloatKind.f64 (f2iV FloatKind.f64 q02 IntKind.i64))) 4607182418800017408)) 4618760256179416344) (fop BinOp.mul FloatKind.f64 (fop BinOp.sub FloatKind.f64 4602678819172646912 (fop BinOp.add FloatKind.f64 (fop BinOp.sub FloatKind.f64 q02 (fOI FloatKind.f64 (f2iV FloatKind.f64 q02 IntKind.i64))) 4607182418800017408)) 4618760256179416344)) 4607182418800017408 8) (br (fcmp BinOp.geq FloatKind.f64 (fop BinOp.add FloatKind.f64 (fop BinOp.sub FloatKind.f64 q02 (fOI FloatKind.f64 (f2iV FloatKind.f64 q02 IntKind.i64))) 4607182418800017408) 4602678819172646912) (k_ (fneg FloatKind.f64 (fop BinOp.mul FloatKind.f64 (fop BinOp.mul FloatKind.f64 (fop BinOp.sub FloatKind.f64 4602678819172646912 (fop BinOp.add FloatKind.f64 (fop BinOp.sub FloatKind.f64 q02 (fOI FloatKind.f64 (f2iV FloatKind.f64 q02 IntKind.i64))) 4607182418800017408)) 4618760256179416344) (z2h (fop BinOp.mul FloatKind.f64 (fop BinOp.mul FloatKind.f64 (fop BinOp.sub FloatKind.f64 4602678819172646912 (fop BinOp.add FloatKind.f64 (fop BinOp.sub FloatKind.f64 q02 (fOI FloatKind.f64 (f2iV FloatKind.f64 q02 IntKind.i64))) 4607182418800017408)) 4618760256179416344) (fop BinOp.mul FloatKind.f64 (fop BinOp.sub FloatKind.f64 4602678819172646912 (fop BinOp.add FloatKind.f64 (fop BinOp.sub FloatKind.f64 q02 (fOI FloatKind.f64 (f2iV FloatKind.f64 q02 IntKind.i64))) 4607182418800017408)) 4618760256179416344)) 4607182418800017408 8)))) (k_ (fop BinOp.mul FloatKind.f64 (fop BinOp.mul FloatKind.f64 (fop BinOp.sub FloatKind.f64 4602678819172646912 (fop BinOp.add FloatKind.f64 (fop BinOp.sub FloatKind.f64 q02 (fOI FloatKind.f64 (f2iV FloatKind.f64 q02 IntKind.i64))) 4607182418800017408)) 4618760256179416344) (z2h (fop BinOp.mul FloatKind.f64 (fop BinOp.mul FloatKind.f64 (fop BinOp.sub FloatKind.f64 4602678819172646912 (fop BinOp.add FloatKind.f64 (fop BinOp.sub FloatKind.f64 q02 (fOI FloatKind.f64 (f2iV FloatKind.f64 q02 IntKind.i64))) 4607182418800017408)) 4618760256179416344) (fop BinOp.mul FloatKind.f64 (fop BinOp.sub FloatKind.f64 4602678819172646912 (fop BinOp.add FloatKind.f64 (fop BinOp.sub FloatKind.f64 q02 (fOI FloatKind.f64 (f2iV FloatKind.f64 q02 IntKind.i64))) 4607182418800017408)) 4618760256179416344)) 4607182418800017408 8))))) (grd (z42 (fop BinOp.mul FloatKind.f64 (fop BinOp.mul FloatKind.f64 (fop BinOp.add FloatKind.f64 (fop BinOp.sub FloatKind.f64 q02 (fOI FloatKind.f64 (f2iV FloatKind.f64 q02 IntKind.i64))) 4607182418800017408) 4618760256179416344) (fop BinOp.mul FloatKind.f64 (fop BinOp.add FloatKind.f64 (fop BinOp.sub FloatKind.f64 q02 (fOI FloatKind.f64 (f2iV FloatKind.f64 q02 IntKind.i64))) 4607182418800017408) 4618760256179416344)) 4607182418800017408 8) (br (fcmp BinOp.geq FloatKind.f64 (fop BinOp.add FloatKind.f64 (fop BinOp.sub FloatKind.f64 q02 (fOI FloatKind.f64 (f2iV FloatKind.f64 q02 IntKind.i64))) 4607182418800017408) 4602678819172646912) (k_ (fneg FloatKind.f64 (fop BinOp.mul FloatKind.f64 (fop BinOp.mul FloatKind.f64 (fop BinOp.add FloatKind.f64 (fop BinOp.sub FloatKind.f64 q02 (fOI FloatKind.f64 (f2iV FloatKind.f64 q02 IntKind.i64))) 4607182418800017408) 4618760256179416344) (z2h (fop BinOp.mul FloatKind.f64 (fop BinOp.mul FloatKind.f64 (fop BinOp.add FloatKind.f64 (fop BinOp.sub FloatKind.f64 q02 (fOI FloatKind.f64 (f2iV FloatKind.f64 q02 IntKind.i64))) 4607182418800017408) 4618760256179416344) (fop BinOp.mul FloatKind.f64 (fop BinOp.add FloatKind.f64 (fop BinOp.sub FloatKind.f64 q02 (fOI FloatKind.f64 (f2iV FloatKind.f64 q02 IntKind.i64))) 4607182418800017408) 4618760256179416344)) 4607182418800017408 8)))) (k_ (fop BinOp.mul FloatKind.f64 (fop BinOp.mul FloatKind.f64 (fop BinOp.add FloatKind.f64 (fop BinOp.sub FloatKind.f64 q02 (fOI FloatKind.f64 (f2iV FloatKind.f64 q02 IntKind.i64))) 4607182418800017408) 4618760256179416344) (z2h (fop BinOp.mul FloatKind.f64 (fop BinOp.mul FloatKind.f64 (fop BinOp.add FloatKind.f64 (fop BinOp.sub FloatKind.f64 q02 (fOI FloatKind.f64 (f2iV FloatKind.f64 q02 IntKind.i64))) 4607182418800017408) 4618760256179416344) (fop BinOp.mul FloatKind.f64 (fop BinOp.add FloatKind.f64 (fop BinOp.sub FloatKind.f64 q02 (fOI FloatKind.f64 (f2iV FloatKind.f64 q02 IntKind.i64))) 4607182418800017408) 4618760256179416344)) 4607182418800017408 8))))))) (br (fcmp BinOp.geq FloatKind.f64 (fop BinOp.sub FloatKind.f64 q02 (fOI FloatKind.f64 (f2iV FloatKind.f64 q02 IntKind.i64))) 4602678819172646912) (br (fcmp BinOp.gtr FloatKind.f64 (fop BinOp.sub FloatKind.f64 (fop BinOp.sub FloatKind.f64 q02 (fOI FloatKind.f64 (f2iV FloatKind.f64 q02 IntKind.i64))) 4602678819172646912) 4598175219545276416) (grd (z42 (fop BinOp.mul FloatKind.f64 (fop BinOp.mul FloatKind.f64 (fop BinOp.sub FloatKind.f64 4602678819172646912 (fop BinOp.sub FloatKind.f64 (fop BinOp.sub FloatKind.f64 q02 (fOI FloatKind.f64 (f2iV FloatKind.f64 q02 IntKind.i64))) 4602678819172646912)) 4618760256179416344) (fop BinOp.mul FloatKind.f64 (fop BinOp.sub FloatKind.f64 4602678819172646912 (fop BinOp.sub FloatKind.f64 (fop BinOp.sub FloatKind.f64 q02 (fOI FloatKind.f64 (f2iV FloatKind.f64 q02 IntKind.i64))) 4602678819172646912)) 4618760256179416344)) 4607182418800017408 8) (br (fcmp BinOp.geq FloatKind.f64 (fop BinOp.sub FloatKind.f64 q02 (fOI FloatKind.f64 (f2iV FloatKind.f64 q02 IntKind.i64))) 4602678819172646912) (k_ (fneg FloatKind.f64 (fop BinOp.mul FloatKind.f64 (fop BinOp.mul FloatKind.f64 (fop BinOp.sub FloatKind.f64 4602678819172646912 (fop BinOp.sub FloatKind.f64 (fop BinOp.sub FloatKind.f64 q02 (fOI FloatKind.f64 (f2iV FloatKind.f64 q02 IntKind.i64))) 4602678819172646912)) 4618760256179416344) (z2h (fop BinOp.mul FloatKind.f64 (fop BinOp.mul FloatKind.f64 (fop BinOp.sub FloatKind.f64 4602678819172646912 (fop BinOp.sub FloatKind.f64 (fop BinOp.sub FloatKind.f64 q02 (fOI FloatKind.f64 (f2iV FloatKind.f64 q02 IntKind.i64))) 4602678819172646912)) 4618760256179416344) (fop BinOp.mul FloatKind.f64 (fop BinOp.sub FloatKind.f64 4602678819172646912 (fop BinOp.sub FloatKind.f64 (fop BinOp.sub FloatKind.f64 q02 (fOI FloatKind.f64 (f2iV FloatKind.f64 q02 IntKind.i64))) 4602678819172646912)) 4618760256179416344)) 4607182418800017408 8)))) (k_ (fop BinOp.mul FloatKind.f64 (fop BinOp.mul FloatKind.f64 (fop BinOp.sub FloatKind.f64 4602678819172646912 (fop BinOp.sub FloatKind.f64 (fop BinOp.sub FloatKind.f64 q02 (fOI FloatKind.f64 (f2iV FloatKind.f64 q02 IntKind.i64))) 4602678819172646912)) 4618760256179416344) (z2h (fop BinOp.mul FloatKind.f64 (fop BinOp.mul FloatKind.f64 (fop BinOp.sub FloatKind.f64 4602678819172646912 (fop BinOp.sub FloatKind.f64 (fop BinOp.sub FloatKind.f64 q02 (fOI FloatKind.f64 (f2iV FloatKind.f64 q02 IntKind.i64))) 4602678819172646912)) 4618760256179416344) (fop BinOp.mul FloatKind.f64 (fop BinOp.sub FloatKind.f64 4602678819172646912 (fop BinOp.sub FloatKind.f64 (fop BinOp.sub FloatKind.f64 q02 (fOI FloatKind.f64 (f2iV FloatKind.f64 q02 IntKind.i64))) 4602678819172646912)) 4618760256179416344)) 4607182418800017408 8))))) (grd (z42 (fop BinOp.mul FloatKind.f64 (fop BinOp.mul FloatKind.f64 (fop BinOp.sub FloatKind.f64 (fop BinOp.sub FloatKind.f64 q02 (fOI FloatKind.f64 (f2iV FloatKind.f64 q02 IntKind.i64))) 4602678819172646912) 4618760256179416344) (fop BinOp.mul FloatKind.f64 (fop BinOp.sub FloatKind.f64 (fop BinOp.sub FloatKind.f64 q02 (fOI FloatKind.f64 (f2iV FloatKind.f64 q02 IntKind.i64))) 4602678819172646912) 4618760256179416344)) 4607182418800017408 8) (br (fcmp BinOp.geq FloatKind.f64 (fop BinOp.sub FloatKind.f64 q02 (fOI FloatKind.f64 (f2iV FloatKind.f64 q02 IntKind.i64))) 4602678819172646912) (k_ (fneg FloatKind.f64 (fop BinOp.mul FloatKind.f64 (fop BinOp.mul FloatKind.f64 (fop BinOp.sub FloatKind.f64 (fop BinOp.sub FloatKind.f64 q02 (fOI FloatKind.f64 (f2iV FloatKind.f64 q02 IntKind.i64))) 4602678819172646912) 4618760256179416344) (z2h (fop BinOp.mul FloatKind.f64 (fop BinOp.mul FloatKind.f64 (fop BinOp.sub FloatKind.f64 (fop BinOp.sub FloatKind.f64 q02 (fOI FloatKind.f64 (f2iV FloatKind.f64 q02 IntKind.i64))) 4602678819172646912) 4618760256179416344) (fop BinOp.mul FloatKind.f64 (fop BinOp.sub FloatKind.f64 (fop BinOp.sub FloatKind.f64 q02 (fOI FloatKind.f64 (f2iV FloatKind.f64 q02 IntKind.i64))) 4602678819172646912) 4618760256179416344)) 4607182418800017408 8)))) (k_ (fop BinOp.mul FloatKind.f64 (fop BinOp.mul FloatKind.f64 (fop BinOp.sub FloatKind.f64 (fop BinOp.sub FloatKind.f64 q02 (fOI FloatKind.f64 (f2iV FloatKind.f64 q02 IntKind.i64))) 4602678819172646912) 4618760256179416344) (z2h (fop BinOp.mul FloatKind.f64 (fop BinOp.mul FloatKind.f64 (fop BinOp.sub FloatKind.f64 (fop BinOp.sub FloatKind.f64 q02 (fOI FloatKind.f64 (f2iV FloatKind.f64 q02 IntKind.i64))) 4602678819172646912) 4618760256179416344) (fop BinOp.mul FloatKind.f64 (fop BinOp.sub FloatKind.f64 (fop BinOp.sub FloatKind.f64 q02 (fOI FloatKind.f64 (f2iV FloatKind.f64 q02 IntKind.i64))) 4602678819172646912) 4618760256179416344)) 4607182418800017408 8)))))) (br (fcmp BinOp.gtr FloatKind.f64 (fop BinOp.sub FloatKind.f64 q02 (fOI FloatKind.f64 (f2iV FloatKind.f64 q02 IntKind.i64))) 4598175219545276416) (grd (z42 (fop BinOp.mul FloatKind.f64 (fop BinOp.mul FloatKind.f64 (fop BinOp.sub FloatKind.f64 4602678819172646912 (fop BinOp.sub FloatKind.f64 q02 (fOI FloatKind.f64 (f2iV FloatKind.f64 q02 IntKind.i64)))) 4618760256179416344) (fop BinOp.mul FloatKind.f64 (fop BinOp.sub FloatKind.f64 4602678819172646912 (fop BinOp.sub FloatKind.f64 q02 (fOI FloatKind.f64 (f2iV FloatKind.f64 q02 IntKind.i64)))) 4618760256179416344)) 4607182418800017408 8) (br (fcmp BinOp.geq FloatKind.f64 (fop BinOp.sub FloatKind.f64 q02 (fOI FloatKind.f64 (f2iV FloatKind.f64 q02 IntKind.i64))) 4602678819172646912) (k_ (fneg FloatKind.f64 (fop BinOp.mul FloatKind.f64 (fop BinOp.mul FloatKind.f64 (fop BinOp.sub FloatKind.f64 4602678819172646912 (fop BinOp.sub FloatKind.f64 q02 (fOI FloatKind.f64 (f2iV FloatKind.f64 q02 IntKind.i64)))) 4618760256179416344) (z2h (fop BinOp.mul FloatKind.f64 (fop BinOp.mul FloatKind.f64 (fop BinOp.sub FloatKind.f64 4602678819172646912 (fop BinOp.sub FloatKind.f64 q02 (fOI FloatKind.f64 (f2iV FloatKind.f64 q02 IntKind.i64)))) 4618760256179416344) (fop BinOp.mul FloatKind.f64 (fop BinOp.sub FloatKind.f64 4602678819172646912 (fop BinOp.sub FloatKind.f64 q02 (fOI FloatKind.f64 (f2iV FloatKind.f64 q02 IntKind.i64)))) 4618760256179416344)) 4607182418800017408 8)))) (k_ (fop BinOp.mul FloatKind.f64 (fop BinOp.mul FloatKind.f64 (fop BinOp.sub FloatKind.f64 4602678819172646912 (fop BinOp.sub FloatKind.f64 q02 (fOI FloatKind.f64 (f2iV FloatKind.f64 q02 IntKind.i64)))) 4618760256179416344) (z2h (fop BinOp.mul FloatKind.f64 (fop BinOp.mul FloatKind.f64 (fop BinOp.sub FloatKind.f64 4602678819172646912 (fop BinOp.sub FloatKind.f64 q02 (fOI FloatKind.f64 (f2iV FloatKind.f64 q02 IntKind.i64)))) 4618760256179416344) (fop BinOp.mul FloatKind.f64 (fop BinOp.sub FloatKind.f64 4602678819172646912 (fop BinOp.sub FloatKind.f64 q02 (fOI FloatKind.f64 (f2iV FloatKind.f64 q02 IntKind.i64)))) 4618760256179416344)) 4607182418800017408 8))))) (grd (z42 (fop BinOp.mul FloatKind.f64 (fop BinOp.mul FloatKind.f64 (fop BinOp.sub FloatKind.f64 q02 (fOI FloatKind.f64 (f2iV FloatKind.f64 q02 IntKind.i64))) 4618760256179416344) (fop BinOp.mul FloatKind.f64 (fop BinOp.sub FloatKind.f64 q02 (fOI FloatKind.f64 (f2iV FloatKind.f64 q02 IntKind.i64))) 4618760256179416344)) 4607182418800017408 8) (br (fcmp BinOp.geq FloatKind.f64 (fop BinOp.sub FloatKind.f64 q02 (fOI FloatKind.f64 (f2iV FloatKind.f64 q02 IntKind.i64))) 4602678819172646912) (k_ (fneg FloatKind.f64 (fop BinOp.mul FloatKind.f64 (fop BinOp.mul FloatKind.f64 (fop BinOp.sub FloatKind.f64 q02 (fOI FloatKind.f64 (f2iV FloatKind.f64 q02 IntKind.i64))) 4618760256179416344) (z2h (fop BinOp.mul FloatKind.f64 (fop BinOp.mul FloatKind.f64 (fop BinOp.sub FloatKind.f64 q02 (fOI FloatKind.f64 (f2iV FloatKind.f64 q02 IntKind.i64))) 4618760256179416344) (fop BinOp.mul FloatKind.f64 (fop BinOp.sub FloatKind.f64 q02 (fOI FloatKind.f64 (f2iV FloatKind.f64 q02 IntKind.i64))) 4618760256179416344)) 4607182418800017408 8)))) (k_ (fop BinOp.mul FloatKind.f64 (fop BinOp.mul FloatKind.f64 (fop BinOp.sub FloatKind.f64 q02 (fOI FloatKind.f64 (f2iV FloatKind.f64 q02 IntKind.i64))) 4618760256179416344) (z2h (fop BinOp.mul FloatKind.f64 (fop BinOp.mul FloatKind.f64 (fop BinOp.sub FloatKind.f64 q02 (fOI FloatKind.f64 (f2iV FloatKind.f64 q02 IntKind.i64))) 4618760256179416344) (fop BinOp.mul FloatKind.f64 (fop BinOp.sub FloatKind.f64 q02 (fOI FloatKind.f64 (f2iV FloatKind.f64 q02 IntKind.i64))) 4618760256179416344)) 4607182418800017408 8))))))))))))
noncomputable def z5h (q02 : Nat) : Option (Nat) := z5r q02 (fun c0_ => some c0_)
theorem ze4 {R R' : Type} (o : Option R → Option R') (h0 : o none = none) (q02 : Nat) (k_ : Nat → Option R) : z5r q02 (fun c0_ => o (k_ c0_)) = o (z5r q02 k_) := by
  unfold z5r
  repeat (first | refine grd_out h0 ?_ | refine br_out ?_ ?_ | rfl | exact h0.symm)
noncomputable def z9k (q02 : Nat) : Bool := (z5h q02).isSome
noncomputable def z78 (q02 : Nat) : Nat := ((z5h q02).getD default)
theorem zf4 {q02 : Nat} {r : Nat} (h : z5h q02 = some r) : z9k q02 = true ∧ z78 q02 = r := by
  unfold z9k z78
  rw [h]
  exact ⟨rfl, rfl⟩
noncomputable def z72 {R : Type} (q0h : Nat) (k_ : Nat → Option R) : Option R := (grd (zc6 q0h) (br (fcmp BinOp.eql FloatKind.f64 (z8d q0h) 0) (br (fcmp BinOp.lss FloatKind.f64 (fop BinOp.sub FloatKind.f64 q0h 0) 0) (k_ (fop BinOp.add FloatKind.f64 (fop BinOp.sub FloatKind.f64 q0h 0) 4607182418800017408)) (k_ (fop BinOp.sub FloatKind.f64 q0h 0))) (br (fcmp BinOp.lss FloatKind.f64 (fop BinOp.sub FloatKind.f64 q0h (z8d q0h)) 0) (k_ (fop BinOp.add FloatKind.f64 (fop BinOp.sub FloatKind.f64 q0h (z8d q0h)) 4607182418800017408)) (k_ (fop BinOp.sub FloatKind.f64 q0h (z8d q0h))))))
noncomputable def z70 (q0h : Nat) : Option (Nat) := z72 q0h (fun c0_ => some c0_)
theorem ze7 {R R' : Type} (o : Option R → Option R') (h0 : o none = none) (q0h : Nat) (k_ : Nat → Option R) : z72 q0h (fun c0_ => o (k_ c0_)) = o (z72 q0h k_) := by
  unfold z72
  repeat (first | refine grd_out h0 ?_ | refine br_out ?_ ?_ | rfl | exact h0.symm)
noncomputable def zaa (q0h : Nat) : Bool := (z70 q0h).isSome
noncomputable def z2q (q0h : Nat) : Nat := ((z70 q0h).getD default)
theorem zfi {q0h : Nat} {r : Nat} (h : z70 q0h = some r) : zaa q0h = true ∧ z2q q0h = r := by
  unfold zaa z2q
  rw [h]
  exact ⟨rfl, rfl⟩
noncomputable def z61 {R : Type} (t3 : Int) (b0 : List Nat) (b1 : List Nat) (b2 : List Nat) (q0d : Nat) (q0j : Nat) (q0i : Nat) (t4 : Int) (kn_ : Int → Option R) (k0_ : Unit → Option R) (k1_ : Int → Bool → Option R) : Option R := (br (ltI t4 t3) (grd (okIx t4 q0d) (br (fcmp BinOp.geq FloatKind.f32 (gF b0 (ixO 0 t4 1)) 3204448256) (grd (okIx t4 q0d) (br (bnot (fcmp BinOp.leq FloatKind.f32 (gF b0 (ixO 0 t4 1)) 1056964608)) (k0_ ()) (br (ltI 0 t4) (grd (okIx t4 q0d) (grd (okIx (subI IntKind.i64 t4 1) q0d) (br (fcmp BinOp.leq FloatKind.f32 (gF b0 (ixO 0 t4 1)) (gF b0 (ixO 0 (subI IntKind.i64 t4 1) 1))) (k0_ ()) (grd (okIx t4 q0j) (grd (z65 (gF b1 (ixO 0 t4 1))) (br (bnot (z5y (gF b1 (ixO 0 t4 1)))) (k0_ ()) (grd (okIx t4 q0i) (grd (z6x (gF b2 (ixO 0 t4 1))) (br (bnot (z6k (gF b2 (ixO 0 t4 1)))) (k0_ ()) (kn_ (addI IntKind.i64 t4 1))))))))))) (grd (okIx t4 q0j) (grd (z65 (gF b1 (ixO 0 t4 1))) (br (bnot (z5y (gF b1 (ixO 0 t4 1)))) (k0_ ()) (grd (okIx t4 q0i) (grd (z6x (gF b2 (ixO 0 t4 1))) (br (bnot (z6k (gF b2 (ixO 0 t4 1)))) (k0_ ()) (kn_ (addI IntKind.i64 t4 1))))))))))) (br (bnot Bool.false) (k0_ ()) (br (ltI 0 t4) (grd (okIx t4 q0d) (grd (okIx (subI IntKind.i64 t4 1) q0d) (br (fcmp BinOp.leq FloatKind.f32 (gF b0 (ixO 0 t4 1)) (gF b0 (ixO 0 (subI IntKind.i64 t4 1) 1))) (k0_ ()) (grd (okIx t4 q0j) (grd (z65 (gF b1 (ixO 0 t4 1))) (br (bnot (z5y (gF b1 (ixO 0 t4 1)))) (k0_ ()) (grd (okIx t4 q0i) (grd (z6x (gF b2 (ixO 0 t4 1))) (br (bnot (z6k (gF b2 (ixO 0 t4 1)))) (k0_ ()) (kn_ (addI IntKind.i64 t4 1))))))))))) (grd (okIx t4 q0j) (grd (z65 (gF b1 (ixO 0 t4 1))) (br (bnot (z5y (gF b1 (ixO 0 t4 1)))) (k0_ ()) (grd (okIx t4 q0i) (grd (z6x (gF b2 (ixO 0 t4 1))) (br (bnot (z6k (gF b2 (ixO 0 t4 1)))) (k0_ ()) (kn_ (addI IntKind.i64 t4 1)))))))))))) (k1_ t4 (ltI t4 t3)))
theorem zeu {R R' : Type} (o : Option R → Option R') (h0 : o none = none) (t3 : Int) (b0 : List Nat) (b1 : List Nat) (b2 : List Nat) (q0d : Nat) (q0j : Nat) (q0i : Nat) (t4 : Int) (kn_ : Int → Option R) (k0_ : Unit → Option R) (k1_ : Int → Bool → Option R) : z61 t3 b0 b1 b2 q0d q0j q0i t4 (fun t4' => o (kn_ t4')) (fun _ => o (k0_ ())) (fun c0_ c1_ => o (k1_ c0_ c1_)) = o (z61 t3 b0 b1 b2 q0d q0j q0i t4 kn_ k0_ k1_) := by
  unfold z61
  repeat (first | refine grd_out h0 ?_ | refine br_out ?_ ?_ | rfl | exact h0.symm)
noncomputable def z4z (t3 : Int) (b0 : List Nat) (b1 : List Nat) (b2 : List Nat) (q0d : Nat) (q0j : Nat) (q0i : Nat) : Nat → Int → Option ((Unit) ⊕ (Int × Bool))
  | 0, _ => none
  | n + 1, t4 => z61 t3 b0 b1 b2 q0d q0j q0i  t4  (fun t4' => z4z t3 b0 b1 b2 q0d q0j q0i n t4') (fun _ => some (Sum.inl ())) (fun c0_ c1_ => some (Sum.inr (c0_, c1_)))
theorem zc9 (t3 : Int) (b0 : List Nat) (b1 : List Nat) (b2 : List Nat) (q0d : Nat) (q0j : Nat) (q0i : Nat) (n : Nat) (t4 : Int) : z4z t3 b0 b1 b2 q0d q0j q0i (n + 1) t4 = z61 t3 b0 b1 b2 q0d q0j q0i  t4  (fun t4' => z4z t3 b0 b1 b2 q0d q0j q0i n t4') (fun _ => some (Sum.inl ())) (fun c0_ c1_ => some (Sum.inr (c0_, c1_))) := rfl
noncomputable def z6a (t3 : Int) (b0 : List Nat) (b1 : List Nat) (b2 : List Nat) (q0d : Nat) (q0j : Nat) (q0i : Nat) (t4 : Int) : Bool := (z4z t3 b0 b1 b2 q0d q0j q0i big t4).isSome
noncomputable def z62 (t3 : Int) (b0 : List Nat) (b1 : List Nat) (b2 : List Nat) (q0d : Nat) (q0j : Nat) (q0i : Nat) (t4 : Int) : Bool := oL (z4z t3 b0 b1 b2 q0d q0j q0i big t4)
noncomputable def zbo (t3 : Int) (b0 : List Nat) (b1 : List Nat) (b2 : List Nat) (q0d : Nat) (q0j : Nat) (q0i : Nat) (t4 : Int) : Int := ((tR (z4z t3 b0 b1 b2 q0d q0j q0i big t4)).getD default).1
noncomputable def zbl (t3 : Int) (b0 : List Nat) (b1 : List Nat) (b2 : List Nat) (q0d : Nat) (q0j : Nat) (q0i : Nat) (t4 : Int) : Bool := ((tR (z4z t3 b0 b1 b2 q0d q0j q0i big t4)).getD default).2
theorem zfl {t3 : Int} {b0 : List Nat} {b1 : List Nat} {b2 : List Nat} {q0d : Nat} {q0j : Nat} {q0i : Nat} {t4 : Int} {m : Nat} {r : Unit} (hm : m = big) (h : z4z t3 b0 b1 b2 q0d q0j q0i m t4 = some (Sum.inl r)) : z6a t3 b0 b1 b2 q0d q0j q0i t4 = true ∧ z62 t3 b0 b1 b2 q0d q0j q0i t4 = true := by
  subst hm
  unfold z6a z62
  rw [h]
  exact ⟨rfl, rfl⟩
theorem zfn {t3 : Int} {b0 : List Nat} {b1 : List Nat} {b2 : List Nat} {q0d : Nat} {q0j : Nat} {q0i : Nat} {t4 : Int} {m : Nat} {r : Int × Bool} (hm : m = big) (h : z4z t3 b0 b1 b2 q0d q0j q0i m t4 = some (Sum.inr r)) : z6a t3 b0 b1 b2 q0d q0j q0i t4 = true ∧ z62 t3 b0 b1 b2 q0d q0j q0i t4 = false ∧ zbo t3 b0 b1 b2 q0d q0j q0i t4 = r.1 ∧ zbl t3 b0 b1 b2 q0d q0j q0i t4 = r.2 := by
  subst hm
  unfold z6a z62 zbo zbl
  rw [h]
  exact ⟨rfl, rfl, rfl, rfl⟩
noncomputable def z3c {R : Type} (sn : Nat) (t7 : Int) (b0 : List Nat) (t8 : Int) (kn_ : Int → Option R) (k0_ : Int → Option R) (k1_ : Int → Bool → Option R) : Option R := (br (ltI t8 t7) (grd (okIx t8 sn) (grd (z9q (gF b0 (ixO 0 t8 1))) (br (z93 (gF b0 (ixO 0 t8 1))) (k0_ t8) (kn_ (addI IntKind.i64 t8 1))))) (k1_ t8 (ltI t8 t7)))
theorem z98 {R R' : Type} (o : Option R → Option R') (h0 : o none = none) (sn : Nat) (t7 : Int) (b0 : List Nat) (t8 : Int) (kn_ : Int → Option R) (k0_ : Int → Option R) (k1_ : Int → Bool → Option R) : z3c sn t7 b0 t8 (fun t8' => o (kn_ t8')) (fun c0_ => o (k0_ c0_)) (fun c0_ c1_ => o (k1_ c0_ c1_)) = o (z3c sn t7 b0 t8 kn_ k0_ k1_) := by
  unfold z3c
  repeat (first | refine grd_out h0 ?_ | refine br_out ?_ ?_ | rfl | exact h0.symm)
noncomputable def z1d (sn : Nat) (t7 : Int) (b0 : List Nat) : Nat → Int → Option ((Int) ⊕ (Int × Bool))
  | 0, _ => none
  | n + 1, t8 => z3c sn t7 b0  t8  (fun t8' => z1d sn t7 b0 n t8') (fun c0_ => some (Sum.inl c0_)) (fun c0_ c1_ => some (Sum.inr (c0_, c1_)))
theorem z67 (sn : Nat) (t7 : Int) (b0 : List Nat) (n : Nat) (t8 : Int) : z1d sn t7 b0 (n + 1) t8 = z3c sn t7 b0  t8  (fun t8' => z1d sn t7 b0 n t8') (fun c0_ => some (Sum.inl c0_)) (fun c0_ c1_ => some (Sum.inr (c0_, c1_))) := rfl
noncomputable def z3u (sn : Nat) (t7 : Int) (b0 : List Nat) (t8 : Int) : Bool := (z1d sn t7 b0 big t8).isSome
noncomputable def z3t (sn : Nat) (t7 : Int) (b0 : List Nat) (t8 : Int) : Bool := oL (z1d sn t7 b0 big t8)
noncomputable def z4l (sn : Nat) (t7 : Int) (b0 : List Nat) (t8 : Int) : Int := ((tL (z1d sn t7 b0 big t8)).getD default)
noncomputable def z5j (sn : Nat) (t7 : Int) (b0 : List Nat) (t8 : Int) : Int := ((tR (z1d sn t7 b0 big t8)).getD default).1
noncomputable def z5g (sn : Nat) (t7 : Int) (b0 : List Nat) (t8 : Int) : Bool := ((tR (z1d sn t7 b0 big t8)).getD default).2
theorem z9z {sn : Nat} {t7 : Int} {b0 : List Nat} {t8 : Int} {m : Nat} {r : Int} (hm : m = big) (h : z1d sn t7 b0 m t8 = some (Sum.inl r)) : z3u sn t7 b0 t8 = true ∧ z3t sn t7 b0 t8 = true ∧ z4l sn t7 b0 t8 = r := by
  subst hm
  unfold z3u z3t z4l
  rw [h]
  exact ⟨rfl, rfl, rfl⟩
theorem z9y {sn : Nat} {t7 : Int} {b0 : List Nat} {t8 : Int} {m : Nat} {r : Int × Bool} (hm : m = big) (h : z1d sn t7 b0 m t8 = some (Sum.inr r)) : z3u sn t7 b0 t8 = true ∧ z3t sn t7 b0 t8 = false ∧ z5j sn t7 b0 t8 = r.1 ∧ z5g sn t7 b0 t8 = r.2 := by
  subst hm
  unfold z3u z3t z5j z5g
  rw [h]
  exact ⟨rfl, rfl, rfl, rfl⟩
noncomputable def z7l {R : Type} (q09 : Nat) (q0g : List Nat) (q0e : Nat) (q0k : List Nat) (q0f : Nat) (q0l : List Nat) (q0u : Nat) (q11 : List Nat) (q0z : Nat) (q13 : List Nat) (q0y : Nat) (q14 : List Nat) (k_ : Bool → Option R) : Option R := (grd (z73 q09 (pF q0g 0 (muN q09 1)) q0u (pF q11 0 (muN q0u 1))) (br (bnot (z6s q09 (pF q0g 0 (muN q09 1)) q0u (pF q11 0 (muN q0u 1)))) (k_ Bool.false) (grd (z73 q0e (pF q0k 0 (muN q0e 1)) q0z (pF q13 0 (muN q0z 1))) (br (bnot (z6s q0e (pF q0k 0 (muN q0e 1)) q0z (pF q13 0 (muN q0z 1)))) (k_ Bool.false) (grd (z73 q0f (pF q0l 0 (muN q0f 1)) q0y (pF q14 0 (muN q0y 1))) (br (bnot (z6s q0f (pF q0l 0 (muN q0f 1)) q0y (pF q14 0 (muN q0y 1)))) (k_ Bool.false) (k_ Bool.true)))))))
noncomputable def z7e (q09 : Nat) (q0g : List Nat) (q0e : Nat) (q0k : List Nat) (q0f : Nat) (q0l : List Nat) (q0u : Nat) (q11 : List Nat) (q0z : Nat) (q13 : List Nat) (q0y : Nat) (q14 : List Nat) : Option (Bool) := z7l q09 q0g q0e q0k q0f q0l q0u q11 q0z q13 q0y q14 (fun c0_ => some c0_)
theorem zel {R R' : Type} (o : Option R → Option R') (h0 : o none = none) (q09 : Nat) (q0g : List Nat) (q0e : Nat) (q0k : List Nat) (q0f : Nat) (q0l : List Nat) (q0u : Nat) (q11 : List Nat) (q0z : Nat) (q13 : List Nat) (q0y : Nat) (q14 : List Nat) (k_ : Bool → Option R) : z7l q09 q0g q0e q0k q0f q0l q0u q11 q0z q13 q0y q14 (fun c0_ => o (k_ c0_)) = o (z7l q09 q0g q0e q0k q0f q0l q0u q11 q0z q13 q0y q14 k_) := by
  unfold z7l
  repeat (first | refine grd_out h0 ?_ | refine br_out ?_ ?_ | rfl | exact h0.symm)
noncomputable def z8x (q09 : Nat) (q0g : List Nat) (q0e : Nat) (q0k : List Nat) (q0f : Nat) (q0l : List Nat) (q0u : Nat) (q11 : List Nat) (q0z : Nat) (q13 : List Nat) (q0y : Nat) (q14 : List Nat) : Bool := (z7e q09 q0g q0e q0k q0f q0l q0u q11 q0z q13 q0y q14).isSome
noncomputable def z8f (q09 : Nat) (q0g : List Nat) (q0e : Nat) (q0k : List Nat) (q0f : Nat) (q0l : List Nat) (q0u : Nat) (q11 : List Nat) (q0z : Nat) (q13 : List Nat) (q0y : Nat) (q14 : List Nat) : Bool := ((z7e q09 q0g q0e q0k q0f q0l q0u q11 q0z q13 q0y q14).getD default)
theorem zfo {q09 : Nat} {q0g : List Nat} {q0e : Nat} {q0k : List Nat} {q0f : Nat} {q0l : List Nat} {q0u : Nat} {q11 : List Nat} {q0z : Nat} {q13 : List Nat} {q0y : Nat} {q14 : List Nat} {r : Bool} (h : z7e q09 q0g q0e q0k q0f q0l q0u q11 q0z q13 q0y q14 = some r) : z8x q09 q0g q0e q0k q0f q0l q0u q11 q0z q13 q0y q14 = true ∧ z8f q09 q0g q0e q0k q0f q0l q0u q11 q0z q13 q0y q14 = r := by
  unfold z8x z8f
  rw [h]
  exact ⟨rfl, rfl⟩
noncomputable def zak {R : Type} (q03 : Nat) (q06 : List Nat) (q05 : Nat) (q07 : List Nat) (q04 : Nat) (q08 : List Nat) (k_ : Bool → Option R) : Option R := (br (ltI (Int.ofNat q03) 2) (k_ Bool.false) (br (ltI 24 (Int.ofNat q03)) (k_ Bool.false) (br (neI (Int.ofNat q05) (Int.ofNat q03)) (k_ Bool.false) (br (neI (Int.ofNat q04) (Int.ofNat q03)) (k_ Bool.false) (grd (z6a (Int.ofNat q03) q06 q07 q08 q03 q05 q04 0) (br (z62 (Int.ofNat q03) q06 q07 q08 q03 q05 q04 0) (k_ Bool.false) (k_ Bool.true)))))))
noncomputable def zar (q03 : Nat) (q06 : List Nat) (q05 : Nat) (q07 : List Nat) (q04 : Nat) (q08 : List Nat) : Option (Bool) := zak q03 q06 q05 q07 q04 q08 (fun c0_ => some c0_)
theorem zg2 {R R' : Type} (o : Option R → Option R') (h0 : o none = none) (q03 : Nat) (q06 : List Nat) (q05 : Nat) (q07 : List Nat) (q04 : Nat) (q08 : List Nat) (k_ : Bool → Option R) : zak q03 q06 q05 q07 q04 q08 (fun c0_ => o (k_ c0_)) = o (zak q03 q06 q05 q07 q04 q08 k_) := by
  unfold zak
  repeat (first | refine grd_out h0 ?_ | refine br_out ?_ ?_ | rfl | exact h0.symm)
noncomputable def zc8 (q03 : Nat) (q06 : List Nat) (q05 : Nat) (q07 : List Nat) (q04 : Nat) (q08 : List Nat) : Bool := (zar q03 q06 q05 q07 q04 q08).isSome
noncomputable def zc3 (q03 : Nat) (q06 : List Nat) (q05 : Nat) (q07 : List Nat) (q04 : Nat) (q08 : List Nat) : Bool := ((zar q03 q06 q05 q07 q04 q08).getD default)
theorem zh4 {q03 : Nat} {q06 : List Nat} {q05 : Nat} {q07 : List Nat} {q04 : Nat} {q08 : List Nat} {r : Bool} (h : zar q03 q06 q05 q07 q04 q08 = some r) : zc8 q03 q06 q05 q07 q04 q08 = true ∧ zc3 q03 q06 q05 q07 q04 q08 = r := by
  unfold zc8 zc3
  rw [h]
  exact ⟨rfl, rfl⟩
noncomputable def z8u {R : Type} (x : Nat) (k_ : Nat → Option R) : Option R := (grd (z9k (fcvV FloatKind.f32 FloatKind.f64 x)) (grd (zb7 (z78 (fcvV FloatKind.f32 FloatKind.f64 x))) (k_ (zab (z78 (fcvV FloatKind.f32 FloatKind.f64 x))))))
noncomputable def z7n (x : Nat) : Option (Nat) := z8u x (fun c0_ => some c0_)
theorem zfg {R R' : Type} (o : Option R → Option R') (h0 : o none = none) (x : Nat) (k_ : Nat → Option R) : z8u x (fun c0_ => o (k_ c0_)) = o (z8u x k_) := by
  unfold z8u
  repeat (first | refine grd_out h0 ?_ | refine br_out ?_ ?_ | rfl | exact h0.symm)
noncomputable def z7j (x : Nat) : Bool := (z7n x).isSome
noncomputable def z4f (x : Nat) : Nat := ((z7n x).getD default)
theorem zdm {x : Nat} {r : Nat} (h : z7n x = some r) : z7j x = true ∧ z4f x = r := by
  unfold z7j z4f
  rw [h]
  exact ⟨rfl, rfl⟩
noncomputable def z44 {R : Type} (s_n : Nat) (s : List Nat) (k_ : Int → Option R) : Option R := (grd (z3u s_n (Int.ofNat s_n) s 0) (br (z3t s_n (Int.ofNat s_n) s 0) (k_ (z4l s_n (Int.ofNat s_n) s 0)) (k_ (Int.negSucc 0))))
noncomputable def z43 (s_n : Nat) (s : List Nat) : Option (Int) := z44 s_n s (fun c0_ => some c0_)
theorem za8 {R R' : Type} (o : Option R → Option R') (h0 : o none = none) (s_n : Nat) (s : List Nat) (k_ : Int → Option R) : z44 s_n s (fun c0_ => o (k_ c0_)) = o (z44 s_n s k_) := by
  unfold z44
  repeat (first | refine grd_out h0 ?_ | refine br_out ?_ ?_ | rfl | exact h0.symm)
noncomputable def z55 (s_n : Nat) (s : List Nat) : Bool := (z43 s_n s).isSome
noncomputable def z52 (s_n : Nat) (s : List Nat) : Int := ((z43 s_n s).getD default)
theorem zb4 {s_n : Nat} {s : List Nat} {r : Int} (h : z43 s_n s = some r) : z55 s_n s = true ∧ z52 s_n s = r := by
  unfold z55 z52
  rw [h]
  exact ⟨rfl, rfl⟩
noncomputable def z3f {R : Type} (sn : Nat) (t7 : Int) (b0 : List Nat) (t8 : Int) (kn_ : Int → Option R) (k0_ : Int → Option R) (k1_ : Int → Bool → Option R) : Option R := (br (ltI t8 t7) (grd (okIx t8 sn) (grd (zad (gF b0 (ixO 0 t8 1))) (br (z9t (gF b0 (ixO 0 t8 1))) (k0_ t8) (kn_ (addI IntKind.i64 t8 1))))) (k1_ t8 (ltI t8 t7)))
theorem z9m {R R' : Type} (o : Option R → Option R') (h0 : o none = none) (sn : Nat) (t7 : Int) (b0 : List Nat) (t8 : Int) (kn_ : Int → Option R) (k0_ : Int → Option R) (k1_ : Int → Bool → Option R) : z3f sn t7 b0 t8 (fun t8' => o (kn_ t8')) (fun c0_ => o (k0_ c0_)) (fun c0_ c1_ => o (k1_ c0_ c1_)) = o (z3f sn t7 b0 t8 kn_ k0_ k1_) := by
  unfold z3f
  repeat (first | refine grd_out h0 ?_ | refine br_out ?_ ?_ | rfl | exact h0.symm)
noncomputable def z1k (sn : Nat) (t7 : Int) (b0 : List Nat) : Nat → Int → Option ((Int) ⊕ (Int × Bool))
  | 0, _ => none
  | n + 1, t8 => z3f sn t7 b0  t8  (fun t8' => z1k sn t7 b0 n t8') (fun c0_ => some (Sum.inl c0_)) (fun c0_ c1_ => some (Sum.inr (c0_, c1_)))
theorem z69 (sn : Nat) (t7 : Int) (b0 : List Nat) (n : Nat) (t8 : Int) : z1k sn t7 b0 (n + 1) t8 = z3f sn t7 b0  t8  (fun t8' => z1k sn t7 b0 n t8') (fun c0_ => some (Sum.inl c0_)) (fun c0_ c1_ => some (Sum.inr (c0_, c1_))) := rfl
noncomputable def z41 (sn : Nat) (t7 : Int) (b0 : List Nat) (t8 : Int) : Bool := (z1k sn t7 b0 big t8).isSome
noncomputable def z3v (sn : Nat) (t7 : Int) (b0 : List Nat) (t8 : Int) : Bool := oL (z1k sn t7 b0 big t8)
noncomputable def z4q (sn : Nat) (t7 : Int) (b0 : List Nat) (t8 : Int) : Int := ((tL (z1k sn t7 b0 big t8)).getD default)
noncomputable def z5m (sn : Nat) (t7 : Int) (b0 : List Nat) (t8 : Int) : Int := ((tR (z1k sn t7 b0 big t8)).getD default).1
noncomputable def z5n (sn : Nat) (t7 : Int) (b0 : List Nat) (t8 : Int) : Bool := ((tR (z1k sn t7 b0 big t8)).getD default).2
theorem za5 {sn : Nat} {t7 : Int} {b0 : List Nat} {t8 : Int} {m : Nat} {r : Int} (hm : m = big) (h : z1k sn t7 b0 m t8 = some (Sum.inl r)) : z41 sn t7 b0 t8 = true ∧ z3v sn t7 b0 t8 = true ∧ z4q sn t7 b0 t8 = r := by
  subst hm
  unfold z41 z3v z4q
  rw [h]
  exact ⟨rfl, rfl, rfl⟩
theorem za2 {sn : Nat} {t7 : Int} {b0 : List Nat} {t8 : Int} {m : Nat} {r : Int × Bool} (hm : m = big) (h : z1k sn t7 b0 m t8 = some (Sum.inr r)) : z41 sn t7 b0 t8 = true ∧ z3v sn t7 b0 t8 = false ∧ z5m sn t7 b0 t8 = r.1 ∧ z5n sn t7 b0 t8 = r.2 := by
  subst hm
  unfold z41 z3v z5m z5n
  rw [h]
  exact ⟨rfl, rfl, rfl, rfl⟩
noncomputable def z46 {R : Type} (s_n : Nat) (s : List Nat) (k_ : Int → Option R) : Option R := (grd (z41 s_n (Int.ofNat s_n) s 0) (br (z3v s_n (Int.ofNat s_n) s 0) (k_ (z4q s_n (Int.ofNat s_n) s 0)) (k_ (Int.negSucc 0))))
noncomputable def z47 (s_n : Nat) (s : List Nat) : Option (Int) := z46 s_n s (fun c0_ => some c0_)
theorem zah {R R' : Type} (o : Option R → Option R') (h0 : o none = none) (s_n : Nat) (s : List Nat) (k_ : Int → Option R) : z46 s_n s (fun c0_ => o (k_ c0_)) = o (z46 s_n s k_) := by
  unfold z46
  repeat (first | refine grd_out h0 ?_ | refine br_out ?_ ?_ | rfl | exact h0.symm)
noncomputable def z5a (s_n : Nat) (s : List Nat) : Bool := (z47 s_n s).isSome
noncomputable def z54 (s_n : Nat) (s : List Nat) : Int := ((z47 s_n s).getD default)
theorem zbb {s_n : Nat} {s : List Nat} {r : Int} (h : z47 s_n s = some r) : z5a s_n s = true ∧ z54 s_n s = r := by
  unfold z5a z54
  rw [h]
  exact ⟨rfl, rfl⟩
noncomputable def z68 {R : Type} (u : Nat) (p : Nat) (k : Nat) (kn_ : Nat → Nat → Option R) (k0_ : Nat → Nat → Bool → Option R) : Option R := (br (fcmp BinOp.geq FloatKind.f64 k 4607182418800017408) (kn_ (fop BinOp.sub FloatKind.f64 4607182418800017408 (fop BinOp.quo FloatKind.f64 (fop BinOp.mul FloatKind.f64 u p) (fop BinOp.mul FloatKind.f64 (fop BinOp.mul FloatKind.f64 4611686018427387904 k) (fop BinOp.add FloatKind.f64 (fop BinOp.mul FloatKind.f64 4611686018427387904 k) 4607182418800017408)))) (fop BinOp.sub FloatKind.f64 k 4607182418800017408)) (k0_ p k (fcmp BinOp.geq FloatKind.f64 k 4607182418800017408)))
theorem zfc {R R' : Type} (o : Option R → Option R') (h0 : o none = none) (u : Nat) (p : Nat) (k : Nat) (kn_ : Nat → Nat → Option R) (k0_ : Nat → Nat → Bool → Option R) : z68 u p k (fun p' k' => o (kn_ p' k')) (fun c0_ c1_ c2_ => o (k0_ c0_ c1_ c2_)) = o (z68 u p k kn_ k0_) := by
  unfold z68
  repeat (first | refine grd_out h0 ?_ | refine br_out ?_ ?_ | rfl | exact h0.symm)
noncomputable def z4y (u : Nat) : Nat → Nat → Nat → Option ((Nat × Nat × Bool))
  | 0, _, _ => none
  | n + 1, p, k => z68 u  p k  (fun p' k' => z4y u n p' k') (fun c0_ c1_ c2_ => some (c0_, c1_, c2_))
theorem zcf (u : Nat) (n : Nat) (p : Nat) (k : Nat) : z4y u (n + 1) p k = z68 u  p k  (fun p' k' => z4y u n p' k') (fun c0_ c1_ c2_ => some (c0_, c1_, c2_)) := rfl
noncomputable def z6n (u : Nat) (p : Nat) (k : Nat) : Bool := (z4y u big p k).isSome
noncomputable def z5z (u : Nat) (p : Nat) (k : Nat) : Nat := ((z4y u big p k).getD default).1
noncomputable def zbz (u : Nat) (p : Nat) (k : Nat) : Nat := ((z4y u big p k).getD default).2.1
noncomputable def zby (u : Nat) (p : Nat) (k : Nat) : Bool := ((z4y u big p k).getD default).2.2
theorem zg7 {u : Nat} {p : Nat} {k : Nat} {m : Nat} {r : Nat × Nat × Bool} (hm : m = big) (h : z4y u m p k = some r) : z6n u p k = true ∧ z5z u p k = r.1 ∧ zbz u p k = r.2.1 ∧ zby u p k = r.2.2 := by
  subst hm
  unfold z6n z5z zbz zby
  rw [h]
  exact ⟨rfl, rfl, rfl, rfl⟩
noncomputable def z3x {R : Type} (s_n : Nat) (s : List Nat) (k_ : Bool → Option R) : Option R := (grd (z55 s_n (pF s 0 (muN s_n 1))) (k_ (leI 0 (z52 s_n (pF s 0 (muN s_n 1))))))
noncomputable def z3w (s_n : Nat) (s : List Nat) : Option (Bool) := z3x s_n s (fun c0_ => some c0_)
theorem z97 {R R' : Type} (o : Option R → Option R') (h0 : o none = none) (s_n : Nat) (s : List Nat) (k_ : Bool → Option R) : z3x s_n s (fun c0_ => o (k_ c0_)) = o (z3x s_n s k_) := by
  unfold z3x
  repeat (first | refine grd_out h0 ?_ | refine br_out ?_ ?_ | rfl | exact h0.symm)
noncomputable def z50 (s_n : Nat) (s : List Nat) : Bool := (z3w s_n s).isSome
noncomputable def z4u (s_n : Nat) (s : List Nat) : Bool := ((z3w s_n s).getD default)
theorem za7 {s_n : Nat} {s : List Nat} {r : Bool} (h : z3w s_n s = some r) : z50 s_n s = true ∧ z4u s_n s = r := by
  unfold z50 z4u
  rw [h]
  exact ⟨rfl, rfl⟩
noncomputable def z3z {R : Type} (s_n : Nat) (s : List Nat) (k_ : Bool → Option R) : Option R := (grd (z5a s_n (pF s 0 (muN s_n 1))) (k_ (leI 0 (z54 s_n (pF s 0 (muN s_n 1))))))
noncomputable def z40 (s_n : Nat) (s : List Nat) : Option (Bool) := z3z s_n s (fun c0_ => some c0_)
theorem z9w {R R' : Type} (o : Option R → Option R') (h0 : o none = none) (s_n : Nat) (s : List Nat) (k_ : Bool → Option R) : z3z s_n s (fun c0_ => o (k_ c0_)) = o (z3z s_n s k_) := by
  unfold z3z
  repeat (first | refine grd_out h0 ?_ | refine br_out ?_ ?_ | rfl | exact h0.symm)
noncomputable def z51 (s_n : Nat) (s : List Nat) : Bool := (z40 s_n s).isSome
noncomputable def z4x (s_n : Nat) (s : List Nat) : Bool := ((z40 s_n s).getD default)
theorem zam {s_n : Nat} {s : List Nat} {r : Bool} (h : z40 s_n s = some r) : z51 s_n s = true ∧ z4x s_n s = r := by
  unfold z51 z4x
  rw [h]
  exact ⟨rfl, rfl⟩
noncomputable def zbe {R : Type} (q0h : Nat) (k_ : Nat → Option R) : Option R := (grd (zaa q0h) (br (fcmp BinOp.geq FloatKind.f64 (z2q q0h) 4602678819172646912) (br (fcmp BinOp.gtr FloatKind.f64 (fop BinOp.sub FloatKind.f64 (z2q q0h) 4602678819172646912) 4598175219545276416) (grd (z6n (fop BinOp.mul FloatKind.f64 (fop BinOp.mul FloatKind.f64 (fop BinOp.sub FloatKind.f64 4602678819172646912 (fop BinOp.sub FloatKind.f64 (z2q q0h) 4602678819172646912)) 4618760256179416344) (fop BinOp.mul FloatKind.f64 (fop BinOp.sub FloatKind.f64 4602678819172646912 (fop BinOp.sub FloatKind.f64 (z2q q0h) 4602678819172646912)) 4618760256179416344)) 4607182418800017408 4620693217682128896) (k_ (fneg FloatKind.f64 (fop BinOp.mul FloatKind.f64 (fop BinOp.mul FloatKind.f64 (fop BinOp.sub FloatKind.f64 4602678819172646912 (fop BinOp.sub FloatKind.f64 (z2q q0h) 4602678819172646912)) 4618760256179416344) (z5z (fop BinOp.mul FloatKind.f64 (fop BinOp.mul FloatKind.f64 (fop BinOp.sub FloatKind.f64 4602678819172646912 (fop BinOp.sub FloatKind.f64 (z2q q0h) 4602678819172646912)) 4618760256179416344) (fop BinOp.mul FloatKind.f64 (fop BinOp.sub FloatKind.f64 4602678819172646912 (fop BinOp.sub FloatKind.f64 (z2q q0h) 4602678819172646912)) 4618760256179416344)) 4607182418800017408 4620693217682128896))))) (grd (z6n (fop BinOp.mul FloatKind.f64 (fop BinOp.mul FloatKind.f64 (fop BinOp.sub FloatKind.f64 (z2q q0h) 4602678819172646912) 4618760256179416344) (fop BinOp.mul FloatKind.f64 (fop BinOp.sub FloatKind.f64 (z2q q0h) 4602678819172646912) 4618760256179416344)) 4607182418800017408 4620693217682128896) (k_ (fneg FloatKind.f64 (fop BinOp.mul FloatKind.f64 (fop BinOp.mul FloatKind.f64 (fop BinOp.sub FloatKind.f64 (z2q q0h) 4602678819172646912) 4618760256179416344) (z5z (fop BinOp.mul FloatKind.f64 (fop BinOp.mul FloatKind.f64 (fop BinOp.sub FloatKind.f64 (z2q q0h) 4602678819172646912) 4618760256179416344) (fop BinOp.mul FloatKind.f64 (fop BinOp.sub FloatKind.f64 (z2q q0h) 4602678819172646912) 4618760256179416344)) 4607182418800017408 4620693217682128896)))))) (br (fcmp BinOp.gtr FloatKind.f64 (z2q q0h) 4598175219545276416) (grd (z6n (fop BinOp.mul FloatKind.f64 (fop BinOp.mul FloatKind.f64 (fop BinOp.sub FloatKind.f64 4602678819172646912 (z2q q0h)) 4618760256179416344) (fop BinOp.mul FloatKind.f64 (fop BinOp.sub FloatKind.f64 4602678819172646912 (z2q q0h)) 4618760256179416344)) 4607182418800017408 4620693217682128896) (k_ (fop BinOp.mul FloatKind.f64 (fop BinOp.mul FloatKind.f64 (fop BinOp.sub FloatKind.f64 4602678819172646912 (z2q q0h)) 4618760256179416344) (z5z (fop BinOp.mul FloatKind.f64 (fop BinOp.mul FloatKind.f64 (fop BinOp.sub FloatKind.f64 4602678819172646912 (z2q q0h)) 4618760256179416344) (fop BinOp.mul FloatKind.f64 (fop BinOp.sub FloatKind.f64 4602678819172646912 (z2q q0h)) 4618760256179416344)) 4607182418800017408 4620693217682128896)))) (grd (z6n (fop BinOp.mul FloatKind.f64 (fop BinOp.mul FloatKind.f64 (z2q q0h) 4618760256179416344) (fop BinOp.mul FloatKind.f64 (z2q q0h) 4618760256179416344)) 4607182418800017408 4620693217682128896) (k_ (fop BinOp.mul FloatKind.f64 (fop BinOp.mul FloatKind.f64 (z2q q0h) 4618760256179416344) (z5z (fop BinOp.mul FloatKind.f64 (fop BinOp.mul FloatKind.f64 (z2q q0h) 4618760256179416344) (fop BinOp.mul FloatKind.f64 (z2q q0h) 4618760256179416344)) 4607182418800017408 4620693217682128896)))))))
noncomputable def zbc (q0h : Nat) : Option (Nat) := zbe q0h (fun c0_ => some c0_)
theorem zgo {R R' : Type} (o : Option R → Option R') (h0 : o none = none) (q0h : Nat) (k_ : Nat → Option R) : zbe q0h (fun c0_ => o (k_ c0_)) = o (zbe q0h k_) := by
  unfold zbe
  repeat (first | refine grd_out h0 ?_ | refine br_out ?_ ?_ | rfl | exact h0.symm)
noncomputable def zci (q0h : Nat) : Bool := (zbc q0h).isSome
noncomputable def zbm (q0h : Nat) : Nat := ((zbc q0h).getD default)
theorem zh5 {q0h : Nat} {r : Nat} (h : zbc q0h = some r) : zci q0h = true ∧ zbm q0h = r := by
  unfold zci zbm
  rw [h]
  exact ⟨rfl, rfl⟩
noncomputable def z5i {R : Type} (q00 : Int) (k : Int) (q0q : Nat) (q0s : Nat) (q0r : Nat) (b2 : List Nat) (b3 : List Nat) (b4 : List Nat) (kn_ : Int → Nat → Nat → Nat → (List Nat) → (List Nat) → (List Nat) → Option R) (k0_ : Int → Bool → Nat → Nat → Nat → (List Nat) → (List Nat) → (List Nat) → Option R) : Option R := (br (ltI k q00) (grd (z7j (fop BinOp.sub FloatKind.f32 (fop BinOp.quo FloatKind.f32 (fOI FloatKind.f32 k) (fOI FloatKind.f32 (subI IntKind.i64 q00 1))) 1056964608)) (grd (z7j (fop BinOp.add FloatKind.f32 (fop BinOp.sub FloatKind.f32 (fop BinOp.quo FloatKind.f32 (fOI FloatKind.f32 k) (fOI FloatKind.f32 (subI IntKind.i64 q00 1))) 1056964608) 1048576000)) (grd (okA2 q0q 1 4 (nF (pF [(fop BinOp.sub FloatKind.f32 (fop BinOp.quo FloatKind.f32 (fOI FloatKind.f32 k) (fOI FloatKind.f32 (subI IntKind.i64 q00 1))) 1056964608)] 0 (muN 1 1))) (nF b2) 1) (grd (okA2 q0s 1 4 (nF (pF [(fop BinOp.mul FloatKind.f32 (fop BinOp.mul FloatKind.f32 1073741824 (z4f (fop BinOp.sub FloatKind.f32 (fop BinOp.quo FloatKind.f32 (fOI FloatKind.f32 k) (fOI FloatKind.f32 (subI IntKind.i64 q00 1))) 1056964608))) (z4f (fop BinOp.add FloatKind.f32 (fop BinOp.sub FloatKind.f32 (fop BinOp.quo FloatKind.f32 (fOI FloatKind.f32 k) (fOI FloatKind.f32 (subI IntKind.i64 q00 1))) 1056964608) 1048576000)))] 0 (muN 1 1))) (nF b3) 1) (grd (okA2 q0r 1 4 (nF (pF [(fop BinOp.mul FloatKind.f32 (fop BinOp.mul FloatKind.f32 1073741824 (z4f (fop BinOp.sub FloatKind.f32 (fop BinOp.quo FloatKind.f32 (fOI FloatKind.f32 k) (fOI FloatKind.f32 (subI IntKind.i64 q00 1))) 1056964608))) (z4f (fop BinOp.sub FloatKind.f32 (fop BinOp.quo FloatKind.f32 (fOI FloatKind.f32 k) (fOI FloatKind.f32 (subI IntKind.i64 q00 1))) 1056964608)))] 0 (muN 1 1))) (nF b4) 1) (kn_ (addI IntKind.i64 k 1) (adN q0q 1) (adN q0s 1) (adN q0r 1) (aF b2 (pF [(fop BinOp.sub FloatKind.f32 (fop BinOp.quo FloatKind.f32 (fOI FloatKind.f32 k) (fOI FloatKind.f32 (subI IntKind.i64 q00 1))) 1056964608)] 0 (muN 1 1))) (aF b3 (pF [(fop BinOp.mul FloatKind.f32 (fop BinOp.mul FloatKind.f32 1073741824 (z4f (fop BinOp.sub FloatKind.f32 (fop BinOp.quo FloatKind.f32 (fOI FloatKind.f32 k) (fOI FloatKind.f32 (subI IntKind.i64 q00 1))) 1056964608))) (z4f (fop BinOp.add FloatKind.f32 (fop BinOp.sub FloatKind.f32 (fop BinOp.quo FloatKind.f32 (fOI FloatKind.f32 k) (fOI FloatKind.f32 (subI IntKind.i64 q00 1))) 1056964608) 1048576000)))] 0 (muN 1 1))) (aF b4 (pF [(fop BinOp.mul FloatKind.f32 (fop BinOp.mul FloatKind.f32 1073741824 (z4f (fop BinOp.sub FloatKind.f32 (fop BinOp.quo FloatKind.f32 (fOI FloatKind.f32 k) (fOI FloatKind.f32 (subI IntKind.i64 q00 1))) 1056964608))) (z4f (fop BinOp.sub FloatKind.f32 (fop BinOp.quo FloatKind.f32 (fOI FloatKind.f32 k) (fOI FloatKind.f32 (subI IntKind.i64 q00 1))) 1056964608)))] 0 (muN 1 1))))))))) (k0_ k (ltI k q00) q0q q0s q0r b2 b3 b4))
theorem ze2 {R R' : Type} (o : Option R → Option R') (h0 : o none = none) (q00 : Int) (k : Int) (q0q : Nat) (q0s : Nat) (q0r : Nat) (b2 : List Nat) (b3 : List Nat) (b4 : List Nat) (kn_ : Int → Nat → Nat → Nat → (List Nat) → (List Nat) → (List Nat) → Option R) (k0_ : Int → Bool → Nat → Nat → Nat → (List Nat) → (List Nat) → (List Nat) → Option R) : z5i q00 k q0q q0s q0r b2 b3 b4 (fun k' q0q' q0s' q0r' b2' b3' b4' => o (kn_ k' q0q' q0s' q0r' b2' b3' b4')) (fun c0_ c1_ c2_ c3_ c4_ c5_ c6_ c7_ => o (k0_ c0_ c1_ c2_ c3_ c4_ c5_ c6_ c7_)) = o (z5i q00 k q0q q0s q0r b2 b3 b4 kn_ k0_) := by
  unfold z5i
  repeat (first | refine grd_out h0 ?_ | refine br_out ?_ ?_ | rfl | exact h0.symm)
noncomputable def z3e (q00 : Int) : Nat → Int → Nat → Nat → Nat → (List Nat) → (List Nat) → (List Nat) → Option ((Int × Bool × Nat × Nat × Nat × (List Nat) × (List Nat) × (List Nat)))
  | 0, _, _, _, _, _, _, _ => none
  | n + 1, k, q0q, q0s, q0r, b2, b3, b4 => z5i q00  k q0q q0s q0r b2 b3 b4  (fun k' q0q' q0s' q0r' b2' b3' b4' => z3e q00 n k' q0q' q0s' q0r' b2' b3' b4') (fun c0_ c1_ c2_ c3_ c4_ c5_ c6_ c7_ => some (c0_, c1_, c2_, c3_, c4_, c5_, c6_, c7_))
theorem zbx (q00 : Int) (n : Nat) (k : Int) (q0q : Nat) (q0s : Nat) (q0r : Nat) (b2 : List Nat) (b3 : List Nat) (b4 : List Nat) : z3e q00 (n + 1) k q0q q0s q0r b2 b3 b4 = z5i q00  k q0q q0s q0r b2 b3 b4  (fun k' q0q' q0s' q0r' b2' b3' b4' => z3e q00 n k' q0q' q0s' q0r' b2' b3' b4') (fun c0_ c1_ c2_ c3_ c4_ c5_ c6_ c7_ => some (c0_, c1_, c2_, c3_, c4_, c5_, c6_, c7_)) := rfl
noncomputable def z9h (q00 : Int) (k : Int) (q0q : Nat) (q0s : Nat) (q0r : Nat) (b2 : List Nat) (b3 : List Nat) (b4 : List Nat) : Bool := (z3e q00 big k q0q q0s q0r b2 b3 b4).isSome
noncomputable def zaj (q00 : Int) (k : Int) (q0q : Nat) (q0s : Nat) (q0r : Nat) (b2 : List Nat) (b3 : List Nat) (b4 : List Nat) : Int := ((z3e q00 big k q0q q0s q0r b2 b3 b4).getD default).1
noncomputable def zaf (q00 : Int) (k : Int) (q0q : Nat) (q0s : Nat) (q0r : Nat) (b2 : List Nat) (b3 : List Nat) (b4 : List Nat) : Bool := ((z3e q00 big k q0q q0s q0r b2 b3 b4).getD default).2.1
noncomputable def z7y (q00 : Int) (k : Int) (q0q : Nat) (q0s : Nat) (q0r : Nat) (b2 : List Nat) (b3 : List Nat) (b4 : List Nat) : Nat := ((z3e q00 big k q0q q0s q0r b2 b3 b4).getD default).2.2.1
noncomputable def z85 (q00 : Int) (k : Int) (q0q : Nat) (q0s : Nat) (q0r : Nat) (b2 : List Nat) (b3 : List Nat) (b4 : List Nat) : Nat := ((z3e q00 big k q0q q0s q0r b2 b3 b4).getD default).2.2.2.1
noncomputable def z82 (q00 : Int) (k : Int) (q0q : Nat) (q0s : Nat) (q0r : Nat) (b2 : List Nat) (b3 : List Nat) (b4 : List Nat) : Nat := ((z3e q00 big k q0q q0s q0r b2 b3 b4).getD default).2.2.2.2.1
noncomputable def z7z (q00 : Int) (k : Int) (q0q : Nat) (q0s : Nat) (q0r : Nat) (b2 : List Nat) (b3 : List Nat) (b4 : List Nat) : List Nat := ((z3e q00 big k q0q q0s q0r b2 b3 b4).getD default).2.2.2.2.2.1
noncomputable def z83 (q00 : Int) (k : Int) (q0q : Nat) (q0s : Nat) (q0r : Nat) (b2 : List Nat) (b3 : List Nat) (b4 : List Nat) : List Nat := ((z3e q00 big k q0q q0s q0r b2 b3 b4).getD default).2.2.2.2.2.2.1
noncomputable def z89 (q00 : Int) (k : Int) (q0q : Nat) (q0s : Nat) (q0r : Nat) (b2 : List Nat) (b3 : List Nat) (b4 : List Nat) : List Nat := ((z3e q00 big k q0q q0s q0r b2 b3 b4).getD default).2.2.2.2.2.2.2
theorem zei {q00 : Int} {k : Int} {q0q : Nat} {q0s : Nat} {q0r : Nat} {b2 : List Nat} {b3 : List Nat} {b4 : List Nat} {m : Nat} {r : Int × Bool × Nat × Nat × Nat × (List Nat) × (List Nat) × (List Nat)} (hm : m = big) (h : z3e q00 m k q0q q0s q0r b2 b3 b4 = some r) : z9h q00 k q0q q0s q0r b2 b3 b4 = true ∧ zaj q00 k q0q q0s q0r b2 b3 b4 = r.1 ∧ zaf q00 k q0q q0s q0r b2 b3 b4 = r.2.1 ∧ z7y q00 k q0q q0s q0r b2 b3 b4 = r.2.2.1 ∧ z85 q00 k q0q q0s q0r b2 b3 b4 = r.2.2.2.1 ∧ z82 q00 k q0q q0s q0r b2 b3 b4 = r.2.2.2.2.1 ∧ z7z q00 k q0q q0s q0r b2 b3 b4 = r.2.2.2.2.2.1 ∧ z83 q00 k q0q q0s q0r b2 b3 b4 = r.2.2.2.2.2.2.1 ∧ z89 q00 k q0q q0s q0r b2 b3 b4 = r.2.2.2.2.2.2.2 := by
  subst hm
  unfold z9h zaj zaf z7y z85 z82 z7z z83 z89
  rw [h]
  exact ⟨rfl, rfl, rfl, rfl, rfl, rfl, rfl, rfl, rfl⟩
noncomputable def z7g {R : Type} (q0p : Nat) (q12 : List Nat) (k_ : Bool → Option R) : Option R := (grd (z50 q0p (pF q12 0 (muN q0p 1))) (k_ (bnot (z4u q0p (pF q12 0 (muN q0p 1))))))
noncomputable def z7b (q0p : Nat) (q12 : List Nat) : Option (Bool) := z7g q0p q12 (fun c0_ => some c0_)
theorem zem {R R' : Type} (o : Option R → Option R') (h0 : o none = none) (q0p : Nat) (q12 : List Nat) (k_ : Bool → Option R) : z7g q0p q12 (fun c0_ => o (k_ c0_)) = o (z7g q0p q12 k_) := by
  unfold z7g
  repeat (first | refine grd_out h0 ?_ | refine br_out ?_ ?_ | rfl | exact h0.symm)
noncomputable def zb5 (q0p : Nat) (q12 : List Nat) : Bool := (z7b q0p q12).isSome
noncomputable def za9 (q0p : Nat) (q12 : List Nat) : Bool := ((z7b q0p q12).getD default)
theorem zfk {q0p : Nat} {q12 : List Nat} {r : Bool} (h : z7b q0p q12 = some r) : zb5 q0p q12 = true ∧ za9 q0p q12 = r := by
  unfold zb5 za9
  rw [h]
  exact ⟨rfl, rfl⟩
noncomputable def z80 {R : Type} (q00 : Int) (k_ : Nat → Nat → Nat → (List Nat) → (List Nat) → (List Nat) → Option R) : Option R := (grd zc1 (grd (z9h q00 0 0 0 0 z5v z5x z5w) (k_ (z7y q00 0 0 0 0 z5v z5x z5w) (z85 q00 0 0 0 0 z5v z5x z5w) (z82 q00 0 0 0 0 z5v z5x z5w) (z7z q00 0 0 0 0 z5v z5x z5w) (z83 q00 0 0 0 0 z5v z5x z5w) (z89 q00 0 0 0 0 z5v z5x z5w))))
noncomputable def z5k (q00 : Int) : Option (Nat × Nat × Nat × (List Nat) × (List Nat) × (List Nat)) := z80 q00 (fun c0_ c1_ c2_ c3_ c4_ c5_ => some (c0_, c1_, c2_, c3_, c4_, c5_))
theorem zez {R R' : Type} (o : Option R → Option R') (h0 : o none = none) (q00 : Int) (k_ : Nat → Nat → Nat → (List Nat) → (List Nat) → (List Nat) → Option R) : z80 q00 (fun c0_ c1_ c2_ c3_ c4_ c5_ => o (k_ c0_ c1_ c2_ c3_ c4_ c5_)) = o (z80 q00 k_) := by
  unfold z80
  repeat (first | refine grd_out h0 ?_ | refine br_out ?_ ?_ | rfl | exact h0.symm)
noncomputable def zbh (q00 : Int) : Bool := (z5k q00).isSome
noncomputable def z66 (q00 : Int) : Nat := ((z5k q00).getD default).1
noncomputable def z64 (q00 : Int) : Nat := ((z5k q00).getD default).2.1
noncomputable def z63 (q00 : Int) : Nat := ((z5k q00).getD default).2.2.1
noncomputable def z7m (q00 : Int) : List Nat := ((z5k q00).getD default).2.2.2.1
noncomputable def z7i (q00 : Int) : List Nat := ((z5k q00).getD default).2.2.2.2.1
noncomputable def z7h (q00 : Int) : List Nat := ((z5k q00).getD default).2.2.2.2.2
theorem zfy {q00 : Int} {r : Nat × Nat × Nat × (List Nat) × (List Nat) × (List Nat)} (h : z5k q00 = some r) : zbh q00 = true ∧ z66 q00 = r.1 ∧ z64 q00 = r.2.1 ∧ z63 q00 = r.2.2.1 ∧ z7m q00 = r.2.2.2.1 ∧ z7i q00 = r.2.2.2.2.1 ∧ z7h q00 = r.2.2.2.2.2 := by
  unfold zbh z66 z64 z63 z7m z7i z7h
  rw [h]
  exact ⟨rfl, rfl, rfl, rfl, rfl, rfl, rfl⟩
noncomputable def z7c {R : Type} (x : Nat) (k_ : Nat → Option R) : Option R := (grd (z86 x) (br (bnot (z7q x)) (grd zca (grd (fcvB FloatKind.f64 FloatKind.f32 zbd) (k_ (fcvV FloatKind.f64 FloatKind.f32 zbd)))) (grd (zc4 (fcvV FloatKind.f32 FloatKind.f64 x)) (br (zbv (fcvV FloatKind.f32 FloatKind.f64 x)) (k_ 0) (grd (zci (fcvV FloatKind.f32 FloatKind.f64 x)) (grd (fcvB FloatKind.f64 FloatKind.f32 (zbm (fcvV FloatKind.f32 FloatKind.f64 x))) (k_ (fcvV FloatKind.f64 FloatKind.f32 (zbm (fcvV FloatKind.f32 FloatKind.f64 x))))))))))
noncomputable def z7k (x : Nat) : Option (Nat) := z7c x (fun c0_ => some c0_)
theorem zee {R R' : Type} (o : Option R → Option R') (h0 : o none = none) (x : Nat) (k_ : Nat → Option R) : z7c x (fun c0_ => o (k_ c0_)) = o (z7c x k_) := by
  unfold z7c
  repeat (first | refine grd_out h0 ?_ | refine br_out ?_ ?_ | rfl | exact h0.symm)
noncomputable def z6l (x : Nat) : Bool := (z7k x).isSome
noncomputable def z45 (x : Nat) : Nat := ((z7k x).getD default)
theorem zcv {x : Nat} {r : Nat} (h : z7k x = some r) : z6l x = true ∧ z45 x = r := by
  unfold z6l z45
  rw [h]
  exact ⟨rfl, rfl⟩
noncomputable def z88 {R : Type} (q0p : Nat) (q12 : List Nat) (k_ : Bool → Option R) : Option R := (grd (z51 q0p (pF q12 0 (muN q0p 1))) (k_ (bnot (z4x q0p (pF q12 0 (muN q0p 1))))))
noncomputable def z87 (q0p : Nat) (q12 : List Nat) : Option (Bool) := z88 q0p q12 (fun c0_ => some c0_)
theorem zf3 {R R' : Type} (o : Option R → Option R') (h0 : o none = none) (q0p : Nat) (q12 : List Nat) (k_ : Bool → Option R) : z88 q0p q12 (fun c0_ => o (k_ c0_)) = o (z88 q0p q12 k_) := by
  unfold z88
  repeat (first | refine grd_out h0 ?_ | refine br_out ?_ ?_ | rfl | exact h0.symm)
noncomputable def zbi (q0p : Nat) (q12 : List Nat) : Bool := (z87 q0p q12).isSome
noncomputable def zb2 (q0p : Nat) (q12 : List Nat) : Bool := ((z87 q0p q12).getD default)
theorem zg1 {q0p : Nat} {q12 : List Nat} {r : Bool} (h : z87 q0p q12 = some r) : zbi q0p q12 = true ∧ zb2 q0p q12 = r := by
  unfold zbi zb2
  rw [h]
  exact ⟨rfl, rfl⟩
noncomputable def z6b {R : Type} (q00 : Int) (k_ : Nat → Nat → Nat → Bool → (List Nat) → (List Nat) → (List Nat) → Option R) : Option R := (grd (zcb q00 2 24) (br (bnot (zc2 q00 2 24)) (k_ 0 0 0 Bool.false [] [] []) (grd (zbh q00) (grd (zc8 (z66 q00) (pF (z7m q00) 0 (muN (z66 q00) 1)) (z64 q00) (pF (z7i q00) 0 (muN (z64 q00) 1)) (z63 q00) (pF (z7h q00) 0 (muN (z63 q00) 1))) (br (bnot (zc3 (z66 q00) (pF (z7m q00) 0 (muN (z66 q00) 1)) (z64 q00) (pF (z7i q00) 0 (muN (z64 q00) 1)) (z63 q00) (pF (z7h q00) 0 (muN (z63 q00) 1)))) (k_ 0 0 0 Bool.false [] [] []) (k_ (z66 q00) (z64 q00) (z63 q00) Bool.true (z7m q00) (z7i q00) (z7h q00)))))))
noncomputable def z4b (q00 : Int) : Option (Nat × Nat × Nat × Bool × (List Nat) × (List Nat) × (List Nat)) := z6b q00 (fun c0_ c1_ c2_ c3_ c4_ c5_ c6_ => some (c0_, c1_, c2_, c3_, c4_, c5_, c6_))
theorem zdb {R R' : Type} (o : Option R → Option R') (h0 : o none = none) (q00 : Int) (k_ : Nat → Nat → Nat → Bool → (List Nat) → (List Nat) → (List Nat) → Option R) : z6b q00 (fun c0_ c1_ c2_ c3_ c4_ c5_ c6_ => o (k_ c0_ c1_ c2_ c3_ c4_ c5_ c6_)) = o (z6b q00 k_) := by
  unfold z6b
  repeat (first | refine grd_out h0 ?_ | refine br_out ?_ ?_ | rfl | exact h0.symm)
noncomputable def z91 (q00 : Int) : Bool := (z4b q00).isSome
noncomputable def z4g (q00 : Int) : Nat := ((z4b q00).getD default).1
noncomputable def z4e (q00 : Int) : Nat := ((z4b q00).getD default).2.1
noncomputable def z4d (q00 : Int) : Nat := ((z4b q00).getD default).2.2.1
noncomputable def z6v (q00 : Int) : Bool := ((z4b q00).getD default).2.2.2.1
noncomputable def z5s (q00 : Int) : List Nat := ((z4b q00).getD default).2.2.2.2.1
noncomputable def z5t (q00 : Int) : List Nat := ((z4b q00).getD default).2.2.2.2.2.1
noncomputable def z5u (q00 : Int) : List Nat := ((z4b q00).getD default).2.2.2.2.2.2
theorem zef {q00 : Int} {r : Nat × Nat × Nat × Bool × (List Nat) × (List Nat) × (List Nat)} (h : z4b q00 = some r) : z91 q00 = true ∧ z4g q00 = r.1 ∧ z4e q00 = r.2.1 ∧ z4d q00 = r.2.2.1 ∧ z6v q00 = r.2.2.2.1 ∧ z5s q00 = r.2.2.2.2.1 ∧ z5t q00 = r.2.2.2.2.2.1 ∧ z5u q00 = r.2.2.2.2.2.2 := by
  unfold z91 z4g z4e z4d z6v z5s z5t z5u
  rw [h]
  exact ⟨rfl, rfl, rfl, rfl, rfl, rfl, rfl, rfl⟩
noncomputable def z4r {R : Type} (q10 : Nat) (t43 : Int) (b0 : List Nat) (q0d : Nat) (t44 : Int) (kn_ : Int → Option R) (k0_ : Unit → Option R) (k1_ : Int → Bool → Option R) : Option R := (br (ltI t44 t43) (grd (okIx t44 q10) (grd (zbj (gF b0 (ixO 0 t44 1)) 3204448256 1056964608) (br (bnot (zb1 (gF b0 (ixO 0 t44 1)) 3204448256 1056964608)) (k0_ ()) (br (ltI 0 t44) (grd (okIx (subI IntKind.i64 t44 1) q0d) (br (fcmp BinOp.geq FloatKind.f32 (gF b0 (ixO 0 (subI IntKind.i64 t44 1) 1)) (gF b0 (ixO 0 t44 1))) (k0_ ()) (kn_ (addI IntKind.i64 t44 1)))) (kn_ (addI IntKind.i64 t44 1)))))) (k1_ t44 (ltI t44 t43)))
theorem zcq {R R' : Type} (o : Option R → Option R') (h0 : o none = none) (q10 : Nat) (t43 : Int) (b0 : List Nat) (q0d : Nat) (t44 : Int) (kn_ : Int → Option R) (k0_ : Unit → Option R) (k1_ : Int → Bool → Option R) : z4r q10 t43 b0 q0d t44 (fun t44' => o (kn_ t44')) (fun _ => o (k0_ ())) (fun c0_ c1_ => o (k1_ c0_ c1_)) = o (z4r q10 t43 b0 q0d t44 kn_ k0_ k1_) := by
  unfold z4r
  repeat (first | refine grd_out h0 ?_ | refine br_out ?_ ?_ | rfl | exact h0.symm)
noncomputable def z3s (q10 : Nat) (t43 : Int) (b0 : List Nat) (q0d : Nat) : Nat → Int → Option ((Unit) ⊕ (Int × Bool))
  | 0, _ => none
  | n + 1, t44 => z4r q10 t43 b0 q0d  t44  (fun t44' => z3s q10 t43 b0 q0d n t44') (fun _ => some (Sum.inl ())) (fun c0_ c1_ => some (Sum.inr (c0_, c1_)))
theorem zaz (q10 : Nat) (t43 : Int) (b0 : List Nat) (q0d : Nat) (n : Nat) (t44 : Int) : z3s q10 t43 b0 q0d (n + 1) t44 = z4r q10 t43 b0 q0d  t44  (fun t44' => z3s q10 t43 b0 q0d n t44') (fun _ => some (Sum.inl ())) (fun c0_ c1_ => some (Sum.inr (c0_, c1_))) := rfl
noncomputable def z5l (q10 : Nat) (t43 : Int) (b0 : List Nat) (q0d : Nat) (t44 : Int) : Bool := (z3s q10 t43 b0 q0d big t44).isSome
noncomputable def z5b (q10 : Nat) (t43 : Int) (b0 : List Nat) (q0d : Nat) (t44 : Int) : Bool := oL (z3s q10 t43 b0 q0d big t44)
noncomputable def z8m (q10 : Nat) (t43 : Int) (b0 : List Nat) (q0d : Nat) (t44 : Int) : Int := ((tR (z3s q10 t43 b0 q0d big t44)).getD default).1
noncomputable def z8o (q10 : Nat) (t43 : Int) (b0 : List Nat) (q0d : Nat) (t44 : Int) : Bool := ((tR (z3s q10 t43 b0 q0d big t44)).getD default).2
theorem zd4 {q10 : Nat} {t43 : Int} {b0 : List Nat} {q0d : Nat} {t44 : Int} {m : Nat} {r : Unit} (hm : m = big) (h : z3s q10 t43 b0 q0d m t44 = some (Sum.inl r)) : z5l q10 t43 b0 q0d t44 = true ∧ z5b q10 t43 b0 q0d t44 = true := by
  subst hm
  unfold z5l z5b
  rw [h]
  exact ⟨rfl, rfl⟩
theorem zd2 {q10 : Nat} {t43 : Int} {b0 : List Nat} {q0d : Nat} {t44 : Int} {m : Nat} {r : Int × Bool} (hm : m = big) (h : z3s q10 t43 b0 q0d m t44 = some (Sum.inr r)) : z5l q10 t43 b0 q0d t44 = true ∧ z5b q10 t43 b0 q0d t44 = false ∧ z8m q10 t43 b0 q0d t44 = r.1 ∧ z8o q10 t43 b0 q0d t44 = r.2 := by
  subst hm
  unfold z5l z5b z8m z8o
  rw [h]
  exact ⟨rfl, rfl, rfl, rfl⟩
noncomputable def z6e {R : Type} (q03 : Nat) (q06 : List Nat) (q05 : Nat) (q07 : List Nat) (q04 : Nat) (q08 : List Nat) (k_ : Bool → Option R) : Option R := (br (ltI (Int.ofNat q03) 2) (k_ Bool.false) (br (ltI 24 (Int.ofNat q03)) (k_ Bool.false) (br (neI (Int.ofNat q05) (Int.ofNat q03)) (k_ Bool.false) (br (neI (Int.ofNat q04) (Int.ofNat q03)) (k_ Bool.false) (grd (zb5 q05 (pF q07 0 (muN q05 1))) (br (bnot (za9 q05 (pF q07 0 (muN q05 1)))) (k_ Bool.false) (grd (zbi q04 (pF q08 0 (muN q04 1))) (br (bnot (zb2 q04 (pF q08 0 (muN q04 1)))) (k_ Bool.false) (grd (z5l q03 (Int.ofNat q03) q06 q03 0) (br (z5b q03 (Int.ofNat q03) q06 q03 0) (k_ Bool.false) (k_ Bool.true)))))))))))
noncomputable def z6c (q03 : Nat) (q06 : List Nat) (q05 : Nat) (q07 : List Nat) (q04 : Nat) (q08 : List Nat) : Option (Bool) := z6e q03 q06 q05 q07 q04 q08 (fun c0_ => some c0_)
theorem zdc {R R' : Type} (o : Option R → Option R') (h0 : o none = none) (q03 : Nat) (q06 : List Nat) (q05 : Nat) (q07 : List Nat) (q04 : Nat) (q08 : List Nat) (k_ : Bool → Option R) : z6e q03 q06 q05 q07 q04 q08 (fun c0_ => o (k_ c0_)) = o (z6e q03 q06 q05 q07 q04 q08 k_) := by
  unfold z6e
  repeat (first | refine grd_out h0 ?_ | refine br_out ?_ ?_ | rfl | exact h0.symm)
noncomputable def z92 (q03 : Nat) (q06 : List Nat) (q05 : Nat) (q07 : List Nat) (q04 : Nat) (q08 : List Nat) : Bool := (z6c q03 q06 q05 q07 q04 q08).isSome
noncomputable def z8i (q03 : Nat) (q06 : List Nat) (q05 : Nat) (q07 : List Nat) (q04 : Nat) (q08 : List Nat) : Bool := ((z6c q03 q06 q05 q07 q04 q08).getD default)
theorem zen {q03 : Nat} {q06 : List Nat} {q05 : Nat} {q07 : List Nat} {q04 : Nat} {q08 : List Nat} {r : Bool} (h : z6c q03 q06 q05 q07 q04 q08 = some r) : z92 q03 q06 q05 q07 q04 q08 = true ∧ z8i q03 q06 q05 q07 q04 q08 = r := by
  unfold z92 z8i
  rw [h]
  exact ⟨rfl, rfl⟩
noncomputable def z4p {R : Type} (q00 : Int) (t14 : Int) (t15 : Int) (q0b : Nat) (q0a : Nat) (q0c : Nat) (b5 : List Nat) (b6 : List Nat) (b7 : List Nat) (kn_ : Int → Nat → Nat → Nat → (List Nat) → (List Nat) → (List Nat) → Option R) (k0_ : Int → Bool → Nat → Nat → Nat → (List Nat) → (List Nat) → (List Nat) → Option R) : Option R := (br (ltI t15 t14) (grd (z6l (fop BinOp.sub FloatKind.f32 (fop BinOp.quo FloatKind.f32 (fOI FloatKind.f32 t15) (fOI FloatKind.f32 (subI IntKind.i64 q00 1))) 1056964608)) (grd (z6l (fop BinOp.add FloatKind.f32 (fop BinOp.sub FloatKind.f32 (fop BinOp.quo FloatKind.f32 (fOI FloatKind.f32 t15) (fOI FloatKind.f32 (subI IntKind.i64 q00 1))) 1056964608) 1048576000)) (grd (okA2 q0b 1 4 (nF (pF [(fop BinOp.sub FloatKind.f32 (fop BinOp.quo FloatKind.f32 (fOI FloatKind.f32 t15) (fOI FloatKind.f32 (subI IntKind.i64 q00 1))) 1056964608)] 0 (muN 1 1))) (nF b5) 1) (grd (okA2 q0a 1 4 (nF (pF [(fop BinOp.mul FloatKind.f32 (fop BinOp.mul FloatKind.f32 1073741824 (z45 (fop BinOp.sub FloatKind.f32 (fop BinOp.quo FloatKind.f32 (fOI FloatKind.f32 t15) (fOI FloatKind.f32 (subI IntKind.i64 q00 1))) 1056964608))) (z45 (fop BinOp.add FloatKind.f32 (fop BinOp.sub FloatKind.f32 (fop BinOp.quo FloatKind.f32 (fOI FloatKind.f32 t15) (fOI FloatKind.f32 (subI IntKind.i64 q00 1))) 1056964608) 1048576000)))] 0 (muN 1 1))) (nF b6) 1) (grd (okA2 q0c 1 4 (nF (pF [(fop BinOp.mul FloatKind.f32 (fop BinOp.mul FloatKind.f32 1073741824 (z45 (fop BinOp.sub FloatKind.f32 (fop BinOp.quo FloatKind.f32 (fOI FloatKind.f32 t15) (fOI FloatKind.f32 (subI IntKind.i64 q00 1))) 1056964608))) (z45 (fop BinOp.sub FloatKind.f32 (fop BinOp.quo FloatKind.f32 (fOI FloatKind.f32 t15) (fOI FloatKind.f32 (subI IntKind.i64 q00 1))) 1056964608)))] 0 (muN 1 1))) (nF b7) 1) (kn_ (addI IntKind.i64 t15 1) (adN q0b 1) (adN q0a 1) (adN q0c 1) (aF b5 (pF [(fop BinOp.sub FloatKind.f32 (fop BinOp.quo FloatKind.f32 (fOI FloatKind.f32 t15) (fOI FloatKind.f32 (subI IntKind.i64 q00 1))) 1056964608)] 0 (muN 1 1))) (aF b6 (pF [(fop BinOp.mul FloatKind.f32 (fop BinOp.mul FloatKind.f32 1073741824 (z45 (fop BinOp.sub FloatKind.f32 (fop BinOp.quo FloatKind.f32 (fOI FloatKind.f32 t15) (fOI FloatKind.f32 (subI IntKind.i64 q00 1))) 1056964608))) (z45 (fop BinOp.add FloatKind.f32 (fop BinOp.sub FloatKind.f32 (fop BinOp.quo FloatKind.f32 (fOI FloatKind.f32 t15) (fOI FloatKind.f32 (subI IntKind.i64 q00 1))) 1056964608) 1048576000)))] 0 (muN 1 1))) (aF b7 (pF [(fop BinOp.mul FloatKind.f32 (fop BinOp.mul FloatKind.f32 1073741824 (z45 (fop BinOp.sub FloatKind.f32 (fop BinOp.quo FloatKind.f32 (fOI FloatKind.f32 t15) (fOI FloatKind.f32 (subI IntKind.i64 q00 1))) 1056964608))) (z45 (fop BinOp.sub FloatKind.f32 (fop BinOp.quo FloatKind.f32 (fOI FloatKind.f32 t15) (fOI FloatKind.f32 (subI IntKind.i64 q00 1))) 1056964608)))] 0 (muN 1 1))))))))) (k0_ t15 (ltI t15 t14) q0b q0a q0c b5 b6 b7))
theorem zcp {R R' : Type} (o : Option R → Option R') (h0 : o none = none) (q00 : Int) (t14 : Int) (t15 : Int) (q0b : Nat) (q0a : Nat) (q0c : Nat) (b5 : List Nat) (b6 : List Nat) (b7 : List Nat) (kn_ : Int → Nat → Nat → Nat → (List Nat) → (List Nat) → (List Nat) → Option R) (k0_ : Int → Bool → Nat → Nat → Nat → (List Nat) → (List Nat) → (List Nat) → Option R) : z4p q00 t14 t15 q0b q0a q0c b5 b6 b7 (fun t15' q0b' q0a' q0c' b5' b6' b7' => o (kn_ t15' q0b' q0a' q0c' b5' b6' b7')) (fun c0_ c1_ c2_ c3_ c4_ c5_ c6_ c7_ => o (k0_ c0_ c1_ c2_ c3_ c4_ c5_ c6_ c7_)) = o (z4p q00 t14 t15 q0b q0a q0c b5 b6 b7 kn_ k0_) := by
  unfold z4p
  repeat (first | refine grd_out h0 ?_ | refine br_out ?_ ?_ | rfl | exact h0.symm)
noncomputable def z2l (q00 : Int) (t14 : Int) : Nat → Int → Nat → Nat → Nat → (List Nat) → (List Nat) → (List Nat) → Option ((Int × Bool × Nat × Nat × Nat × (List Nat) × (List Nat) × (List Nat)))
  | 0, _, _, _, _, _, _, _ => none
  | n + 1, t15, q0b, q0a, q0c, b5, b6, b7 => z4p q00 t14  t15 q0b q0a q0c b5 b6 b7  (fun t15' q0b' q0a' q0c' b5' b6' b7' => z2l q00 t14 n t15' q0b' q0a' q0c' b5' b6' b7') (fun c0_ c1_ c2_ c3_ c4_ c5_ c6_ c7_ => some (c0_, c1_, c2_, c3_, c4_, c5_, c6_, c7_))
theorem zax (q00 : Int) (t14 : Int) (n : Nat) (t15 : Int) (q0b : Nat) (q0a : Nat) (q0c : Nat) (b5 : List Nat) (b6 : List Nat) (b7 : List Nat) : z2l q00 t14 (n + 1) t15 q0b q0a q0c b5 b6 b7 = z4p q00 t14  t15 q0b q0a q0c b5 b6 b7  (fun t15' q0b' q0a' q0c' b5' b6' b7' => z2l q00 t14 n t15' q0b' q0a' q0c' b5' b6' b7') (fun c0_ c1_ c2_ c3_ c4_ c5_ c6_ c7_ => some (c0_, c1_, c2_, c3_, c4_, c5_, c6_, c7_)) := rfl
noncomputable def z7t (q00 : Int) (t14 : Int) (t15 : Int) (q0b : Nat) (q0a : Nat) (q0c : Nat) (b5 : List Nat) (b6 : List Nat) (b7 : List Nat) : Bool := (z2l q00 t14 big t15 q0b q0a q0c b5 b6 b7).isSome
noncomputable def z8l (q00 : Int) (t14 : Int) (t15 : Int) (q0b : Nat) (q0a : Nat) (q0c : Nat) (b5 : List Nat) (b6 : List Nat) (b7 : List Nat) : Int := ((z2l q00 t14 big t15 q0b q0a q0c b5 b6 b7).getD default).1
noncomputable def z8r (q00 : Int) (t14 : Int) (t15 : Int) (q0b : Nat) (q0a : Nat) (q0c : Nat) (b5 : List Nat) (b6 : List Nat) (b7 : List Nat) : Bool := ((z2l q00 t14 big t15 q0b q0a q0c b5 b6 b7).getD default).2.1
noncomputable def z4h (q00 : Int) (t14 : Int) (t15 : Int) (q0b : Nat) (q0a : Nat) (q0c : Nat) (b5 : List Nat) (b6 : List Nat) (b7 : List Nat) : Nat := ((z2l q00 t14 big t15 q0b q0a q0c b5 b6 b7).getD default).2.2.1
noncomputable def z4i (q00 : Int) (t14 : Int) (t15 : Int) (q0b : Nat) (q0a : Nat) (q0c : Nat) (b5 : List Nat) (b6 : List Nat) (b7 : List Nat) : Nat := ((z2l q00 t14 big t15 q0b q0a q0c b5 b6 b7).getD default).2.2.2.1
noncomputable def z4j (q00 : Int) (t14 : Int) (t15 : Int) (q0b : Nat) (q0a : Nat) (q0c : Nat) (b5 : List Nat) (b6 : List Nat) (b7 : List Nat) : Nat := ((z2l q00 t14 big t15 q0b q0a q0c b5 b6 b7).getD default).2.2.2.2.1
noncomputable def z5q (q00 : Int) (t14 : Int) (t15 : Int) (q0b : Nat) (q0a : Nat) (q0c : Nat) (b5 : List Nat) (b6 : List Nat) (b7 : List Nat) : List Nat := ((z2l q00 t14 big t15 q0b q0a q0c b5 b6 b7).getD default).2.2.2.2.2.1
noncomputable def z5p (q00 : Int) (t14 : Int) (t15 : Int) (q0b : Nat) (q0a : Nat) (q0c : Nat) (b5 : List Nat) (b6 : List Nat) (b7 : List Nat) : List Nat := ((z2l q00 t14 big t15 q0b q0a q0c b5 b6 b7).getD default).2.2.2.2.2.2.1
noncomputable def z5o (q00 : Int) (t14 : Int) (t15 : Int) (q0b : Nat) (q0a : Nat) (q0c : Nat) (b5 : List Nat) (b6 : List Nat) (b7 : List Nat) : List Nat := ((z2l q00 t14 big t15 q0b q0a q0c b5 b6 b7).getD default).2.2.2.2.2.2.2
theorem zd8 {q00 : Int} {t14 : Int} {t15 : Int} {q0b : Nat} {q0a : Nat} {q0c : Nat} {b5 : List Nat} {b6 : List Nat} {b7 : List Nat} {m : Nat} {r : Int × Bool × Nat × Nat × Nat × (List Nat) × (List Nat) × (List Nat)} (hm : m = big) (h : z2l q00 t14 m t15 q0b q0a q0c b5 b6 b7 = some r) : z7t q00 t14 t15 q0b q0a q0c b5 b6 b7 = true ∧ z8l q00 t14 t15 q0b q0a q0c b5 b6 b7 = r.1 ∧ z8r q00 t14 t15 q0b q0a q0c b5 b6 b7 = r.2.1 ∧ z4h q00 t14 t15 q0b q0a q0c b5 b6 b7 = r.2.2.1 ∧ z4i q00 t14 t15 q0b q0a q0c b5 b6 b7 = r.2.2.2.1 ∧ z4j q00 t14 t15 q0b q0a q0c b5 b6 b7 = r.2.2.2.2.1 ∧ z5q q00 t14 t15 q0b q0a q0c b5 b6 b7 = r.2.2.2.2.2.1 ∧ z5p q00 t14 t15 q0b q0a q0c b5 b6 b7 = r.2.2.2.2.2.2.1 ∧ z5o q00 t14 t15 q0b q0a q0c b5 b6 b7 = r.2.2.2.2.2.2.2 := by
  subst hm
  unfold z7t z8l z8r z4h z4i z4j z5q z5p z5o
  rw [h]
  exact ⟨rfl, rfl, rfl, rfl, rfl, rfl, rfl, rfl, rfl⟩
noncomputable def z6d {R : Type} (q00 : Int) (k_ : Nat → Nat → Nat → Bool → (List Nat) → (List Nat) → (List Nat) → Option R) : Option R := (grd (zc0 q00 2 24) (br (bnot (zbq q00 2 24)) (k_ 0 0 0 Bool.false [] [] []) (grd (z7t q00 q00 0 0 0 0 [] [] []) (grd (z92 (z4h q00 q00 0 0 0 0 [] [] []) (pF (z5q q00 q00 0 0 0 0 [] [] []) 0 (muN (z4h q00 q00 0 0 0 0 [] [] []) 1)) (z4i q00 q00 0 0 0 0 [] [] []) (pF (z5p q00 q00 0 0 0 0 [] [] []) 0 (muN (z4i q00 q00 0 0 0 0 [] [] []) 1)) (z4j q00 q00 0 0 0 0 [] [] []) (pF (z5o q00 q00 0 0 0 0 [] [] []) 0 (muN (z4j q00 q00 0 0 0 0 [] [] []) 1))) (br (bnot (z8i (z4h q00 q00 0 0 0 0 [] [] []) (pF (z5q q00 q00 0 0 0 0 [] [] []) 0 (muN (z4h q00 q00 0 0 0 0 [] [] []) 1)) (z4i q00 q00 0 0 0 0 [] [] []) (pF (z5p q00 q00 0 0 0 0 [] [] []) 0 (muN (z4i q00 q00 0 0 0 0 [] [] []) 1)) (z4j q00 q00 0 0 0 0 [] [] []) (pF (z5o q00 q00 0 0 0 0 [] [] []) 0 (muN (z4j q00 q00 0 0 0 0 [] [] []) 1)))) (k_ 0 0 0 Bool.false [] [] []) (k_ (z4h q00 q00 0 0 0 0 [] [] []) (z4i q00 q00 0 0 0 0 [] [] []) (z4j q00 q00 0 0 0 0 [] [] []) Bool.true (z5q q00 q00 0 0 0 0 [] [] []) (z5p q00 q00 0 0 0 0 [] [] []) (z5o q00 q00 0 0 0 0 [] [] [])))))))
noncomputable def z4a (q00 : Int) : Option (Nat × Nat × Nat × Bool × (List Nat) × (List Nat) × (List Nat)) := z6d q00 (fun c0_ c1_ c2_ c3_ c4_ c5_ c6_ => some (c0_, c1_, c2_, c3_, c4_, c5_, c6_))
theorem zde {R R' : Type} (o : Option R → Option R') (h0 : o none = none) (q00 : Int) (k_ : Nat → Nat → Nat → Bool → (List Nat) → (List Nat) → (List Nat) → Option R) : z6d q00 (fun c0_ c1_ c2_ c3_ c4_ c5_ c6_ => o (k_ c0_ c1_ c2_ c3_ c4_ c5_ c6_)) = o (z6d q00 k_) := by
  unfold z6d
  repeat (first | refine grd_out h0 ?_ | refine br_out ?_ ?_ | rfl | exact h0.symm)
noncomputable def z7a (q00 : Int) : Bool := (z4a q00).isSome
noncomputable def z0c (q00 : Int) : Nat := ((z4a q00).getD default).1
noncomputable def z0m (q00 : Int) : Nat := ((z4a q00).getD default).2.1
noncomputable def z17 (q00 : Int) : Nat := ((z4a q00).getD default).2.2.1
noncomputable def z6y (q00 : Int) : Bool := ((z4a q00).getD default).2.2.2.1
noncomputable def z1i (q00 : Int) : List Nat := ((z4a q00).getD default).2.2.2.2.1
noncomputable def z2u (q00 : Int) : List Nat := ((z4a q00).getD default).2.2.2.2.2.1
noncomputable def z3p (q00 : Int) : List Nat := ((z4a q00).getD default).2.2.2.2.2.2
theorem zeh {q00 : Int} {r : Nat × Nat × Nat × Bool × (List Nat) × (List Nat) × (List Nat)} (h : z4a q00 = some r) : z7a q00 = true ∧ z0c q00 = r.1 ∧ z0m q00 = r.2.1 ∧ z17 q00 = r.2.2.1 ∧ z6y q00 = r.2.2.2.1 ∧ z1i q00 = r.2.2.2.2.1 ∧ z2u q00 = r.2.2.2.2.2.1 ∧ z3p q00 = r.2.2.2.2.2.2 := by
  unfold z7a z0c z0m z17 z6y z1i z2u z3p
  rw [h]
  exact ⟨rfl, rfl, rfl, rfl, rfl, rfl, rfl, rfl⟩
noncomputable def z3n {R : Type} (an : Nat) (k : Int) (i : Int) (b5 : List Nat) (kn_ : Int → Int → (List Nat) → Option R) (k0_ : Int → Int → Bool → (List Nat) → Option R) : Option R := (br (ltI i (Int.ofNat an)) (grd (okIx i an) (kn_ (addI IntKind.i64 k 1) (addI IntKind.i64 i 1) (sF b5 (ixO 0 i 1) (fOI FloatKind.f32 k)))) (k0_ k i (ltI i (Int.ofNat an)) b5))
theorem z96 {R R' : Type} (o : Option R → Option R') (h0 : o none = none) (an : Nat) (k : Int) (i : Int) (b5 : List Nat) (kn_ : Int → Int → (List Nat) → Option R) (k0_ : Int → Int → Bool → (List Nat) → Option R) : z3n an k i b5 (fun k' i' b5' => o (kn_ k' i' b5')) (fun c0_ c1_ c2_ c3_ => o (k0_ c0_ c1_ c2_ c3_)) = o (z3n an k i b5 kn_ k0_) := by
  unfold z3n
  repeat (first | refine grd_out h0 ?_ | refine br_out ?_ ?_ | rfl | exact h0.symm)
noncomputable def z1q (an : Nat) : Nat → Int → Int → (List Nat) → Option ((Int × Int × Bool × (List Nat)))
  | 0, _, _, _ => none
  | n + 1, k, i, b5 => z3n an  k i b5  (fun k' i' b5' => z1q an n k' i' b5') (fun c0_ c1_ c2_ c3_ => some (c0_, c1_, c2_, c3_))
theorem z90 (an : Nat) (n : Nat) (k : Int) (i : Int) (b5 : List Nat) : z1q an (n + 1) k i b5 = z3n an  k i b5  (fun k' i' b5' => z1q an n k' i' b5') (fun c0_ c1_ c2_ c3_ => some (c0_, c1_, c2_, c3_)) := rfl
noncomputable def z4v (an : Nat) (k : Int) (i : Int) (b5 : List Nat) : Bool := (z1q an big k i b5).isSome
noncomputable def z0d (an : Nat) (k : Int) (i : Int) (b5 : List Nat) : Int := ((z1q an big k i b5).getD default).1
noncomputable def z5d (an : Nat) (k : Int) (i : Int) (b5 : List Nat) : Int := ((z1q an big k i b5).getD default).2.1
noncomputable def z5c (an : Nat) (k : Int) (i : Int) (b5 : List Nat) : Bool := ((z1q an big k i b5).getD default).2.2.1
noncomputable def z32 (an : Nat) (k : Int) (i : Int) (b5 : List Nat) : List Nat := ((z1q an big k i b5).getD default).2.2.2
theorem z9j {an : Nat} {k : Int} {i : Int} {b5 : List Nat} {m : Nat} {r : Int × Int × Bool × (List Nat)} (hm : m = big) (h : z1q an m k i b5 = some r) : z4v an k i b5 = true ∧ z0d an k i b5 = r.1 ∧ z5d an k i b5 = r.2.1 ∧ z5c an k i b5 = r.2.2.1 ∧ z32 an k i b5 = r.2.2.2 := by
  subst hm
  unfold z4v z0d z5d z5c z32
  rw [h]
  exact ⟨rfl, rfl, rfl, rfl, rfl⟩
noncomputable def z3m {R : Type} (an : Nat) (k : Int) (i : Int) (b6 : List Nat) (kn_ : Int → Int → (List Nat) → Option R) (k0_ : Int → Int → Bool → (List Nat) → Option R) : Option R := (br (ltI i (Int.ofNat an)) (grd (okIx i an) (kn_ (addI IntKind.i64 k 1) (addI IntKind.i64 i 1) (sF b6 (ixO 0 i 1) (fOI FloatKind.f32 k)))) (k0_ k i (ltI i (Int.ofNat an)) b6))
theorem z8t {R R' : Type} (o : Option R → Option R') (h0 : o none = none) (an : Nat) (k : Int) (i : Int) (b6 : List Nat) (kn_ : Int → Int → (List Nat) → Option R) (k0_ : Int → Int → Bool → (List Nat) → Option R) : z3m an k i b6 (fun k' i' b6' => o (kn_ k' i' b6')) (fun c0_ c1_ c2_ c3_ => o (k0_ c0_ c1_ c2_ c3_)) = o (z3m an k i b6 kn_ k0_) := by
  unfold z3m
  repeat (first | refine grd_out h0 ?_ | refine br_out ?_ ?_ | rfl | exact h0.symm)
noncomputable def z1c (an : Nat) : Nat → Int → Int → (List Nat) → Option ((Int × Int × Bool × (List Nat)))
  | 0, _, _, _ => none
  | n + 1, k, i, b6 => z3m an  k i b6  (fun k' i' b6' => z1c an n k' i' b6') (fun c0_ c1_ c2_ c3_ => some (c0_, c1_, c2_, c3_))
theorem z8j (an : Nat) (n : Nat) (k : Int) (i : Int) (b6 : List Nat) : z1c an (n + 1) k i b6 = z3m an  k i b6  (fun k' i' b6' => z1c an n k' i' b6') (fun c0_ c1_ c2_ c3_ => some (c0_, c1_, c2_, c3_)) := rfl
noncomputable def z4m (an : Nat) (k : Int) (i : Int) (b6 : List Nat) : Bool := (z1c an big k i b6).isSome
noncomputable def z1h (an : Nat) (k : Int) (i : Int) (b6 : List Nat) : Int := ((z1c an big k i b6).getD default).1
noncomputable def z57 (an : Nat) (k : Int) (i : Int) (b6 : List Nat) : Int := ((z1c an big k i b6).getD default).2.1
noncomputable def z56 (an : Nat) (k : Int) (i : Int) (b6 : List Nat) : Bool := ((z1c an big k i b6).getD default).2.2.1
noncomputable def z2w (an : Nat) (k : Int) (i : Int) (b6 : List Nat) : List Nat := ((z1c an big k i b6).getD default).2.2.2
theorem z94 {an : Nat} {k : Int} {i : Int} {b6 : List Nat} {m : Nat} {r : Int × Int × Bool × (List Nat)} (hm : m = big) (h : z1c an m k i b6 = some r) : z4m an k i b6 = true ∧ z1h an k i b6 = r.1 ∧ z57 an k i b6 = r.2.1 ∧ z56 an k i b6 = r.2.2.1 ∧ z2w an k i b6 = r.2.2.2 := by
  subst hm
  unfold z4m z1h z57 z56 z2w
  rw [h]
  exact ⟨rfl, rfl, rfl, rfl, rfl⟩
noncomputable def z3l {R : Type} (an : Nat) (k : Int) (i : Int) (b7 : List Nat) (kn_ : Int → Int → (List Nat) → Option R) (k0_ : Int → Int → Bool → (List Nat) → Option R) : Option R := (br (ltI i (Int.ofNat an)) (grd (okIx i an) (kn_ (addI IntKind.i64 k 1) (addI IntKind.i64 i 1) (sF b7 (ixO 0 i 1) (fOI FloatKind.f32 k)))) (k0_ k i (ltI i (Int.ofNat an)) b7))
theorem z8s {R R' : Type} (o : Option R → Option R') (h0 : o none = none) (an : Nat) (k : Int) (i : Int) (b7 : List Nat) (kn_ : Int → Int → (List Nat) → Option R) (k0_ : Int → Int → Bool → (List Nat) → Option R) : z3l an k i b7 (fun k' i' b7' => o (kn_ k' i' b7')) (fun c0_ c1_ c2_ c3_ => o (k0_ c0_ c1_ c2_ c3_)) = o (z3l an k i b7 kn_ k0_) := by
  unfold z3l
  repeat (first | refine grd_out h0 ?_ | refine br_out ?_ ?_ | rfl | exact h0.symm)
noncomputable def z1g (an : Nat) : Nat → Int → Int → (List Nat) → Option ((Int × Int × Bool × (List Nat)))
  | 0, _, _, _ => none
  | n + 1, k, i, b7 => z3l an  k i b7  (fun k' i' b7' => z1g an n k' i' b7') (fun c0_ c1_ c2_ c3_ => some (c0_, c1_, c2_, c3_))
theorem z8n (an : Nat) (n : Nat) (k : Int) (i : Int) (b7 : List Nat) : z1g an (n + 1) k i b7 = z3l an  k i b7  (fun k' i' b7' => z1g an n k' i' b7') (fun c0_ c1_ c2_ c3_ => some (c0_, c1_, c2_, c3_)) := rfl
noncomputable def z4n (an : Nat) (k : Int) (i : Int) (b7 : List Nat) : Bool := (z1g an big k i b7).isSome
noncomputable def z3y (an : Nat) (k : Int) (i : Int) (b7 : List Nat) : Int := ((z1g an big k i b7).getD default).1
noncomputable def z58 (an : Nat) (k : Int) (i : Int) (b7 : List Nat) : Int := ((z1g an big k i b7).getD default).2.1
noncomputable def z59 (an : Nat) (k : Int) (i : Int) (b7 : List Nat) : Bool := ((z1g an big k i b7).getD default).2.2.1
noncomputable def z2t (an : Nat) (k : Int) (i : Int) (b7 : List Nat) : List Nat := ((z1g an big k i b7).getD default).2.2.2
theorem z95 {an : Nat} {k : Int} {i : Int} {b7 : List Nat} {m : Nat} {r : Int × Int × Bool × (List Nat)} (hm : m = big) (h : z1g an m k i b7 = some r) : z4n an k i b7 = true ∧ z3y an k i b7 = r.1 ∧ z58 an k i b7 = r.2.1 ∧ z59 an k i b7 = r.2.2.1 ∧ z2t an k i b7 = r.2.2.2 := by
  subst hm
  unfold z4n z3y z58 z59 z2t
  rw [h]
  exact ⟨rfl, rfl, rfl, rfl, rfl⟩
noncomputable def z5e {R : Type} (q01 : Int) (k_ : Bool → Option R) : Option R := (grd (z91 q01) (grd (z7a q01) (grd (z8x (z0c q01) (pF (z1i q01) 0 (muN (z0c q01) 1)) (z0m q01) (pF (z2u q01) 0 (muN (z0m q01) 1)) (z17 q01) (pF (z3p q01) 0 (muN (z17 q01) 1)) (z4g q01) (pF (z5s q01) 0 (muN (z4g q01) 1)) (z4e q01) (pF (z5t q01) 0 (muN (z4e q01) 1)) (z4d q01) (pF (z5u q01) 0 (muN (z4d q01) 1))) (br (bnot (z8f (z0c q01) (pF (z1i q01) 0 (muN (z0c q01) 1)) (z0m q01) (pF (z2u q01) 0 (muN (z0m q01) 1)) (z17 q01) (pF (z3p q01) 0 (muN (z17 q01) 1)) (z4g q01) (pF (z5s q01) 0 (muN (z4g q01) 1)) (z4e q01) (pF (z5t q01) 0 (muN (z4e q01) 1)) (z4d q01) (pF (z5u q01) 0 (muN (z4d q01) 1)))) (k_ Bool.false) (br (bnot (beqB (z6y q01) (z6v q01))) (k_ Bool.false) (grd (z4v (z0c q01) 1 0 (z1i q01)) (grd (z4m (z0m q01) (z0d (z0c q01) 1 0 (z1i q01)) 0 (z2u q01)) (grd (z4n (z17 q01) (z1h (z0m q01) (z0d (z0c q01) 1 0 (z1i q01)) 0 (z2u q01)) 0 (z3p q01)) (grd (z7w (z0c q01) (pF (z32 (z0c q01) 1 0 (z1i q01)) 0 (muN (z0c q01) 1)) (z0m q01) (pF (z2w (z0m q01) (z0d (z0c q01) 1 0 (z1i q01)) 0 (z2u q01)) 0 (muN (z0m q01) 1)) (z17 q01) (pF (z2t (z17 q01) (z1h (z0m q01) (z0d (z0c q01) 1 0 (z1i q01)) 0 (z2u q01)) 0 (z3p q01)) 0 (muN (z17 q01) 1)) 1) (br (ltI (z60 (z0c q01) (pF (z32 (z0c q01) 1 0 (z1i q01)) 0 (muN (z0c q01) 1)) (z0m q01) (pF (z2w (z0m q01) (z0d (z0c q01) 1 0 (z1i q01)) 0 (z2u q01)) 0 (muN (z0m q01) 1)) (z17 q01) (pF (z2t (z17 q01) (z1h (z0m q01) (z0d (z0c q01) 1 0 (z1i q01)) 0 (z2u q01)) 0 (z3p q01)) 0 (muN (z17 q01) 1)) 1) 0) (k_ Bool.false) (br (neI (z60 (z0c q01) (pF (z32 (z0c q01) 1 0 (z1i q01)) 0 (muN (z0c q01) 1)) (z0m q01) (pF (z2w (z0m q01) (z0d (z0c q01) 1 0 (z1i q01)) 0 (z2u q01)) 0 (muN (z0m q01) 1)) (z17 q01) (pF (z2t (z17 q01) (z1h (z0m q01) (z0d (z0c q01) 1 0 (z1i q01)) 0 (z2u q01)) 0 (z3p q01)) 0 (muN (z17 q01) 1)) 1) (z3y (z17 q01) (z1h (z0m q01) (z0d (z0c q01) 1 0 (z1i q01)) 0 (z2u q01)) 0 (z3p q01))) (k_ Bool.false) (grd (z7a q01) (grd (z8x (z0c q01) (pF (z1i q01) 0 (muN (z0c q01) 1)) (z0m q01) (pF (z2u q01) 0 (muN (z0m q01) 1)) (z17 q01) (pF (z3p q01) 0 (muN (z17 q01) 1)) (z4g q01) (pF (z5s q01) 0 (muN (z4g q01) 1)) (z4e q01) (pF (z5t q01) 0 (muN (z4e q01) 1)) (z4d q01) (pF (z5u q01) 0 (muN (z4d q01) 1))) (br (bnot (z8f (z0c q01) (pF (z1i q01) 0 (muN (z0c q01) 1)) (z0m q01) (pF (z2u q01) 0 (muN (z0m q01) 1)) (z17 q01) (pF (z3p q01) 0 (muN (z17 q01) 1)) (z4g q01) (pF (z5s q01) 0 (muN (z4g q01) 1)) (z4e q01) (pF (z5t q01) 0 (muN (z4e q01) 1)) (z4d q01) (pF (z5u q01) 0 (muN (z4d q01) 1)))) (k_ Bool.false) (br (bnot (beqB (z6y q01) (z6v q01))) (k_ Bool.false) (grd (z7w (z0c q01) (pF (z32 (z0c q01) 1 0 (z1i q01)) 0 (muN (z0c q01) 1)) (z0m q01) (pF (z2w (z0m q01) (z0d (z0c q01) 1 0 (z1i q01)) 0 (z2u q01)) 0 (muN (z0m q01) 1)) (z17 q01) (pF (z2t (z17 q01) (z1h (z0m q01) (z0d (z0c q01) 1 0 (z1i q01)) 0 (z2u q01)) 0 (z3p q01)) 0 (muN (z17 q01) 1)) 1) (br (ltI (z60 (z0c q01) (pF (z32 (z0c q01) 1 0 (z1i q01)) 0 (muN (z0c q01) 1)) (z0m q01) (pF (z2w (z0m q01) (z0d (z0c q01) 1 0 (z1i q01)) 0 (z2u q01)) 0 (muN (z0m q01) 1)) (z17 q01) (pF (z2t (z17 q01) (z1h (z0m q01) (z0d (z0c q01) 1 0 (z1i q01)) 0 (z2u q01)) 0 (z3p q01)) 0 (muN (z17 q01) 1)) 1) 0) (k_ Bool.false) (br (neI (z60 (z0c q01) (pF (z32 (z0c q01) 1 0 (z1i q01)) 0 (muN (z0c q01) 1)) (z0m q01) (pF (z2w (z0m q01) (z0d (z0c q01) 1 0 (z1i q01)) 0 (z2u q01)) 0 (muN (z0m q01) 1)) (z17 q01) (pF (z2t (z17 q01) (z1h (z0m q01) (z0d (z0c q01) 1 0 (z1i q01)) 0 (z2u q01)) 0 (z3p q01)) 0 (muN (z17 q01) 1)) 1) (z3y (z17 q01) (z1h (z0m q01) (z0d (z0c q01) 1 0 (z1i q01)) 0 (z2u q01)) 0 (z3p q01))) (k_ Bool.false) (k_ Bool.true)))))))))))))))))))
noncomputable def z5f (q01 : Int) : Option (Bool) := z5e q01 (fun c0_ => some c0_)
theorem zc7 {R R' : Type} (o : Option R → Option R') (h0 : o none = none) (q01 : Int) (k_ : Bool → Option R) : z5e q01 (fun c0_ => o (k_ c0_)) = o (z5e q01 k_) := by
  unfold z5e
  repeat (first | refine grd_out h0 ?_ | refine br_out ?_ ?_ | rfl | exact h0.symm)
noncomputable def z8c (q01 : Int) : Bool := (z5f q01).isSome
noncomputable def z7v (q01 : Int) : Bool := ((z5f q01).getD default)
theorem zck {q01 : Int} {r : Bool} (h : z5f q01 = some r) : z8c q01 = true ∧ z7v q01 = r := by
  unfold z8c z7v
  rw [h]
  exact ⟨rfl, rfl⟩
end Go.Rf
