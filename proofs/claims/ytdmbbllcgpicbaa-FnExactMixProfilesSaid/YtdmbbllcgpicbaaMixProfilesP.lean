import Derived.Test.YtdmbbllcgpicbaaB
set_option linter.unusedVariables false
set_option linter.unusedSimpArgs false
set_option maxRecDepth 100000
set_option maxHeartbeats 4000000
namespace Go.Rf
open Go
noncomputable def zal {R : Type} (a : Nat) (b : Nat) (k_ : Bool → Option R) : Option R := (br (fcmp BinOp.neq FloatKind.f64 a a) (br (fcmp BinOp.neq FloatKind.f64 a a) (k_ (fcmp BinOp.neq FloatKind.f64 b b)) (k_ Bool.false)) (br (fcmp BinOp.neq FloatKind.f64 b b) (br (fcmp BinOp.neq FloatKind.f64 a a) (k_ (fcmp BinOp.neq FloatKind.f64 b b)) (k_ Bool.false)) (br (fcmp BinOp.eql FloatKind.f64 a 0) (br (fcmp BinOp.eql FloatKind.f64 b 0) (k_ (beqB (fcmp BinOp.gtr FloatKind.f64 (fop BinOp.quo FloatKind.f64 4607182418800017408 a) 0) (fcmp BinOp.gtr FloatKind.f64 (fop BinOp.quo FloatKind.f64 4607182418800017408 b) 0))) (k_ (fcmp BinOp.eql FloatKind.f64 a b))) (k_ (fcmp BinOp.eql FloatKind.f64 a b)))))
noncomputable def zap (a : Nat) (b : Nat) : Option (Bool) := zal a b (fun c0_ => some c0_)
theorem zit {R R' : Type} (o : Option R → Option R') (h0 : o none = none) (a : Nat) (b : Nat) (k_ : Bool → Option R) : zal a b (fun c0_ => o (k_ c0_)) = o (zal a b k_) := by
  unfold zal
  repeat (first | refine grd_out h0 ?_ | refine br_out ?_ ?_ | rfl | exact h0.symm)
noncomputable def zfe (a : Nat) (b : Nat) : Bool := (zap a b).isSome
noncomputable def zer (a : Nat) (b : Nat) : Bool := ((zap a b).getD default)
theorem zjp {a : Nat} {b : Nat} {r : Bool} (h : zap a b = some r) : zfe a b = true ∧ zer a b = r := by
  unfold zfe zer
  rw [h]
  exact ⟨rfl, rfl⟩
noncomputable def zbw {R : Type} (x : Nat) (k_ : Bool → Option R) : Option R := (k_ (fcmp BinOp.eql FloatKind.f32 (fop BinOp.sub FloatKind.f32 x x) 0))
noncomputable def zc8 (x : Nat) : Option (Bool) := zbw x (fun c0_ => some c0_)
theorem ziz {R R' : Type} (o : Option R → Option R') (h0 : o none = none) (x : Nat) (k_ : Bool → Option R) : zbw x (fun c0_ => o (k_ c0_)) = o (zbw x k_) := by
  unfold zbw
  repeat (first | refine grd_out h0 ?_ | refine br_out ?_ ?_ | rfl | exact h0.symm)
noncomputable def z85 (x : Nat) : Bool := (zc8 x).isSome
noncomputable def z7i (x : Nat) : Bool := ((zc8 x).getD default)
theorem zg7 {x : Nat} {r : Bool} (h : zc8 x = some r) : z85 x = true ∧ z7i x = r := by
  unfold z85 z7i
  rw [h]
  exact ⟨rfl, rfl⟩
noncomputable def zax {R : Type} (x : Nat) (low : Nat) (q1t : Nat) (k_ : Bool → Option R) : Option R := (br (fcmp BinOp.geq FloatKind.f32 x low) (k_ (fcmp BinOp.leq FloatKind.f32 x q1t)) (k_ Bool.false))
noncomputable def zb3 (x : Nat) (low : Nat) (q1t : Nat) : Option (Bool) := zax x low q1t (fun c0_ => some c0_)
theorem zjb {R R' : Type} (o : Option R → Option R') (h0 : o none = none) (x : Nat) (low : Nat) (q1t : Nat) (k_ : Bool → Option R) : zax x low q1t (fun c0_ => o (k_ c0_)) = o (zax x low q1t k_) := by
  unfold zax
  repeat (first | refine grd_out h0 ?_ | refine br_out ?_ ?_ | rfl | exact h0.symm)
noncomputable def zfu (x : Nat) (low : Nat) (q1t : Nat) : Bool := (zb3 x low q1t).isSome
noncomputable def zfh (x : Nat) (low : Nat) (q1t : Nat) : Bool := ((zb3 x low q1t).getD default)
theorem zk3 {x : Nat} {low : Nat} {q1t : Nat} {r : Bool} (h : zb3 x low q1t = some r) : zfu x low q1t = true ∧ zfh x low q1t = r := by
  unfold zfu zfh
  rw [h]
  exact ⟨rfl, rfl⟩
noncomputable def za9 {R : Type} (a_n : Nat) (a : List Nat) (q1j : Int) (k_ : Int → Option R) : Option R := (br (ltI (subI IntKind.i64 q1j (Int.ofNat a_n)) 0) (k_ (Int.negSucc 0)) (k_ (subI IntKind.i64 q1j (Int.ofNat a_n))))
noncomputable def za7 (a_n : Nat) (a : List Nat) (q1j : Int) : Option (Int) := za9 a_n a q1j (fun c0_ => some c0_)
theorem zib {R R' : Type} (o : Option R → Option R') (h0 : o none = none) (a_n : Nat) (a : List Nat) (q1j : Int) (k_ : Int → Option R) : za9 a_n a q1j (fun c0_ => o (k_ c0_)) = o (za9 a_n a q1j k_) := by
  unfold za9
  repeat (first | refine grd_out h0 ?_ | refine br_out ?_ ?_ | rfl | exact h0.symm)
noncomputable def za8 (a_n : Nat) (a : List Nat) (q1j : Int) : Bool := (za7 a_n a q1j).isSome
noncomputable def z4f (a_n : Nat) (a : List Nat) (q1j : Int) : Int := ((za7 a_n a q1j).getD default)
theorem zfz {a_n : Nat} {a : List Nat} {q1j : Int} {r : Int} (h : za7 a_n a q1j = some r) : za8 a_n a q1j = true ∧ z4f a_n a q1j = r := by
  unfold za8 z4f
  rw [h]
  exact ⟨rfl, rfl⟩
noncomputable def zdg {R : Type} (x : Nat) (k_ : Bool → Option R) : Option R := (k_ (fcmp BinOp.eql FloatKind.f32 (fop BinOp.sub FloatKind.f32 x x) 0))
noncomputable def zdp (x : Nat) : Option (Bool) := zdg x (fun c0_ => some c0_)
theorem zj5 {R R' : Type} (o : Option R → Option R') (h0 : o none = none) (x : Nat) (k_ : Bool → Option R) : zdg x (fun c0_ => o (k_ c0_)) = o (zdg x k_) := by
  unfold zdg
  repeat (first | refine grd_out h0 ?_ | refine br_out ?_ ?_ | rfl | exact h0.symm)
noncomputable def zb2 (x : Nat) : Bool := (zdp x).isSome
noncomputable def zan (x : Nat) : Bool := ((zdp x).getD default)
theorem zga {x : Nat} {r : Bool} (h : zdp x = some r) : zb2 x = true ∧ zan x = r := by
  unfold zb2 zan
  rw [h]
  exact ⟨rfl, rfl⟩
noncomputable def zfq {R : Type}  (k_ : (List Nat) → (List Nat) → (List Nat) → Option R) : Option R := (k_ [] [] [])
noncomputable def zb5  : Option ((List Nat) × (List Nat) × (List Nat)) := zfq (fun c0_ c1_ c2_ => some (c0_, c1_, c2_))
theorem zjn {R R' : Type} (o : Option R → Option R') (h0 : o none = none)  (k_ : (List Nat) → (List Nat) → (List Nat) → Option R) : zfq (fun c0_ c1_ c2_ => o (k_ c0_ c1_ c2_)) = o (zfq k_) := by
  unfold zfq
  repeat (first | refine grd_out h0 ?_ | refine br_out ?_ ?_ | rfl | exact h0.symm)
noncomputable def zg9  : Bool := (zb5).isSome
noncomputable def z3i  : List Nat := ((zb5).getD default).1
noncomputable def z3j  : List Nat := ((zb5).getD default).2.1
noncomputable def z3h  : List Nat := ((zb5).getD default).2.2
theorem zkh  {r : (List Nat) × (List Nat) × (List Nat)} (h : zb5 = some r) : zg9 = true ∧ z3i = r.1 ∧ z3j = r.2.1 ∧ z3h = r.2.2 := by
  unfold zg9 z3i z3j z3h
  rw [h]
  exact ⟨rfl, rfl, rfl, rfl⟩
noncomputable def zg4 {R : Type} (a : Nat) (b : Nat) (q1q : Nat) (k_ : Nat → Option R) : Option R := (k_ (fop BinOp.add FloatKind.f32 a (fop BinOp.mul FloatKind.f32 q1q (fop BinOp.sub FloatKind.f32 b a))))
noncomputable def zf4 (a : Nat) (b : Nat) (q1q : Nat) : Option (Nat) := zg4 a b q1q (fun c0_ => some c0_)
theorem zk2 {R R' : Type} (o : Option R → Option R') (h0 : o none = none) (a : Nat) (b : Nat) (q1q : Nat) (k_ : Nat → Option R) : zg4 a b q1q (fun c0_ => o (k_ c0_)) = o (zg4 a b q1q k_) := by
  unfold zg4
  repeat (first | refine grd_out h0 ?_ | refine br_out ?_ ?_ | rfl | exact h0.symm)
noncomputable def zg3 (a : Nat) (b : Nat) (q1q : Nat) : Bool := (zf4 a b q1q).isSome
noncomputable def zfl (a : Nat) (b : Nat) (q1q : Nat) : Nat := ((zf4 a b q1q).getD default)
theorem zj0 {a : Nat} {b : Nat} {q1q : Nat} {r : Nat} (h : zf4 a b q1q = some r) : zg3 a b q1q = true ∧ zfl a b q1q = r := by
  unfold zg3 zfl
  rw [h]
  exact ⟨rfl, rfl⟩
noncomputable def z83 {R : Type} (s_n : Nat) (s : List Nat) (k_ : Nat → (List Nat) → Option R) : Option R := (unk (okZ s_n) (k_ 0 []) (grd (okA2 0 s_n 4 (nF (pF s 0 (muN s_n 1))) (nF []) 1) (k_ (adN 0 s_n) (aF [] (pF s 0 (muN s_n 1))))))
noncomputable def z75 (s_n : Nat) (s : List Nat) : Option (Nat × (List Nat)) := z83 s_n s (fun c0_ c1_ => some (c0_, c1_))
theorem zgp {R R' : Type} (o : Option R → Option R') (h0 : o none = none) (hi : ∀ a b, o a = o b → a = b) (s_n : Nat) (s : List Nat) (k_ : Nat → (List Nat) → Option R) : z83 s_n s (fun c0_ c1_ => o (k_ c0_ c1_)) = o (z83 s_n s k_) := by
  unfold z83
  repeat (first | refine unk_out h0 hi ?_ ?_ | refine grd_out h0 ?_ | refine br_out ?_ ?_ | rfl | exact h0.symm)
noncomputable def z84 (s_n : Nat) (s : List Nat) : Bool := (z75 s_n s).isSome
noncomputable def z7m (s_n : Nat) (s : List Nat) : Nat := ((z75 s_n s).getD default).1
noncomputable def z7o (s_n : Nat) (s : List Nat) : List Nat := ((z75 s_n s).getD default).2
theorem zc0 {s_n : Nat} {s : List Nat} {r : Nat × (List Nat)} (h : z75 s_n s = some r) : z84 s_n s = true ∧ z7m s_n s = r.1 ∧ z7o s_n s = r.2 := by
  unfold z84 z7m z7o
  rw [h]
  exact ⟨rfl, rfl, rfl⟩
noncomputable def zak {R : Type} (q0c : Nat) (q0l : List Nat) (q0j : Nat) (q0s : List Nat) (q0k : Nat) (q0t : List Nat) (q1j : Int) (k_ : Int → Option R) : Option R := (grd (za8 q0c (pF q0l 0 (muN q0c 1)) q1j) (br (ltI (z4f q0c (pF q0l 0 (muN q0c 1)) q1j) 0) (k_ (Int.negSucc 0)) (grd (za8 q0j (pF q0s 0 (muN q0j 1)) (z4f q0c (pF q0l 0 (muN q0c 1)) q1j)) (br (ltI (z4f q0j (pF q0s 0 (muN q0j 1)) (z4f q0c (pF q0l 0 (muN q0c 1)) q1j)) 0) (k_ (Int.negSucc 0)) (grd (za8 q0k (pF q0t 0 (muN q0k 1)) (z4f q0j (pF q0s 0 (muN q0j 1)) (z4f q0c (pF q0l 0 (muN q0c 1)) q1j))) (br (ltI (z4f q0k (pF q0t 0 (muN q0k 1)) (z4f q0j (pF q0s 0 (muN q0j 1)) (z4f q0c (pF q0l 0 (muN q0c 1)) q1j))) 0) (k_ (Int.negSucc 0)) (k_ (z4f q0k (pF q0t 0 (muN q0k 1)) (z4f q0j (pF q0s 0 (muN q0j 1)) (z4f q0c (pF q0l 0 (muN q0c 1)) q1j))))))))))
noncomputable def zas (q0c : Nat) (q0l : List Nat) (q0j : Nat) (q0s : List Nat) (q0k : Nat) (q0t : List Nat) (q1j : Int) : Option (Int) := zak q0c q0l q0j q0s q0k q0t q1j (fun c0_ => some c0_)
theorem zio {R R' : Type} (o : Option R → Option R') (h0 : o none = none) (q0c : Nat) (q0l : List Nat) (q0j : Nat) (q0s : List Nat) (q0k : Nat) (q0t : List Nat) (q1j : Int) (k_ : Int → Option R) : zak q0c q0l q0j q0s q0k q0t q1j (fun c0_ => o (k_ c0_)) = o (zak q0c q0l q0j q0s q0k q0t q1j k_) := by
  unfold zak
  repeat (first | refine grd_out h0 ?_ | refine br_out ?_ ?_ | rfl | exact h0.symm)
noncomputable def zby (q0c : Nat) (q0l : List Nat) (q0j : Nat) (q0s : List Nat) (q0k : Nat) (q0t : List Nat) (q1j : Int) : Bool := (zas q0c q0l q0j q0s q0k q0t q1j).isSome
noncomputable def zbc (q0c : Nat) (q0l : List Nat) (q0j : Nat) (q0s : List Nat) (q0k : Nat) (q0t : List Nat) (q1j : Int) : Int := ((zas q0c q0l q0j q0s q0k q0t q1j).getD default)
theorem zgx {q0c : Nat} {q0l : List Nat} {q0j : Nat} {q0s : List Nat} {q0k : Nat} {q0t : List Nat} {q1j : Int} {r : Int} (h : zas q0c q0l q0j q0s q0k q0t q1j = some r) : zby q0c q0l q0j q0s q0k q0t q1j = true ∧ zbc q0c q0l q0j q0s q0k q0t q1j = r := by
  unfold zby zbc
  rw [h]
  exact ⟨rfl, rfl⟩
noncomputable def zb4 {R : Type} (x : Nat) (k_ : Bool → Option R) : Option R := (grd (z85 x) (br (z7i x) (k_ (fcmp BinOp.geq FloatKind.f32 x 0)) (k_ Bool.false)))
noncomputable def zav (x : Nat) : Option (Bool) := zb4 x (fun c0_ => some c0_)
theorem zjc {R R' : Type} (o : Option R → Option R') (h0 : o none = none) (x : Nat) (k_ : Bool → Option R) : zb4 x (fun c0_ => o (k_ c0_)) = o (zb4 x k_) := by
  unfold zb4
  repeat (first | refine grd_out h0 ?_ | refine br_out ?_ ?_ | rfl | exact h0.symm)
noncomputable def z9y (x : Nat) : Bool := (zav x).isSome
noncomputable def z9i (x : Nat) : Bool := ((zav x).getD default)
theorem zjx {x : Nat} {r : Bool} (h : zav x = some r) : z9y x = true ∧ z9i x = r := by
  unfold z9y z9i
  rw [h]
  exact ⟨rfl, rfl⟩
noncomputable def zbr {R : Type} (x : Nat) (k_ : Bool → Option R) : Option R := (grd (zb2 x) (br (zan x) (k_ (fcmp BinOp.geq FloatKind.f32 x 0)) (k_ Bool.false)))
noncomputable def zbo (x : Nat) : Option (Bool) := zbr x (fun c0_ => some c0_)
theorem zje {R R' : Type} (o : Option R → Option R') (h0 : o none = none) (x : Nat) (k_ : Bool → Option R) : zbr x (fun c0_ => o (k_ c0_)) = o (zbr x k_) := by
  unfold zbr
  repeat (first | refine grd_out h0 ?_ | refine br_out ?_ ?_ | rfl | exact h0.symm)
noncomputable def zg5 (x : Nat) : Bool := (zbo x).isSome
noncomputable def zfw (x : Nat) : Bool := ((zbo x).getD default)
theorem zke {x : Nat} {r : Bool} (h : zbo x = some r) : zg5 x = true ∧ zfw x = r := by
  unfold zg5 zfw
  rw [h]
  exact ⟨rfl, rfl⟩
noncomputable def z9j {R : Type} (q13 : Nat) (q19 : List Nat) (q16 : Nat) (q1e : List Nat) (q15 : Nat) (q1f : List Nat) (k_ : Nat → Nat → Nat → (List Nat) → (List Nat) → (List Nat) → Option R) : Option R := (grd (z84 q13 (pF q19 0 (muN q13 1))) (grd (z84 q16 (pF q1e 0 (muN q16 1))) (grd (z84 q15 (pF q1f 0 (muN q15 1))) (k_ (z7m q13 (pF q19 0 (muN q13 1))) (z7m q16 (pF q1e 0 (muN q16 1))) (z7m q15 (pF q1f 0 (muN q15 1))) (z7o q13 (pF q19 0 (muN q13 1))) (z7o q16 (pF q1e 0 (muN q16 1))) (z7o q15 (pF q1f 0 (muN q15 1)))))))
noncomputable def z5x (q13 : Nat) (q19 : List Nat) (q16 : Nat) (q1e : List Nat) (q15 : Nat) (q1f : List Nat) : Option (Nat × Nat × Nat × (List Nat) × (List Nat) × (List Nat)) := z9j q13 q19 q16 q1e q15 q1f (fun c0_ c1_ c2_ c3_ c4_ c5_ => some (c0_, c1_, c2_, c3_, c4_, c5_))
theorem zia {R R' : Type} (o : Option R → Option R') (h0 : o none = none) (q13 : Nat) (q19 : List Nat) (q16 : Nat) (q1e : List Nat) (q15 : Nat) (q1f : List Nat) (k_ : Nat → Nat → Nat → (List Nat) → (List Nat) → (List Nat) → Option R) : z9j q13 q19 q16 q1e q15 q1f (fun c0_ c1_ c2_ c3_ c4_ c5_ => o (k_ c0_ c1_ c2_ c3_ c4_ c5_)) = o (z9j q13 q19 q16 q1e q15 q1f k_) := by
  unfold z9j
  repeat (first | refine grd_out h0 ?_ | refine br_out ?_ ?_ | rfl | exact h0.symm)
noncomputable def zda (q13 : Nat) (q19 : List Nat) (q16 : Nat) (q1e : List Nat) (q15 : Nat) (q1f : List Nat) : Bool := (z5x q13 q19 q16 q1e q15 q1f).isSome
noncomputable def z44 (q13 : Nat) (q19 : List Nat) (q16 : Nat) (q1e : List Nat) (q15 : Nat) (q1f : List Nat) : Nat := ((z5x q13 q19 q16 q1e q15 q1f).getD default).1
noncomputable def z46 (q13 : Nat) (q19 : List Nat) (q16 : Nat) (q1e : List Nat) (q15 : Nat) (q1f : List Nat) : Nat := ((z5x q13 q19 q16 q1e q15 q1f).getD default).2.1
noncomputable def z45 (q13 : Nat) (q19 : List Nat) (q16 : Nat) (q1e : List Nat) (q15 : Nat) (q1f : List Nat) : Nat := ((z5x q13 q19 q16 q1e q15 q1f).getD default).2.2.1
noncomputable def z9c (q13 : Nat) (q19 : List Nat) (q16 : Nat) (q1e : List Nat) (q15 : Nat) (q1f : List Nat) : List Nat := ((z5x q13 q19 q16 q1e q15 q1f).getD default).2.2.2.1
noncomputable def z67 (q13 : Nat) (q19 : List Nat) (q16 : Nat) (q1e : List Nat) (q15 : Nat) (q1f : List Nat) : List Nat := ((z5x q13 q19 q16 q1e q15 q1f).getD default).2.2.2.2.1
noncomputable def z66 (q13 : Nat) (q19 : List Nat) (q16 : Nat) (q1e : List Nat) (q15 : Nat) (q1f : List Nat) : List Nat := ((z5x q13 q19 q16 q1e q15 q1f).getD default).2.2.2.2.2
theorem zjd {q13 : Nat} {q19 : List Nat} {q16 : Nat} {q1e : List Nat} {q15 : Nat} {q1f : List Nat} {r : Nat × Nat × Nat × (List Nat) × (List Nat) × (List Nat)} (h : z5x q13 q19 q16 q1e q15 q1f = some r) : zda q13 q19 q16 q1e q15 q1f = true ∧ z44 q13 q19 q16 q1e q15 q1f = r.1 ∧ z46 q13 q19 q16 q1e q15 q1f = r.2.1 ∧ z45 q13 q19 q16 q1e q15 q1f = r.2.2.1 ∧ z9c q13 q19 q16 q1e q15 q1f = r.2.2.2.1 ∧ z67 q13 q19 q16 q1e q15 q1f = r.2.2.2.2.1 ∧ z66 q13 q19 q16 q1e q15 q1f = r.2.2.2.2.2 := by
  unfold zda z44 z46 z45 z9c z67 z66
  rw [h]
  exact ⟨rfl, rfl, rfl, rfl, rfl, rfl, rfl⟩
noncomputable def z9t {R : Type} (x : Nat) (k_ : Bool → Option R) : Option R := (grd (zb2 x) (k_ (bnot (zan x))))
noncomputable def z9k (x : Nat) : Option (Bool) := z9t x (fun c0_ => some c0_)
theorem zi3 {R R' : Type} (o : Option R → Option R') (h0 : o none = none) (x : Nat) (k_ : Bool → Option R) : z9t x (fun c0_ => o (k_ c0_)) = o (z9t x k_) := by
  unfold z9t
  repeat (first | refine grd_out h0 ?_ | refine br_out ?_ ?_ | rfl | exact h0.symm)
noncomputable def zdj (x : Nat) : Bool := (z9k x).isSome
noncomputable def zcm (x : Nat) : Bool := ((z9k x).getD default)
theorem zj9 {x : Nat} {r : Bool} (h : z9k x = some r) : zdj x = true ∧ zcm x = r := by
  unfold zdj zcm
  rw [h]
  exact ⟨rfl, rfl⟩
noncomputable def z5r {R : Type} (an : Nat) (b0 : List Nat) (k : Int) (i : Int) (kn_ : Int → Int → Option R) (k0_ : Unit → Option R) (k1_ : Int → Int → Bool → Option R) : Option R := (br (ltI i (Int.ofNat an)) (grd (okIx i an) (br (fcmp BinOp.neq FloatKind.f32 (gF b0 (ixO 0 i 1)) (fOI FloatKind.f32 k)) (k0_ ()) (kn_ (addI IntKind.i64 k 1) (addI IntKind.i64 i 1)))) (k1_ k i (ltI i (Int.ofNat an))))
theorem zgs {R R' : Type} (o : Option R → Option R') (h0 : o none = none) (an : Nat) (b0 : List Nat) (k : Int) (i : Int) (kn_ : Int → Int → Option R) (k0_ : Unit → Option R) (k1_ : Int → Int → Bool → Option R) : z5r an b0 k i (fun k' i' => o (kn_ k' i')) (fun _ => o (k0_ ())) (fun c0_ c1_ c2_ => o (k1_ c0_ c1_ c2_)) = o (z5r an b0 k i kn_ k0_ k1_) := by
  unfold z5r
  repeat (first | refine grd_out h0 ?_ | refine br_out ?_ ?_ | rfl | exact h0.symm)
noncomputable def z3p (an : Nat) (b0 : List Nat) : Nat → Int → Int → Option ((Unit) ⊕ (Int × Int × Bool))
  | 0, _, _ => none
  | n + 1, k, i => z5r an b0  k i  (fun k' i' => z3p an b0 n k' i') (fun _ => some (Sum.inl ())) (fun c0_ c1_ c2_ => some (Sum.inr (c0_, c1_, c2_)))
theorem zfc (an : Nat) (b0 : List Nat) (n : Nat) (k : Int) (i : Int) : z3p an b0 (n + 1) k i = z5r an b0  k i  (fun k' i' => z3p an b0 n k' i') (fun _ => some (Sum.inl ())) (fun c0_ c1_ c2_ => some (Sum.inr (c0_, c1_, c2_))) := rfl
noncomputable def zau (an : Nat) (b0 : List Nat) (k : Int) (i : Int) : Bool := (z3p an b0 big k i).isSome
noncomputable def zah (an : Nat) (b0 : List Nat) (k : Int) (i : Int) : Bool := oL (z3p an b0 big k i)
noncomputable def z9w (an : Nat) (b0 : List Nat) (k : Int) (i : Int) : Int := ((tR (z3p an b0 big k i)).getD default).1
noncomputable def zbh (an : Nat) (b0 : List Nat) (k : Int) (i : Int) : Int := ((tR (z3p an b0 big k i)).getD default).2.1
noncomputable def zbf (an : Nat) (b0 : List Nat) (k : Int) (i : Int) : Bool := ((tR (z3p an b0 big k i)).getD default).2.2
theorem zhc {an : Nat} {b0 : List Nat} {k : Int} {i : Int} {m : Nat} {r : Int × Int × Bool} (hm : m = big) (h : z3p an b0 m k i = some (Sum.inr r)) : zau an b0 k i = true ∧ zah an b0 k i = false ∧ z9w an b0 k i = r.1 ∧ zbh an b0 k i = r.2.1 ∧ zbf an b0 k i = r.2.2 := by
  subst hm
  unfold zau zah z9w zbh zbf
  rw [h]
  exact ⟨rfl, rfl, rfl, rfl, rfl⟩
noncomputable def z6b {R : Type} (an : Nat) (q1n : Nat) (b0 : List Nat) (i : Int) (b1 : List Nat) (kn_ : Int → (List Nat) → Option R) (k0_ : Int → Bool → (List Nat) → Option R) : Option R := (br (ltI i (Int.ofNat an)) (grd (okIx i an) (grd (okIx i q1n) (kn_ (addI IntKind.i64 i 1) (sF b1 (ixO 0 i 1) (gF b0 (ixO 0 i 1)))))) (k0_ i (ltI i (Int.ofNat an)) b1))
theorem zh9 {R R' : Type} (o : Option R → Option R') (h0 : o none = none) (an : Nat) (q1n : Nat) (b0 : List Nat) (i : Int) (b1 : List Nat) (kn_ : Int → (List Nat) → Option R) (k0_ : Int → Bool → (List Nat) → Option R) : z6b an q1n b0 i b1 (fun i' b1' => o (kn_ i' b1')) (fun c0_ c1_ c2_ => o (k0_ c0_ c1_ c2_)) = o (z6b an q1n b0 i b1 kn_ k0_) := by
  unfold z6b
  repeat (first | refine grd_out h0 ?_ | refine br_out ?_ ?_ | rfl | exact h0.symm)
noncomputable def z4o (an : Nat) (q1n : Nat) (b0 : List Nat) : Nat → Int → (List Nat) → Option ((Int × Bool × (List Nat)))
  | 0, _, _ => none
  | n + 1, i, b1 => z6b an q1n b0  i b1  (fun i' b1' => z4o an q1n b0 n i' b1') (fun c0_ c1_ c2_ => some (c0_, c1_, c2_))
theorem zfx (an : Nat) (q1n : Nat) (b0 : List Nat) (n : Nat) (i : Int) (b1 : List Nat) : z4o an q1n b0 (n + 1) i b1 = z6b an q1n b0  i b1  (fun i' b1' => z4o an q1n b0 n i' b1') (fun c0_ c1_ c2_ => some (c0_, c1_, c2_)) := rfl
noncomputable def z9z (an : Nat) (q1n : Nat) (b0 : List Nat) (i : Int) (b1 : List Nat) : Bool := (z4o an q1n b0 big i b1).isSome
noncomputable def zd0 (an : Nat) (q1n : Nat) (b0 : List Nat) (i : Int) (b1 : List Nat) : Int := ((z4o an q1n b0 big i b1).getD default).1
noncomputable def zd8 (an : Nat) (q1n : Nat) (b0 : List Nat) (i : Int) (b1 : List Nat) : Bool := ((z4o an q1n b0 big i b1).getD default).2.1
noncomputable def z8j (an : Nat) (q1n : Nat) (b0 : List Nat) (i : Int) (b1 : List Nat) : List Nat := ((z4o an q1n b0 big i b1).getD default).2.2
theorem zi6 {an : Nat} {q1n : Nat} {b0 : List Nat} {i : Int} {b1 : List Nat} {m : Nat} {r : Int × Bool × (List Nat)} (hm : m = big) (h : z4o an q1n b0 m i b1 = some r) : z9z an q1n b0 i b1 = true ∧ zd0 an q1n b0 i b1 = r.1 ∧ zd8 an q1n b0 i b1 = r.2.1 ∧ z8j an q1n b0 i b1 = r.2.2 := by
  subst hm
  unfold z9z zd0 zd8 z8j
  rw [h]
  exact ⟨rfl, rfl, rfl, rfl⟩
noncomputable def z4p {R : Type} (s1n : Nat) (s2n : Nat) (t12 : Int) (b0 : List Nat) (b1 : List Nat) (t13 : Int) (kn_ : Int → Option R) (k0_ : Unit → Option R) (k1_ : Int → Bool → Option R) : Option R := (br (ltI t13 t12) (grd (okIx t13 s1n) (grd (okIx t13 s2n) (br (fcmp BinOp.neq FloatKind.f32 (gF b0 (ixO 0 t13 1)) (gF b1 (ixO 0 t13 1))) (k0_ ()) (kn_ (addI IntKind.i64 t13 1))))) (k1_ t13 (ltI t13 t12)))
theorem zgb {R R' : Type} (o : Option R → Option R') (h0 : o none = none) (s1n : Nat) (s2n : Nat) (t12 : Int) (b0 : List Nat) (b1 : List Nat) (t13 : Int) (kn_ : Int → Option R) (k0_ : Unit → Option R) (k1_ : Int → Bool → Option R) : z4p s1n s2n t12 b0 b1 t13 (fun t13' => o (kn_ t13')) (fun _ => o (k0_ ())) (fun c0_ c1_ => o (k1_ c0_ c1_)) = o (z4p s1n s2n t12 b0 b1 t13 kn_ k0_ k1_) := by
  unfold z4p
  repeat (first | refine grd_out h0 ?_ | refine br_out ?_ ?_ | rfl | exact h0.symm)
noncomputable def z3q (s1n : Nat) (s2n : Nat) (t12 : Int) (b0 : List Nat) (b1 : List Nat) : Nat → Int → Option ((Unit) ⊕ (Int × Bool))
  | 0, _ => none
  | n + 1, t13 => z4p s1n s2n t12 b0 b1  t13  (fun t13' => z3q s1n s2n t12 b0 b1 n t13') (fun _ => some (Sum.inl ())) (fun c0_ c1_ => some (Sum.inr (c0_, c1_)))
theorem zct (s1n : Nat) (s2n : Nat) (t12 : Int) (b0 : List Nat) (b1 : List Nat) (n : Nat) (t13 : Int) : z3q s1n s2n t12 b0 b1 (n + 1) t13 = z4p s1n s2n t12 b0 b1  t13  (fun t13' => z3q s1n s2n t12 b0 b1 n t13') (fun _ => some (Sum.inl ())) (fun c0_ c1_ => some (Sum.inr (c0_, c1_))) := rfl
noncomputable def z56 (s1n : Nat) (s2n : Nat) (t12 : Int) (b0 : List Nat) (b1 : List Nat) (t13 : Int) : Bool := (z3q s1n s2n t12 b0 b1 big t13).isSome
noncomputable def z4s (s1n : Nat) (s2n : Nat) (t12 : Int) (b0 : List Nat) (b1 : List Nat) (t13 : Int) : Bool := oL (z3q s1n s2n t12 b0 b1 big t13)
noncomputable def zaf (s1n : Nat) (s2n : Nat) (t12 : Int) (b0 : List Nat) (b1 : List Nat) (t13 : Int) : Int := ((tR (z3q s1n s2n t12 b0 b1 big t13)).getD default).1
noncomputable def zae (s1n : Nat) (s2n : Nat) (t12 : Int) (b0 : List Nat) (b1 : List Nat) (t13 : Int) : Bool := ((tR (z3q s1n s2n t12 b0 b1 big t13)).getD default).2
theorem zgh {s1n : Nat} {s2n : Nat} {t12 : Int} {b0 : List Nat} {b1 : List Nat} {t13 : Int} {m : Nat} {r : Unit} (hm : m = big) (h : z3q s1n s2n t12 b0 b1 m t13 = some (Sum.inl r)) : z56 s1n s2n t12 b0 b1 t13 = true ∧ z4s s1n s2n t12 b0 b1 t13 = true := by
  subst hm
  unfold z56 z4s
  rw [h]
  exact ⟨rfl, rfl⟩
theorem zgg {s1n : Nat} {s2n : Nat} {t12 : Int} {b0 : List Nat} {b1 : List Nat} {t13 : Int} {m : Nat} {r : Int × Bool} (hm : m = big) (h : z3q s1n s2n t12 b0 b1 m t13 = some (Sum.inr r)) : z56 s1n s2n t12 b0 b1 t13 = true ∧ z4s s1n s2n t12 b0 b1 t13 = false ∧ zaf s1n s2n t12 b0 b1 t13 = r.1 ∧ zae s1n s2n t12 b0 b1 t13 = r.2 := by
  subst hm
  unfold z56 z4s zaf zae
  rw [h]
  exact ⟨rfl, rfl, rfl, rfl⟩
noncomputable def z9b {R : Type} (a_n : Nat) (a : List Nat) (k : Int) (k_ : Int → Option R) : Option R := (grd (zau a_n a k 0) (br (zah a_n a k 0) (k_ (Int.negSucc 0)) (k_ (z9w a_n a k 0))))
noncomputable def z99 (a_n : Nat) (a : List Nat) (k : Int) : Option (Int) := z9b a_n a k (fun c0_ => some c0_)
theorem zhj {R R' : Type} (o : Option R → Option R') (h0 : o none = none) (a_n : Nat) (a : List Nat) (k : Int) (k_ : Int → Option R) : z9b a_n a k (fun c0_ => o (k_ c0_)) = o (z9b a_n a k k_) := by
  unfold z9b
  repeat (first | refine grd_out h0 ?_ | refine br_out ?_ ?_ | rfl | exact h0.symm)
noncomputable def z9f (a_n : Nat) (a : List Nat) (k : Int) : Bool := (z99 a_n a k).isSome
noncomputable def z41 (a_n : Nat) (a : List Nat) (k : Int) : Int := ((z99 a_n a k).getD default)
theorem zfj {a_n : Nat} {a : List Nat} {k : Int} {r : Int} (h : z99 a_n a k = some r) : z9f a_n a k = true ∧ z41 a_n a k = r := by
  unfold z9f z41
  rw [h]
  exact ⟨rfl, rfl⟩
noncomputable def za3 {R : Type} (a_n : Nat) (a : List Nat) (k_ : Nat → (List Nat) → Option R) : Option R := (grd (okMk (Int.ofNat a_n) (Int.ofNat a_n) 4) (grd (z9z a_n (toN (Int.ofNat a_n)) a 0 (rF (muN (toN (Int.ofNat a_n)) 1))) (k_ (toN (Int.ofNat a_n)) (z8j a_n (toN (Int.ofNat a_n)) a 0 (rF (muN (toN (Int.ofNat a_n)) 1))))))
noncomputable def z8l (a_n : Nat) (a : List Nat) : Option (Nat × (List Nat)) := za3 a_n a (fun c0_ c1_ => some (c0_, c1_))
theorem zid {R R' : Type} (o : Option R → Option R') (h0 : o none = none) (a_n : Nat) (a : List Nat) (k_ : Nat → (List Nat) → Option R) : za3 a_n a (fun c0_ c1_ => o (k_ c0_ c1_)) = o (za3 a_n a k_) := by
  unfold za3
  repeat (first | refine grd_out h0 ?_ | refine br_out ?_ ?_ | rfl | exact h0.symm)
noncomputable def za6 (a_n : Nat) (a : List Nat) : Bool := (z8l a_n a).isSome
noncomputable def z9m (a_n : Nat) (a : List Nat) : Nat := ((z8l a_n a).getD default).1
noncomputable def z9u (a_n : Nat) (a : List Nat) : List Nat := ((z8l a_n a).getD default).2
theorem zg1 {a_n : Nat} {a : List Nat} {r : Nat × (List Nat)} (h : z8l a_n a = some r) : za6 a_n a = true ∧ z9m a_n a = r.1 ∧ z9u a_n a = r.2 := by
  unfold za6 z9m z9u
  rw [h]
  exact ⟨rfl, rfl, rfl⟩
noncomputable def z82 {R : Type} (q1r : Nat) (s1 : List Nat) (q1s : Nat) (s2 : List Nat) (k_ : Bool → Option R) : Option R := (br (neI (Int.ofNat q1r) (Int.ofNat q1s)) (k_ Bool.false) (grd (z56 q1r q1s (Int.ofNat q1r) s1 s2 0) (br (z4s q1r q1s (Int.ofNat q1r) s1 s2 0) (k_ Bool.false) (k_ Bool.true))))
noncomputable def z81 (q1r : Nat) (s1 : List Nat) (q1s : Nat) (s2 : List Nat) : Option (Bool) := z82 q1r s1 q1s s2 (fun c0_ => some c0_)
theorem zgj {R R' : Type} (o : Option R → Option R') (h0 : o none = none) (q1r : Nat) (s1 : List Nat) (q1s : Nat) (s2 : List Nat) (k_ : Bool → Option R) : z82 q1r s1 q1s s2 (fun c0_ => o (k_ c0_)) = o (z82 q1r s1 q1s s2 k_) := by
  unfold z82
  repeat (first | refine grd_out h0 ?_ | refine br_out ?_ ?_ | rfl | exact h0.symm)
noncomputable def zag (q1r : Nat) (s1 : List Nat) (q1s : Nat) (s2 : List Nat) : Bool := (z81 q1r s1 q1s s2).isSome
noncomputable def za0 (q1r : Nat) (s1 : List Nat) (q1s : Nat) (s2 : List Nat) : Bool := ((z81 q1r s1 q1s s2).getD default)
theorem zhb {q1r : Nat} {s1 : List Nat} {q1s : Nat} {s2 : List Nat} {r : Bool} (h : z81 q1r s1 q1s s2 = some r) : zag q1r s1 q1s s2 = true ∧ za0 q1r s1 q1s s2 = r := by
  unfold zag za0
  rw [h]
  exact ⟨rfl, rfl⟩
noncomputable def za2 {R : Type} (x : Nat) (k_ : Bool → Option R) : Option R := (grd (zg5 x) (k_ (bnot (zfw x))))
noncomputable def zac (x : Nat) : Option (Bool) := za2 x (fun c0_ => some c0_)
theorem zih {R R' : Type} (o : Option R → Option R') (h0 : o none = none) (x : Nat) (k_ : Bool → Option R) : za2 x (fun c0_ => o (k_ c0_)) = o (za2 x k_) := by
  unfold za2
  repeat (first | refine grd_out h0 ?_ | refine br_out ?_ ?_ | rfl | exact h0.symm)
noncomputable def zes (x : Nat) : Bool := (zac x).isSome
noncomputable def zdi (x : Nat) : Bool := ((zac x).getD default)
theorem zjf {x : Nat} {r : Bool} (h : zac x = some r) : zes x = true ∧ zdi x = r := by
  unfold zes zdi
  rw [h]
  exact ⟨rfl, rfl⟩
noncomputable def z6a {R : Type} (an : Nat) (bn : Nat) (b0 : List Nat) (b1 : List Nat) (i : Int) (kn_ : Int → Option R) (k0_ : Unit → Option R) (k1_ : Int → Bool → Option R) : Option R := (br (ltI i (Int.ofNat an)) (grd (okIx i an) (grd (okIx i bn) (grd (zfe (fcvV FloatKind.f32 FloatKind.f64 (gF b0 (ixO 0 i 1))) (fcvV FloatKind.f32 FloatKind.f64 (gF b1 (ixO 0 i 1)))) (br (bnot (zer (fcvV FloatKind.f32 FloatKind.f64 (gF b0 (ixO 0 i 1))) (fcvV FloatKind.f32 FloatKind.f64 (gF b1 (ixO 0 i 1))))) (k0_ ()) (kn_ (addI IntKind.i64 i 1)))))) (k1_ i (ltI i (Int.ofNat an))))
theorem zha {R R' : Type} (o : Option R → Option R') (h0 : o none = none) (an : Nat) (bn : Nat) (b0 : List Nat) (b1 : List Nat) (i : Int) (kn_ : Int → Option R) (k0_ : Unit → Option R) (k1_ : Int → Bool → Option R) : z6a an bn b0 b1 i (fun i' => o (kn_ i')) (fun _ => o (k0_ ())) (fun c0_ c1_ => o (k1_ c0_ c1_)) = o (z6a an bn b0 b1 i kn_ k0_ k1_) := by
  unfold z6a
  repeat (first | refine grd_out h0 ?_ | refine br_out ?_ ?_ | rfl | exact h0.symm)
noncomputable def z4n (an : Nat) (bn : Nat) (b0 : List Nat) (b1 : List Nat) : Nat → Int → Option ((Unit) ⊕ (Int × Bool))
  | 0, _ => none
  | n + 1, i => z6a an bn b0 b1  i  (fun i' => z4n an bn b0 b1 n i') (fun _ => some (Sum.inl ())) (fun c0_ c1_ => some (Sum.inr (c0_, c1_)))
theorem zfv (an : Nat) (bn : Nat) (b0 : List Nat) (b1 : List Nat) (n : Nat) (i : Int) : z4n an bn b0 b1 (n + 1) i = z6a an bn b0 b1  i  (fun i' => z4n an bn b0 b1 n i') (fun _ => some (Sum.inl ())) (fun c0_ c1_ => some (Sum.inr (c0_, c1_))) := rfl
noncomputable def zbe (an : Nat) (bn : Nat) (b0 : List Nat) (b1 : List Nat) (i : Int) : Bool := (z4n an bn b0 b1 big i).isSome
noncomputable def zb0 (an : Nat) (bn : Nat) (b0 : List Nat) (b1 : List Nat) (i : Int) : Bool := oL (z4n an bn b0 b1 big i)
noncomputable def zcw (an : Nat) (bn : Nat) (b0 : List Nat) (b1 : List Nat) (i : Int) : Int := ((tR (z4n an bn b0 b1 big i)).getD default).1
noncomputable def zcu (an : Nat) (bn : Nat) (b0 : List Nat) (b1 : List Nat) (i : Int) : Bool := ((tR (z4n an bn b0 b1 big i)).getD default).2
theorem zi7 {an : Nat} {bn : Nat} {b0 : List Nat} {b1 : List Nat} {i : Int} {m : Nat} {r : Int × Bool} (hm : m = big) (h : z4n an bn b0 b1 m i = some (Sum.inr r)) : zbe an bn b0 b1 i = true ∧ zb0 an bn b0 b1 i = false ∧ zcw an bn b0 b1 i = r.1 ∧ zcu an bn b0 b1 i = r.2 := by
  subst hm
  unfold zbe zb0 zcw zcu
  rw [h]
  exact ⟨rfl, rfl, rfl, rfl⟩
noncomputable def za4 {R : Type} (a_n : Nat) (a : List Nat) (b_n : Nat) (b : List Nat) (k_ : Bool → Option R) : Option R := (br (neI (Int.ofNat a_n) (Int.ofNat b_n)) (k_ Bool.false) (grd (zbe a_n b_n a b 0) (br (zb0 a_n b_n a b 0) (k_ Bool.false) (k_ Bool.true))))
noncomputable def zab (a_n : Nat) (a : List Nat) (b_n : Nat) (b : List Nat) : Option (Bool) := za4 a_n a b_n b (fun c0_ => some c0_)
theorem zic {R R' : Type} (o : Option R → Option R') (h0 : o none = none) (a_n : Nat) (a : List Nat) (b_n : Nat) (b : List Nat) (k_ : Bool → Option R) : za4 a_n a b_n b (fun c0_ => o (k_ c0_)) = o (za4 a_n a b_n b k_) := by
  unfold za4
  repeat (first | refine grd_out h0 ?_ | refine br_out ?_ ?_ | rfl | exact h0.symm)
noncomputable def za5 (a_n : Nat) (a : List Nat) (b_n : Nat) (b : List Nat) : Bool := (zab a_n a b_n b).isSome
noncomputable def z9r (a_n : Nat) (a : List Nat) (b_n : Nat) (b : List Nat) : Bool := ((zab a_n a b_n b).getD default)
theorem zfy {a_n : Nat} {a : List Nat} {b_n : Nat} {b : List Nat} {r : Bool} (h : zab a_n a b_n b = some r) : za5 a_n a b_n b = true ∧ z9r a_n a b_n b = r := by
  unfold za5 z9r
  rw [h]
  exact ⟨rfl, rfl⟩
noncomputable def zaj {R : Type} (q0c : Nat) (q0l : List Nat) (q0j : Nat) (q0s : List Nat) (q0k : Nat) (q0t : List Nat) (k_ : Nat → Nat → Nat → (List Nat) → (List Nat) → (List Nat) → Option R) : Option R := (grd (za6 q0c (pF q0l 0 (muN q0c 1))) (grd (za6 q0j (pF q0s 0 (muN q0j 1))) (grd (za6 q0k (pF q0t 0 (muN q0k 1))) (k_ (z9m q0c (pF q0l 0 (muN q0c 1))) (z9m q0j (pF q0s 0 (muN q0j 1))) (z9m q0k (pF q0t 0 (muN q0k 1))) (z9u q0c (pF q0l 0 (muN q0c 1))) (z9u q0j (pF q0s 0 (muN q0j 1))) (z9u q0k (pF q0t 0 (muN q0k 1)))))))
noncomputable def z6e (q0c : Nat) (q0l : List Nat) (q0j : Nat) (q0s : List Nat) (q0k : Nat) (q0t : List Nat) : Option (Nat × Nat × Nat × (List Nat) × (List Nat) × (List Nat)) := zaj q0c q0l q0j q0s q0k q0t (fun c0_ c1_ c2_ c3_ c4_ c5_ => some (c0_, c1_, c2_, c3_, c4_, c5_))
theorem zip {R R' : Type} (o : Option R → Option R') (h0 : o none = none) (q0c : Nat) (q0l : List Nat) (q0j : Nat) (q0s : List Nat) (q0k : Nat) (q0t : List Nat) (k_ : Nat → Nat → Nat → (List Nat) → (List Nat) → (List Nat) → Option R) : zaj q0c q0l q0j q0s q0k q0t (fun c0_ c1_ c2_ c3_ c4_ c5_ => o (k_ c0_ c1_ c2_ c3_ c4_ c5_)) = o (zaj q0c q0l q0j q0s q0k q0t k_) := by
  unfold zaj
  repeat (first | refine grd_out h0 ?_ | refine br_out ?_ ?_ | rfl | exact h0.symm)
noncomputable def zc2 (q0c : Nat) (q0l : List Nat) (q0j : Nat) (q0s : List Nat) (q0k : Nat) (q0t : List Nat) : Bool := (z6e q0c q0l q0j q0s q0k q0t).isSome
noncomputable def zb9 (q0c : Nat) (q0l : List Nat) (q0j : Nat) (q0s : List Nat) (q0k : Nat) (q0t : List Nat) : Nat := ((z6e q0c q0l q0j q0s q0k q0t).getD default).1
noncomputable def zbb (q0c : Nat) (q0l : List Nat) (q0j : Nat) (q0s : List Nat) (q0k : Nat) (q0t : List Nat) : Nat := ((z6e q0c q0l q0j q0s q0k q0t).getD default).2.1
noncomputable def zb8 (q0c : Nat) (q0l : List Nat) (q0j : Nat) (q0s : List Nat) (q0k : Nat) (q0t : List Nat) : Nat := ((z6e q0c q0l q0j q0s q0k q0t).getD default).2.2.1
noncomputable def zb7 (q0c : Nat) (q0l : List Nat) (q0j : Nat) (q0s : List Nat) (q0k : Nat) (q0t : List Nat) : List Nat := ((z6e q0c q0l q0j q0s q0k q0t).getD default).2.2.2.1
noncomputable def zba (q0c : Nat) (q0l : List Nat) (q0j : Nat) (q0s : List Nat) (q0k : Nat) (q0t : List Nat) : List Nat := ((z6e q0c q0l q0j q0s q0k q0t).getD default).2.2.2.2.1
noncomputable def zbd (q0c : Nat) (q0l : List Nat) (q0j : Nat) (q0s : List Nat) (q0k : Nat) (q0t : List Nat) : List Nat := ((z6e q0c q0l q0j q0s q0k q0t).getD default).2.2.2.2.2
theorem zgy {q0c : Nat} {q0l : List Nat} {q0j : Nat} {q0s : List Nat} {q0k : Nat} {q0t : List Nat} {r : Nat × Nat × Nat × (List Nat) × (List Nat) × (List Nat)} (h : z6e q0c q0l q0j q0s q0k q0t = some r) : zc2 q0c q0l q0j q0s q0k q0t = true ∧ zb9 q0c q0l q0j q0s q0k q0t = r.1 ∧ zbb q0c q0l q0j q0s q0k q0t = r.2.1 ∧ zb8 q0c q0l q0j q0s q0k q0t = r.2.2.1 ∧ zb7 q0c q0l q0j q0s q0k q0t = r.2.2.2.1 ∧ zba q0c q0l q0j q0s q0k q0t = r.2.2.2.2.1 ∧ zbd q0c q0l q0j q0s q0k q0t = r.2.2.2.2.2 := by
  unfold zc2 zb9 zbb zb8 zb7 zba zbd
  rw [h]
  exact ⟨rfl, rfl, rfl, rfl, rfl, rfl, rfl⟩
noncomputable def z9p {R : Type} (q0c : Nat) (q0l : List Nat) (q0j : Nat) (q0s : List Nat) (q0k : Nat) (q0t : List Nat) (k : Int) (k_ : Int → Option R) : Option R := (grd (z9f q0c (pF q0l 0 (muN q0c 1)) k) (br (ltI (z41 q0c (pF q0l 0 (muN q0c 1)) k) 0) (k_ (Int.negSucc 0)) (grd (z9f q0j (pF q0s 0 (muN q0j 1)) (z41 q0c (pF q0l 0 (muN q0c 1)) k)) (br (ltI (z41 q0j (pF q0s 0 (muN q0j 1)) (z41 q0c (pF q0l 0 (muN q0c 1)) k)) 0) (k_ (Int.negSucc 0)) (grd (z9f q0k (pF q0t 0 (muN q0k 1)) (z41 q0j (pF q0s 0 (muN q0j 1)) (z41 q0c (pF q0l 0 (muN q0c 1)) k))) (br (ltI (z41 q0k (pF q0t 0 (muN q0k 1)) (z41 q0j (pF q0s 0 (muN q0j 1)) (z41 q0c (pF q0l 0 (muN q0c 1)) k))) 0) (k_ (Int.negSucc 0)) (k_ (z41 q0k (pF q0t 0 (muN q0k 1)) (z41 q0j (pF q0s 0 (muN q0j 1)) (z41 q0c (pF q0l 0 (muN q0c 1)) k))))))))))
noncomputable def z9n (q0c : Nat) (q0l : List Nat) (q0j : Nat) (q0s : List Nat) (q0k : Nat) (q0t : List Nat) (k : Int) : Option (Int) := z9p q0c q0l q0j q0s q0k q0t k (fun c0_ => some c0_)
theorem zhy {R R' : Type} (o : Option R → Option R') (h0 : o none = none) (q0c : Nat) (q0l : List Nat) (q0j : Nat) (q0s : List Nat) (q0k : Nat) (q0t : List Nat) (k : Int) (k_ : Int → Option R) : z9p q0c q0l q0j q0s q0k q0t k (fun c0_ => o (k_ c0_)) = o (z9p q0c q0l q0j q0s q0k q0t k k_) := by
  unfold z9p
  repeat (first | refine grd_out h0 ?_ | refine br_out ?_ ?_ | rfl | exact h0.symm)
noncomputable def zds (q0c : Nat) (q0l : List Nat) (q0j : Nat) (q0s : List Nat) (q0k : Nat) (q0t : List Nat) (k : Int) : Bool := (z9n q0c q0l q0j q0s q0k q0t k).isSome
noncomputable def zcc (q0c : Nat) (q0l : List Nat) (q0j : Nat) (q0s : List Nat) (q0k : Nat) (q0t : List Nat) (k : Int) : Int := ((z9n q0c q0l q0j q0s q0k q0t k).getD default)
theorem zj8 {q0c : Nat} {q0l : List Nat} {q0j : Nat} {q0s : List Nat} {q0k : Nat} {q0t : List Nat} {k : Int} {r : Int} (h : z9n q0c q0l q0j q0s q0k q0t k = some r) : zds q0c q0l q0j q0s q0k q0t k = true ∧ zcc q0c q0l q0j q0s q0k q0t k = r := by
  unfold zds zcc
  rw [h]
  exact ⟨rfl, rfl⟩
noncomputable def z8c {R : Type} (t3 : Int) (b0 : List Nat) (b1 : List Nat) (b2 : List Nat) (q12 : Nat) (q18 : Nat) (q17 : Nat) (t4 : Int) (kn_ : Int → Option R) (k0_ : Unit → Option R) (k1_ : Int → Bool → Option R) : Option R := (br (ltI t4 t3) (grd (okIx t4 q12) (br (fcmp BinOp.geq FloatKind.f32 (gF b0 (ixO 0 t4 1)) 3204448256) (grd (okIx t4 q12) (br (bnot (fcmp BinOp.leq FloatKind.f32 (gF b0 (ixO 0 t4 1)) 1056964608)) (k0_ ()) (br (ltI 0 t4) (grd (okIx t4 q12) (grd (okIx (subI IntKind.i64 t4 1) q12) (br (fcmp BinOp.leq FloatKind.f32 (gF b0 (ixO 0 t4 1)) (gF b0 (ixO 0 (subI IntKind.i64 t4 1) 1))) (k0_ ()) (grd (okIx t4 q18) (grd (z85 (gF b1 (ixO 0 t4 1))) (br (bnot (z7i (gF b1 (ixO 0 t4 1)))) (k0_ ()) (grd (okIx t4 q17) (grd (z9y (gF b2 (ixO 0 t4 1))) (br (bnot (z9i (gF b2 (ixO 0 t4 1)))) (k0_ ()) (kn_ (addI IntKind.i64 t4 1))))))))))) (grd (okIx t4 q18) (grd (z85 (gF b1 (ixO 0 t4 1))) (br (bnot (z7i (gF b1 (ixO 0 t4 1)))) (k0_ ()) (grd (okIx t4 q17) (grd (z9y (gF b2 (ixO 0 t4 1))) (br (bnot (z9i (gF b2 (ixO 0 t4 1)))) (k0_ ()) (kn_ (addI IntKind.i64 t4 1))))))))))) (br (bnot Bool.false) (k0_ ()) (br (ltI 0 t4) (grd (okIx t4 q12) (grd (okIx (subI IntKind.i64 t4 1) q12) (br (fcmp BinOp.leq FloatKind.f32 (gF b0 (ixO 0 t4 1)) (gF b0 (ixO 0 (subI IntKind.i64 t4 1) 1))) (k0_ ()) (grd (okIx t4 q18) (grd (z85 (gF b1 (ixO 0 t4 1))) (br (bnot (z7i (gF b1 (ixO 0 t4 1)))) (k0_ ()) (grd (okIx t4 q17) (grd (z9y (gF b2 (ixO 0 t4 1))) (br (bnot (z9i (gF b2 (ixO 0 t4 1)))) (k0_ ()) (kn_ (addI IntKind.i64 t4 1))))))))))) (grd (okIx t4 q18) (grd (z85 (gF b1 (ixO 0 t4 1))) (br (bnot (z7i (gF b1 (ixO 0 t4 1)))) (k0_ ()) (grd (okIx t4 q17) (grd (z9y (gF b2 (ixO 0 t4 1))) (br (bnot (z9i (gF b2 (ixO 0 t4 1)))) (k0_ ()) (kn_ (addI IntKind.i64 t4 1)))))))))))) (k1_ t4 (ltI t4 t3)))
theorem zj3 {R R' : Type} (o : Option R → Option R') (h0 : o none = none) (t3 : Int) (b0 : List Nat) (b1 : List Nat) (b2 : List Nat) (q12 : Nat) (q18 : Nat) (q17 : Nat) (t4 : Int) (kn_ : Int → Option R) (k0_ : Unit → Option R) (k1_ : Int → Bool → Option R) : z8c t3 b0 b1 b2 q12 q18 q17 t4 (fun t4' => o (kn_ t4')) (fun _ => o (k0_ ())) (fun c0_ c1_ => o (k1_ c0_ c1_)) = o (z8c t3 b0 b1 b2 q12 q18 q17 t4 kn_ k0_ k1_) := by
  unfold z8c
  repeat (first | refine grd_out h0 ?_ | refine br_out ?_ ?_ | rfl | exact h0.symm)
noncomputable def z65 (t3 : Int) (b0 : List Nat) (b1 : List Nat) (b2 : List Nat) (q12 : Nat) (q18 : Nat) (q17 : Nat) : Nat → Int → Option ((Unit) ⊕ (Int × Bool))
  | 0, _ => none
  | n + 1, t4 => z8c t3 b0 b1 b2 q12 q18 q17  t4  (fun t4' => z65 t3 b0 b1 b2 q12 q18 q17 n t4') (fun _ => some (Sum.inl ())) (fun c0_ c1_ => some (Sum.inr (c0_, c1_)))
theorem zgc (t3 : Int) (b0 : List Nat) (b1 : List Nat) (b2 : List Nat) (q12 : Nat) (q18 : Nat) (q17 : Nat) (n : Nat) (t4 : Int) : z65 t3 b0 b1 b2 q12 q18 q17 (n + 1) t4 = z8c t3 b0 b1 b2 q12 q18 q17  t4  (fun t4' => z65 t3 b0 b1 b2 q12 q18 q17 n t4') (fun _ => some (Sum.inl ())) (fun c0_ c1_ => some (Sum.inr (c0_, c1_))) := rfl
noncomputable def z8v (t3 : Int) (b0 : List Nat) (b1 : List Nat) (b2 : List Nat) (q12 : Nat) (q18 : Nat) (q17 : Nat) (t4 : Int) : Bool := (z65 t3 b0 b1 b2 q12 q18 q17 big t4).isSome
noncomputable def z8e (t3 : Int) (b0 : List Nat) (b1 : List Nat) (b2 : List Nat) (q12 : Nat) (q18 : Nat) (q17 : Nat) (t4 : Int) : Bool := oL (z65 t3 b0 b1 b2 q12 q18 q17 big t4)
noncomputable def zg0 (t3 : Int) (b0 : List Nat) (b1 : List Nat) (b2 : List Nat) (q12 : Nat) (q18 : Nat) (q17 : Nat) (t4 : Int) : Int := ((tR (z65 t3 b0 b1 b2 q12 q18 q17 big t4)).getD default).1
noncomputable def zg2 (t3 : Int) (b0 : List Nat) (b1 : List Nat) (b2 : List Nat) (q12 : Nat) (q18 : Nat) (q17 : Nat) (t4 : Int) : Bool := ((tR (z65 t3 b0 b1 b2 q12 q18 q17 big t4)).getD default).2
theorem zjq {t3 : Int} {b0 : List Nat} {b1 : List Nat} {b2 : List Nat} {q12 : Nat} {q18 : Nat} {q17 : Nat} {t4 : Int} {m : Nat} {r : Unit} (hm : m = big) (h : z65 t3 b0 b1 b2 q12 q18 q17 m t4 = some (Sum.inl r)) : z8v t3 b0 b1 b2 q12 q18 q17 t4 = true ∧ z8e t3 b0 b1 b2 q12 q18 q17 t4 = true := by
  subst hm
  unfold z8v z8e
  rw [h]
  exact ⟨rfl, rfl⟩
theorem zjv {t3 : Int} {b0 : List Nat} {b1 : List Nat} {b2 : List Nat} {q12 : Nat} {q18 : Nat} {q17 : Nat} {t4 : Int} {m : Nat} {r : Int × Bool} (hm : m = big) (h : z65 t3 b0 b1 b2 q12 q18 q17 m t4 = some (Sum.inr r)) : z8v t3 b0 b1 b2 q12 q18 q17 t4 = true ∧ z8e t3 b0 b1 b2 q12 q18 q17 t4 = false ∧ zg0 t3 b0 b1 b2 q12 q18 q17 t4 = r.1 ∧ zg2 t3 b0 b1 b2 q12 q18 q17 t4 = r.2 := by
  subst hm
  unfold z8v z8e zg0 zg2
  rw [h]
  exact ⟨rfl, rfl, rfl, rfl⟩
noncomputable def z3g {R : Type} (sn : Nat) (t7 : Int) (b0 : List Nat) (t8 : Int) (kn_ : Int → Option R) (k0_ : Int → Option R) (k1_ : Int → Bool → Option R) : Option R := (br (ltI t8 t7) (grd (okIx t8 sn) (grd (zdj (gF b0 (ixO 0 t8 1))) (br (zcm (gF b0 (ixO 0 t8 1))) (k0_ t8) (kn_ (addI IntKind.i64 t8 1))))) (k1_ t8 (ltI t8 t7)))
theorem zd3 {R R' : Type} (o : Option R → Option R') (h0 : o none = none) (sn : Nat) (t7 : Int) (b0 : List Nat) (t8 : Int) (kn_ : Int → Option R) (k0_ : Int → Option R) (k1_ : Int → Bool → Option R) : z3g sn t7 b0 t8 (fun t8' => o (kn_ t8')) (fun c0_ => o (k0_ c0_)) (fun c0_ c1_ => o (k1_ c0_ c1_)) = o (z3g sn t7 b0 t8 kn_ k0_ k1_) := by
  unfold z3g
  repeat (first | refine grd_out h0 ?_ | refine br_out ?_ ?_ | rfl | exact h0.symm)
noncomputable def z1q (sn : Nat) (t7 : Int) (b0 : List Nat) : Nat → Int → Option ((Int) ⊕ (Int × Bool))
  | 0, _ => none
  | n + 1, t8 => z3g sn t7 b0  t8  (fun t8' => z1q sn t7 b0 n t8') (fun c0_ => some (Sum.inl c0_)) (fun c0_ c1_ => some (Sum.inr (c0_, c1_)))
theorem z8g (sn : Nat) (t7 : Int) (b0 : List Nat) (n : Nat) (t8 : Int) : z1q sn t7 b0 (n + 1) t8 = z3g sn t7 b0  t8  (fun t8' => z1q sn t7 b0 n t8') (fun c0_ => some (Sum.inl c0_)) (fun c0_ c1_ => some (Sum.inr (c0_, c1_))) := rfl
noncomputable def z4d (sn : Nat) (t7 : Int) (b0 : List Nat) (t8 : Int) : Bool := (z1q sn t7 b0 big t8).isSome
noncomputable def z47 (sn : Nat) (t7 : Int) (b0 : List Nat) (t8 : Int) : Bool := oL (z1q sn t7 b0 big t8)
noncomputable def z58 (sn : Nat) (t7 : Int) (b0 : List Nat) (t8 : Int) : Int := ((tL (z1q sn t7 b0 big t8)).getD default)
noncomputable def z78 (sn : Nat) (t7 : Int) (b0 : List Nat) (t8 : Int) : Int := ((tR (z1q sn t7 b0 big t8)).getD default).1
noncomputable def z7a (sn : Nat) (t7 : Int) (b0 : List Nat) (t8 : Int) : Bool := ((tR (z1q sn t7 b0 big t8)).getD default).2
theorem ze8 {sn : Nat} {t7 : Int} {b0 : List Nat} {t8 : Int} {m : Nat} {r : Int} (hm : m = big) (h : z1q sn t7 b0 m t8 = some (Sum.inl r)) : z4d sn t7 b0 t8 = true ∧ z47 sn t7 b0 t8 = true ∧ z58 sn t7 b0 t8 = r := by
  subst hm
  unfold z4d z47 z58
  rw [h]
  exact ⟨rfl, rfl, rfl⟩
theorem zed {sn : Nat} {t7 : Int} {b0 : List Nat} {t8 : Int} {m : Nat} {r : Int × Bool} (hm : m = big) (h : z1q sn t7 b0 m t8 = some (Sum.inr r)) : z4d sn t7 b0 t8 = true ∧ z47 sn t7 b0 t8 = false ∧ z78 sn t7 b0 t8 = r.1 ∧ z7a sn t7 b0 t8 = r.2 := by
  subst hm
  unfold z4d z47 z78 z7a
  rw [h]
  exact ⟨rfl, rfl, rfl, rfl⟩
noncomputable def zam {R : Type} (q0c : Nat) (q0l : List Nat) (q0j : Nat) (q0s : List Nat) (q0k : Nat) (q0t : List Nat) (q1g : Nat) (q1m : List Nat) (q1i : Nat) (q1o : List Nat) (q1h : Nat) (q1p : List Nat) (k_ : Bool → Option R) : Option R := (grd (za5 q0c (pF q0l 0 (muN q0c 1)) q1g (pF q1m 0 (muN q1g 1))) (br (bnot (z9r q0c (pF q0l 0 (muN q0c 1)) q1g (pF q1m 0 (muN q1g 1)))) (k_ Bool.false) (grd (za5 q0j (pF q0s 0 (muN q0j 1)) q1i (pF q1o 0 (muN q1i 1))) (br (bnot (z9r q0j (pF q0s 0 (muN q0j 1)) q1i (pF q1o 0 (muN q1i 1)))) (k_ Bool.false) (grd (za5 q0k (pF q0t 0 (muN q0k 1)) q1h (pF q1p 0 (muN q1h 1))) (br (bnot (z9r q0k (pF q0t 0 (muN q0k 1)) q1h (pF q1p 0 (muN q1h 1)))) (k_ Bool.false) (k_ Bool.true)))))))
noncomputable def zat (q0c : Nat) (q0l : List Nat) (q0j : Nat) (q0s : List Nat) (q0k : Nat) (q0t : List Nat) (q1g : Nat) (q1m : List Nat) (q1i : Nat) (q1o : List Nat) (q1h : Nat) (q1p : List Nat) : Option (Bool) := zam q0c q0l q0j q0s q0k q0t q1g q1m q1i q1o q1h q1p (fun c0_ => some c0_)
theorem ziw {R R' : Type} (o : Option R → Option R') (h0 : o none = none) (q0c : Nat) (q0l : List Nat) (q0j : Nat) (q0s : List Nat) (q0k : Nat) (q0t : List Nat) (q1g : Nat) (q1m : List Nat) (q1i : Nat) (q1o : List Nat) (q1h : Nat) (q1p : List Nat) (k_ : Bool → Option R) : zam q0c q0l q0j q0s q0k q0t q1g q1m q1i q1o q1h q1p (fun c0_ => o (k_ c0_)) = o (zam q0c q0l q0j q0s q0k q0t q1g q1m q1i q1o q1h q1p k_) := by
  unfold zam
  repeat (first | refine grd_out h0 ?_ | refine br_out ?_ ?_ | rfl | exact h0.symm)
noncomputable def zar (q0c : Nat) (q0l : List Nat) (q0j : Nat) (q0s : List Nat) (q0k : Nat) (q0t : List Nat) (q1g : Nat) (q1m : List Nat) (q1i : Nat) (q1o : List Nat) (q1h : Nat) (q1p : List Nat) : Bool := (zat q0c q0l q0j q0s q0k q0t q1g q1m q1i q1o q1h q1p).isSome
noncomputable def zaa (q0c : Nat) (q0l : List Nat) (q0j : Nat) (q0s : List Nat) (q0k : Nat) (q0t : List Nat) (q1g : Nat) (q1m : List Nat) (q1i : Nat) (q1o : List Nat) (q1h : Nat) (q1p : List Nat) : Bool := ((zat q0c q0l q0j q0s q0k q0t q1g q1m q1i q1o q1h q1p).getD default)
theorem zg8 {q0c : Nat} {q0l : List Nat} {q0j : Nat} {q0s : List Nat} {q0k : Nat} {q0t : List Nat} {q1g : Nat} {q1m : List Nat} {q1i : Nat} {q1o : List Nat} {q1h : Nat} {q1p : List Nat} {r : Bool} (h : zat q0c q0l q0j q0s q0k q0t q1g q1m q1i q1o q1h q1p = some r) : zar q0c q0l q0j q0s q0k q0t q1g q1m q1i q1o q1h q1p = true ∧ zaa q0c q0l q0j q0s q0k q0t q1g q1m q1i q1o q1h q1p = r := by
  unfold zar zaa
  rw [h]
  exact ⟨rfl, rfl⟩
noncomputable def zf0 {R : Type} (q00 : Nat) (q03 : List Nat) (q02 : Nat) (q05 : List Nat) (q01 : Nat) (q04 : List Nat) (k_ : Bool → Option R) : Option R := (br (ltI (Int.ofNat q00) 2) (k_ Bool.false) (br (ltI 24 (Int.ofNat q00)) (k_ Bool.false) (br (neI (Int.ofNat q02) (Int.ofNat q00)) (k_ Bool.false) (br (neI (Int.ofNat q01) (Int.ofNat q00)) (k_ Bool.false) (grd (z8v (Int.ofNat q00) q03 q05 q04 q00 q02 q01 0) (br (z8e (Int.ofNat q00) q03 q05 q04 q00 q02 q01 0) (k_ Bool.false) (k_ Bool.true)))))))
noncomputable def zey (q00 : Nat) (q03 : List Nat) (q02 : Nat) (q05 : List Nat) (q01 : Nat) (q04 : List Nat) : Option (Bool) := zf0 q00 q03 q02 q05 q01 q04 (fun c0_ => some c0_)
theorem zjz {R R' : Type} (o : Option R → Option R') (h0 : o none = none) (q00 : Nat) (q03 : List Nat) (q02 : Nat) (q05 : List Nat) (q01 : Nat) (q04 : List Nat) (k_ : Bool → Option R) : zf0 q00 q03 q02 q05 q01 q04 (fun c0_ => o (k_ c0_)) = o (zf0 q00 q03 q02 q05 q01 q04 k_) := by
  unfold zf0
  repeat (first | refine grd_out h0 ?_ | refine br_out ?_ ?_ | rfl | exact h0.symm)
noncomputable def zf6 (q00 : Nat) (q03 : List Nat) (q02 : Nat) (q05 : List Nat) (q01 : Nat) (q04 : List Nat) : Bool := (zey q00 q03 q02 q05 q01 q04).isSome
noncomputable def zd9 (q00 : Nat) (q03 : List Nat) (q02 : Nat) (q05 : List Nat) (q01 : Nat) (q04 : List Nat) : Bool := ((zey q00 q03 q02 q05 q01 q04).getD default)
theorem zgw {q00 : Nat} {q03 : List Nat} {q02 : Nat} {q05 : List Nat} {q01 : Nat} {q04 : List Nat} {r : Bool} (h : zey q00 q03 q02 q05 q01 q04 = some r) : zf6 q00 q03 q02 q05 q01 q04 = true ∧ zd9 q00 q03 q02 q05 q01 q04 = r := by
  unfold zf6 zd9
  rw [h]
  exact ⟨rfl, rfl⟩
noncomputable def z4j {R : Type} (s_n : Nat) (s : List Nat) (k_ : Int → Option R) : Option R := (grd (z4d s_n (Int.ofNat s_n) s 0) (br (z47 s_n (Int.ofNat s_n) s 0) (k_ (z58 s_n (Int.ofNat s_n) s 0)) (k_ (Int.negSucc 0))))
noncomputable def z4k (s_n : Nat) (s : List Nat) : Option (Int) := z4j s_n s (fun c0_ => some c0_)
theorem zel {R R' : Type} (o : Option R → Option R') (h0 : o none = none) (s_n : Nat) (s : List Nat) (k_ : Int → Option R) : z4j s_n s (fun c0_ => o (k_ c0_)) = o (z4j s_n s k_) := by
  unfold z4j
  repeat (first | refine grd_out h0 ?_ | refine br_out ?_ ?_ | rfl | exact h0.symm)
noncomputable def z6c (s_n : Nat) (s : List Nat) : Bool := (z4k s_n s).isSome
noncomputable def z69 (s_n : Nat) (s : List Nat) : Int := ((z4k s_n s).getD default)
theorem zff {s_n : Nat} {s : List Nat} {r : Int} (h : z4k s_n s = some r) : z6c s_n s = true ∧ z69 s_n s = r := by
  unfold z6c z69
  rw [h]
  exact ⟨rfl, rfl⟩
noncomputable def z3l {R : Type} (sn : Nat) (t7 : Int) (b0 : List Nat) (t8 : Int) (kn_ : Int → Option R) (k0_ : Int → Option R) (k1_ : Int → Bool → Option R) : Option R := (br (ltI t8 t7) (grd (okIx t8 sn) (grd (zes (gF b0 (ixO 0 t8 1))) (br (zdi (gF b0 (ixO 0 t8 1))) (k0_ t8) (kn_ (addI IntKind.i64 t8 1))))) (k1_ t8 (ltI t8 t7)))
theorem zdn {R R' : Type} (o : Option R → Option R') (h0 : o none = none) (sn : Nat) (t7 : Int) (b0 : List Nat) (t8 : Int) (kn_ : Int → Option R) (k0_ : Int → Option R) (k1_ : Int → Bool → Option R) : z3l sn t7 b0 t8 (fun t8' => o (kn_ t8')) (fun c0_ => o (k0_ c0_)) (fun c0_ c1_ => o (k1_ c0_ c1_)) = o (z3l sn t7 b0 t8 kn_ k0_ k1_) := by
  unfold z3l
  repeat (first | refine grd_out h0 ?_ | refine br_out ?_ ?_ | rfl | exact h0.symm)
noncomputable def z28 (sn : Nat) (t7 : Int) (b0 : List Nat) : Nat → Int → Option ((Int) ⊕ (Int × Bool))
  | 0, _ => none
  | n + 1, t8 => z3l sn t7 b0  t8  (fun t8' => z28 sn t7 b0 n t8') (fun c0_ => some (Sum.inl c0_)) (fun c0_ c1_ => some (Sum.inr (c0_, c1_)))
theorem z8k (sn : Nat) (t7 : Int) (b0 : List Nat) (n : Nat) (t8 : Int) : z28 sn t7 b0 (n + 1) t8 = z3l sn t7 b0  t8  (fun t8' => z28 sn t7 b0 n t8') (fun c0_ => some (Sum.inl c0_)) (fun c0_ c1_ => some (Sum.inr (c0_, c1_))) := rfl
noncomputable def z4i (sn : Nat) (t7 : Int) (b0 : List Nat) (t8 : Int) : Bool := (z28 sn t7 b0 big t8).isSome
noncomputable def z4e (sn : Nat) (t7 : Int) (b0 : List Nat) (t8 : Int) : Bool := oL (z28 sn t7 b0 big t8)
noncomputable def z5n (sn : Nat) (t7 : Int) (b0 : List Nat) (t8 : Int) : Int := ((tL (z28 sn t7 b0 big t8)).getD default)
noncomputable def z7e (sn : Nat) (t7 : Int) (b0 : List Nat) (t8 : Int) : Int := ((tR (z28 sn t7 b0 big t8)).getD default).1
noncomputable def z7d (sn : Nat) (t7 : Int) (b0 : List Nat) (t8 : Int) : Bool := ((tR (z28 sn t7 b0 big t8)).getD default).2
theorem zep {sn : Nat} {t7 : Int} {b0 : List Nat} {t8 : Int} {m : Nat} {r : Int} (hm : m = big) (h : z28 sn t7 b0 m t8 = some (Sum.inl r)) : z4i sn t7 b0 t8 = true ∧ z4e sn t7 b0 t8 = true ∧ z5n sn t7 b0 t8 = r := by
  subst hm
  unfold z4i z4e z5n
  rw [h]
  exact ⟨rfl, rfl, rfl⟩
theorem zen {sn : Nat} {t7 : Int} {b0 : List Nat} {t8 : Int} {m : Nat} {r : Int × Bool} (hm : m = big) (h : z28 sn t7 b0 m t8 = some (Sum.inr r)) : z4i sn t7 b0 t8 = true ∧ z4e sn t7 b0 t8 = false ∧ z7e sn t7 b0 t8 = r.1 ∧ z7d sn t7 b0 t8 = r.2 := by
  subst hm
  unfold z4i z4e z7e z7d
  rw [h]
  exact ⟨rfl, rfl, rfl, rfl⟩
noncomputable def z4m {R : Type} (s_n : Nat) (s : List Nat) (k_ : Int → Option R) : Option R := (grd (z4i s_n (Int.ofNat s_n) s 0) (br (z4e s_n (Int.ofNat s_n) s 0) (k_ (z5n s_n (Int.ofNat s_n) s 0)) (k_ (Int.negSucc 0))))
noncomputable def z4l (s_n : Nat) (s : List Nat) : Option (Int) := z4m s_n s (fun c0_ => some c0_)
theorem zf1 {R R' : Type} (o : Option R → Option R') (h0 : o none = none) (s_n : Nat) (s : List Nat) (k_ : Int → Option R) : z4m s_n s (fun c0_ => o (k_ c0_)) = o (z4m s_n s k_) := by
  unfold z4m
  repeat (first | refine grd_out h0 ?_ | refine br_out ?_ ?_ | rfl | exact h0.symm)
noncomputable def z6f (s_n : Nat) (s : List Nat) : Bool := (z4l s_n s).isSome
noncomputable def z6d (s_n : Nat) (s : List Nat) : Int := ((z4l s_n s).getD default)
theorem zfo {s_n : Nat} {s : List Nat} {r : Int} (h : z4l s_n s = some r) : z6f s_n s = true ∧ z6d s_n s = r := by
  unfold z6f z6d
  rw [h]
  exact ⟨rfl, rfl⟩
noncomputable def z4c {R : Type} (s_n : Nat) (s : List Nat) (k_ : Bool → Option R) : Option R := (grd (z6c s_n (pF s 0 (muN s_n 1))) (k_ (leI 0 (z69 s_n (pF s 0 (muN s_n 1))))))
noncomputable def z4b (s_n : Nat) (s : List Nat) : Option (Bool) := z4c s_n s (fun c0_ => some c0_)
theorem zcy {R R' : Type} (o : Option R → Option R') (h0 : o none = none) (s_n : Nat) (s : List Nat) (k_ : Bool → Option R) : z4c s_n s (fun c0_ => o (k_ c0_)) = o (z4c s_n s k_) := by
  unfold z4c
  repeat (first | refine grd_out h0 ?_ | refine br_out ?_ ?_ | rfl | exact h0.symm)
noncomputable def z5z (s_n : Nat) (s : List Nat) : Bool := (z4b s_n s).isSome
noncomputable def z5y (s_n : Nat) (s : List Nat) : Bool := ((z4b s_n s).getD default)
theorem zeo {s_n : Nat} {s : List Nat} {r : Bool} (h : z4b s_n s = some r) : z5z s_n s = true ∧ z5y s_n s = r := by
  unfold z5z z5y
  rw [h]
  exact ⟨rfl, rfl⟩
noncomputable def z4h {R : Type} (s_n : Nat) (s : List Nat) (k_ : Bool → Option R) : Option R := (grd (z6f s_n (pF s 0 (muN s_n 1))) (k_ (leI 0 (z6d s_n (pF s 0 (muN s_n 1))))))
noncomputable def z4g (s_n : Nat) (s : List Nat) : Option (Bool) := z4h s_n s (fun c0_ => some c0_)
theorem zdh {R R' : Type} (o : Option R → Option R') (h0 : o none = none) (s_n : Nat) (s : List Nat) (k_ : Bool → Option R) : z4h s_n s (fun c0_ => o (k_ c0_)) = o (z4h s_n s k_) := by
  unfold z4h
  repeat (first | refine grd_out h0 ?_ | refine br_out ?_ ?_ | rfl | exact h0.symm)
noncomputable def z68 (s_n : Nat) (s : List Nat) : Bool := (z4g s_n s).isSome
noncomputable def z62 (s_n : Nat) (s : List Nat) : Bool := ((z4g s_n s).getD default)
theorem zf3 {s_n : Nat} {s : List Nat} {r : Bool} (h : z4g s_n s = some r) : z68 s_n s = true ∧ z62 s_n s = r := by
  unfold z68 z62
  rw [h]
  exact ⟨rfl, rfl⟩
noncomputable def zaq {R : Type} (q1d : Nat) (q1l : List Nat) (k_ : Bool → Option R) : Option R := (grd (z5z q1d (pF q1l 0 (muN q1d 1))) (k_ (bnot (z5y q1d (pF q1l 0 (muN q1d 1))))))
noncomputable def zao (q1d : Nat) (q1l : List Nat) : Option (Bool) := zaq q1d q1l (fun c0_ => some c0_)
theorem zix {R R' : Type} (o : Option R → Option R') (h0 : o none = none) (q1d : Nat) (q1l : List Nat) (k_ : Bool → Option R) : zaq q1d q1l (fun c0_ => o (k_ c0_)) = o (zaq q1d q1l k_) := by
  unfold zaq
  repeat (first | refine grd_out h0 ?_ | refine br_out ?_ ?_ | rfl | exact h0.symm)
noncomputable def zfi (q1d : Nat) (q1l : List Nat) : Bool := (zao q1d q1l).isSome
noncomputable def zeq (q1d : Nat) (q1l : List Nat) : Bool := ((zao q1d q1l).getD default)
theorem zju {q1d : Nat} {q1l : List Nat} {r : Bool} (h : zao q1d q1l = some r) : zfi q1d q1l = true ∧ zeq q1d q1l = r := by
  unfold zfi zeq
  rw [h]
  exact ⟨rfl, rfl⟩
noncomputable def zb1 {R : Type} (q1d : Nat) (q1l : List Nat) (k_ : Bool → Option R) : Option R := (grd (z68 q1d (pF q1l 0 (muN q1d 1))) (k_ (bnot (z62 q1d (pF q1l 0 (muN q1d 1))))))
noncomputable def zaz (q1d : Nat) (q1l : List Nat) : Option (Bool) := zb1 q1d q1l (fun c0_ => some c0_)
theorem zj6 {R R' : Type} (o : Option R → Option R') (h0 : o none = none) (q1d : Nat) (q1l : List Nat) (k_ : Bool → Option R) : zb1 q1d q1l (fun c0_ => o (k_ c0_)) = o (zb1 q1d q1l k_) := by
  unfold zb1
  repeat (first | refine grd_out h0 ?_ | refine br_out ?_ ?_ | rfl | exact h0.symm)
noncomputable def zfs (q1d : Nat) (q1l : List Nat) : Bool := (zaz q1d q1l).isSome
noncomputable def zfg (q1d : Nat) (q1l : List Nat) : Bool := ((zaz q1d q1l).getD default)
theorem zk7 {q1d : Nat} {q1l : List Nat} {r : Bool} (h : zaz q1d q1l = some r) : zfs q1d q1l = true ∧ zfg q1d q1l = r := by
  unfold zfs zfg
  rw [h]
  exact ⟨rfl, rfl⟩
noncomputable def z64 {R : Type} (t2 : Nat) (b0 : List Nat) (b1 : List Nat) (b2 : List Nat) (b3 : List Nat) (b4 : List Nat) (b5 : List Nat) (q0h : Nat) (q0d : Nat) (q0e : Nat) (q0i : Nat) (q0g : Nat) (q0f : Nat) (t9 : Int) (q14 : Nat) (q11 : Nat) (q10 : Nat) (b10 : List Nat) (b11 : List Nat) (b12 : List Nat) (kn_ : Int → Nat → Nat → Nat → (List Nat) → (List Nat) → (List Nat) → Option R) (k0_ : Unit → Option R) (k1_ : Int → Bool → Nat → Nat → Nat → (List Nat) → (List Nat) → (List Nat) → Option R) : Option R := (br (ltI t9 (Int.ofNat q0h)) (grd (okIx t9 q0h) (grd (okIx t9 q0i) (br (fcmp BinOp.neq FloatKind.f32 (gF b0 (ixO 0 t9 1)) (gF b3 (ixO 0 t9 1))) (k0_ ()) (grd (okIx t9 q0d) (grd (okIx t9 q0g) (grd (okIx t9 q0d) (grd (okIx t9 q0h) (grd (okIx t9 q0e) (grd (okIx t9 q0f) (grd (okIx t9 q0e) (grd (okA2 q14 1 4 (nF (pF [(gF b0 (ixO 0 t9 1))] 0 (muN 1 1))) (nF b10) 1) (grd (okA2 q11 1 4 (nF (pF [(fop BinOp.add FloatKind.f32 (gF b1 (ixO 0 t9 1)) (fop BinOp.mul FloatKind.f32 t2 (fop BinOp.sub FloatKind.f32 (gF b4 (ixO 0 t9 1)) (gF b1 (ixO 0 t9 1)))))] 0 (muN 1 1))) (nF b11) 1) (grd (okA2 q10 1 4 (nF (pF [(fop BinOp.add FloatKind.f32 (gF b2 (ixO 0 t9 1)) (fop BinOp.mul FloatKind.f32 t2 (fop BinOp.sub FloatKind.f32 (gF b5 (ixO 0 t9 1)) (gF b2 (ixO 0 t9 1)))))] 0 (muN 1 1))) (nF b12) 1) (kn_ (addI IntKind.i64 t9 1) (adN q14 1) (adN q11 1) (adN q10 1) (aF b10 (pF [(gF b0 (ixO 0 t9 1))] 0 (muN 1 1))) (aF b11 (pF [(fop BinOp.add FloatKind.f32 (gF b1 (ixO 0 t9 1)) (fop BinOp.mul FloatKind.f32 t2 (fop BinOp.sub FloatKind.f32 (gF b4 (ixO 0 t9 1)) (gF b1 (ixO 0 t9 1)))))] 0 (muN 1 1))) (aF b12 (pF [(fop BinOp.add FloatKind.f32 (gF b2 (ixO 0 t9 1)) (fop BinOp.mul FloatKind.f32 t2 (fop BinOp.sub FloatKind.f32 (gF b5 (ixO 0 t9 1)) (gF b2 (ixO 0 t9 1)))))] 0 (muN 1 1))))))))))))))))) (k1_ t9 (ltI t9 (Int.ofNat q0h)) q14 q11 q10 b10 b11 b12))
theorem zh6 {R R' : Type} (o : Option R → Option R') (h0 : o none = none) (t2 : Nat) (b0 : List Nat) (b1 : List Nat) (b2 : List Nat) (b3 : List Nat) (b4 : List Nat) (b5 : List Nat) (q0h : Nat) (q0d : Nat) (q0e : Nat) (q0i : Nat) (q0g : Nat) (q0f : Nat) (t9 : Int) (q14 : Nat) (q11 : Nat) (q10 : Nat) (b10 : List Nat) (b11 : List Nat) (b12 : List Nat) (kn_ : Int → Nat → Nat → Nat → (List Nat) → (List Nat) → (List Nat) → Option R) (k0_ : Unit → Option R) (k1_ : Int → Bool → Nat → Nat → Nat → (List Nat) → (List Nat) → (List Nat) → Option R) : z64 t2 b0 b1 b2 b3 b4 b5 q0h q0d q0e q0i q0g q0f t9 q14 q11 q10 b10 b11 b12 (fun t9' q14' q11' q10' b10' b11' b12' => o (kn_ t9' q14' q11' q10' b10' b11' b12')) (fun _ => o (k0_ ())) (fun c0_ c1_ c2_ c3_ c4_ c5_ c6_ c7_ => o (k1_ c0_ c1_ c2_ c3_ c4_ c5_ c6_ c7_)) = o (z64 t2 b0 b1 b2 b3 b4 b5 q0h q0d q0e q0i q0g q0f t9 q14 q11 q10 b10 b11 b12 kn_ k0_ k1_) := by
  unfold z64
  repeat (first | refine grd_out h0 ?_ | refine br_out ?_ ?_ | rfl | exact h0.symm)
noncomputable def z2z (t2 : Nat) (b0 : List Nat) (b1 : List Nat) (b2 : List Nat) (b3 : List Nat) (b4 : List Nat) (b5 : List Nat) (q0h : Nat) (q0d : Nat) (q0e : Nat) (q0i : Nat) (q0g : Nat) (q0f : Nat) : Nat → Int → Nat → Nat → Nat → (List Nat) → (List Nat) → (List Nat) → Option ((Unit) ⊕ (Int × Bool × Nat × Nat × Nat × (List Nat) × (List Nat) × (List Nat)))
  | 0, _, _, _, _, _, _, _ => none
  | n + 1, t9, q14, q11, q10, b10, b11, b12 => z64 t2 b0 b1 b2 b3 b4 b5 q0h q0d q0e q0i q0g q0f  t9 q14 q11 q10 b10 b11 b12  (fun t9' q14' q11' q10' b10' b11' b12' => z2z t2 b0 b1 b2 b3 b4 b5 q0h q0d q0e q0i q0g q0f n t9' q14' q11' q10' b10' b11' b12') (fun _ => some (Sum.inl ())) (fun c0_ c1_ c2_ c3_ c4_ c5_ c6_ c7_ => some (Sum.inr (c0_, c1_, c2_, c3_, c4_, c5_, c6_, c7_)))
theorem zfp (t2 : Nat) (b0 : List Nat) (b1 : List Nat) (b2 : List Nat) (b3 : List Nat) (b4 : List Nat) (b5 : List Nat) (q0h : Nat) (q0d : Nat) (q0e : Nat) (q0i : Nat) (q0g : Nat) (q0f : Nat) (n : Nat) (t9 : Int) (q14 : Nat) (q11 : Nat) (q10 : Nat) (b10 : List Nat) (b11 : List Nat) (b12 : List Nat) : z2z t2 b0 b1 b2 b3 b4 b5 q0h q0d q0e q0i q0g q0f (n + 1) t9 q14 q11 q10 b10 b11 b12 = z64 t2 b0 b1 b2 b3 b4 b5 q0h q0d q0e q0i q0g q0f  t9 q14 q11 q10 b10 b11 b12  (fun t9' q14' q11' q10' b10' b11' b12' => z2z t2 b0 b1 b2 b3 b4 b5 q0h q0d q0e q0i q0g q0f n t9' q14' q11' q10' b10' b11' b12') (fun _ => some (Sum.inl ())) (fun c0_ c1_ c2_ c3_ c4_ c5_ c6_ c7_ => some (Sum.inr (c0_, c1_, c2_, c3_, c4_, c5_, c6_, c7_))) := rfl
noncomputable def z8d (t2 : Nat) (b0 : List Nat) (b1 : List Nat) (b2 : List Nat) (b3 : List Nat) (b4 : List Nat) (b5 : List Nat) (q0h : Nat) (q0d : Nat) (q0e : Nat) (q0i : Nat) (q0g : Nat) (q0f : Nat) (t9 : Int) (q14 : Nat) (q11 : Nat) (q10 : Nat) (b10 : List Nat) (b11 : List Nat) (b12 : List Nat) : Bool := (z2z t2 b0 b1 b2 b3 b4 b5 q0h q0d q0e q0i q0g q0f big t9 q14 q11 q10 b10 b11 b12).isSome
noncomputable def z8b (t2 : Nat) (b0 : List Nat) (b1 : List Nat) (b2 : List Nat) (b3 : List Nat) (b4 : List Nat) (b5 : List Nat) (q0h : Nat) (q0d : Nat) (q0e : Nat) (q0i : Nat) (q0g : Nat) (q0f : Nat) (t9 : Int) (q14 : Nat) (q11 : Nat) (q10 : Nat) (b10 : List Nat) (b11 : List Nat) (b12 : List Nat) : Bool := oL (z2z t2 b0 b1 b2 b3 b4 b5 q0h q0d q0e q0i q0g q0f big t9 q14 q11 q10 b10 b11 b12)
noncomputable def zc5 (t2 : Nat) (b0 : List Nat) (b1 : List Nat) (b2 : List Nat) (b3 : List Nat) (b4 : List Nat) (b5 : List Nat) (q0h : Nat) (q0d : Nat) (q0e : Nat) (q0i : Nat) (q0g : Nat) (q0f : Nat) (t9 : Int) (q14 : Nat) (q11 : Nat) (q10 : Nat) (b10 : List Nat) (b11 : List Nat) (b12 : List Nat) : Int := ((tR (z2z t2 b0 b1 b2 b3 b4 b5 q0h q0d q0e q0i q0g q0f big t9 q14 q11 q10 b10 b11 b12)).getD default).1
noncomputable def zca (t2 : Nat) (b0 : List Nat) (b1 : List Nat) (b2 : List Nat) (b3 : List Nat) (b4 : List Nat) (b5 : List Nat) (q0h : Nat) (q0d : Nat) (q0e : Nat) (q0i : Nat) (q0g : Nat) (q0f : Nat) (t9 : Int) (q14 : Nat) (q11 : Nat) (q10 : Nat) (b10 : List Nat) (b11 : List Nat) (b12 : List Nat) : Bool := ((tR (z2z t2 b0 b1 b2 b3 b4 b5 q0h q0d q0e q0i q0g q0f big t9 q14 q11 q10 b10 b11 b12)).getD default).2.1
noncomputable def z5v (t2 : Nat) (b0 : List Nat) (b1 : List Nat) (b2 : List Nat) (b3 : List Nat) (b4 : List Nat) (b5 : List Nat) (q0h : Nat) (q0d : Nat) (q0e : Nat) (q0i : Nat) (q0g : Nat) (q0f : Nat) (t9 : Int) (q14 : Nat) (q11 : Nat) (q10 : Nat) (b10 : List Nat) (b11 : List Nat) (b12 : List Nat) : Nat := ((tR (z2z t2 b0 b1 b2 b3 b4 b5 q0h q0d q0e q0i q0g q0f big t9 q14 q11 q10 b10 b11 b12)).getD default).2.2.1
noncomputable def z5w (t2 : Nat) (b0 : List Nat) (b1 : List Nat) (b2 : List Nat) (b3 : List Nat) (b4 : List Nat) (b5 : List Nat) (q0h : Nat) (q0d : Nat) (q0e : Nat) (q0i : Nat) (q0g : Nat) (q0f : Nat) (t9 : Int) (q14 : Nat) (q11 : Nat) (q10 : Nat) (b10 : List Nat) (b11 : List Nat) (b12 : List Nat) : Nat := ((tR (z2z t2 b0 b1 b2 b3 b4 b5 q0h q0d q0e q0i q0g q0f big t9 q14 q11 q10 b10 b11 b12)).getD default).2.2.2.1
noncomputable def z5u (t2 : Nat) (b0 : List Nat) (b1 : List Nat) (b2 : List Nat) (b3 : List Nat) (b4 : List Nat) (b5 : List Nat) (q0h : Nat) (q0d : Nat) (q0e : Nat) (q0i : Nat) (q0g : Nat) (q0f : Nat) (t9 : Int) (q14 : Nat) (q11 : Nat) (q10 : Nat) (b10 : List Nat) (b11 : List Nat) (b12 : List Nat) : Nat := ((tR (z2z t2 b0 b1 b2 b3 b4 b5 q0h q0d q0e q0i q0g q0f big t9 q14 q11 q10 b10 b11 b12)).getD default).2.2.2.2.1
noncomputable def z7j (t2 : Nat) (b0 : List Nat) (b1 : List Nat) (b2 : List Nat) (b3 : List Nat) (b4 : List Nat) (b5 : List Nat) (q0h : Nat) (q0d : Nat) (q0e : Nat) (q0i : Nat) (q0g : Nat) (q0f : Nat) (t9 : Int) (q14 : Nat) (q11 : Nat) (q10 : Nat) (b10 : List Nat) (b11 : List Nat) (b12 : List Nat) : List Nat := ((tR (z2z t2 b0 b1 b2 b3 b4 b5 q0h q0d q0e q0i q0g q0f big t9 q14 q11 q10 b10 b11 b12)).getD default).2.2.2.2.2.1
noncomputable def z7p (t2 : Nat) (b0 : List Nat) (b1 : List Nat) (b2 : List Nat) (b3 : List Nat) (b4 : List Nat) (b5 : List Nat) (q0h : Nat) (q0d : Nat) (q0e : Nat) (q0i : Nat) (q0g : Nat) (q0f : Nat) (t9 : Int) (q14 : Nat) (q11 : Nat) (q10 : Nat) (b10 : List Nat) (b11 : List Nat) (b12 : List Nat) : List Nat := ((tR (z2z t2 b0 b1 b2 b3 b4 b5 q0h q0d q0e q0i q0g q0f big t9 q14 q11 q10 b10 b11 b12)).getD default).2.2.2.2.2.2.1
noncomputable def z7l (t2 : Nat) (b0 : List Nat) (b1 : List Nat) (b2 : List Nat) (b3 : List Nat) (b4 : List Nat) (b5 : List Nat) (q0h : Nat) (q0d : Nat) (q0e : Nat) (q0i : Nat) (q0g : Nat) (q0f : Nat) (t9 : Int) (q14 : Nat) (q11 : Nat) (q10 : Nat) (b10 : List Nat) (b11 : List Nat) (b12 : List Nat) : List Nat := ((tR (z2z t2 b0 b1 b2 b3 b4 b5 q0h q0d q0e q0i q0g q0f big t9 q14 q11 q10 b10 b11 b12)).getD default).2.2.2.2.2.2.2
theorem zhr {t2 : Nat} {b0 : List Nat} {b1 : List Nat} {b2 : List Nat} {b3 : List Nat} {b4 : List Nat} {b5 : List Nat} {q0h : Nat} {q0d : Nat} {q0e : Nat} {q0i : Nat} {q0g : Nat} {q0f : Nat} {t9 : Int} {q14 : Nat} {q11 : Nat} {q10 : Nat} {b10 : List Nat} {b11 : List Nat} {b12 : List Nat} {m : Nat} {r : Unit} (hm : m = big) (h : z2z t2 b0 b1 b2 b3 b4 b5 q0h q0d q0e q0i q0g q0f m t9 q14 q11 q10 b10 b11 b12 = some (Sum.inl r)) : z8d t2 b0 b1 b2 b3 b4 b5 q0h q0d q0e q0i q0g q0f t9 q14 q11 q10 b10 b11 b12 = true ∧ z8b t2 b0 b1 b2 b3 b4 b5 q0h q0d q0e q0i q0g q0f t9 q14 q11 q10 b10 b11 b12 = true := by
  subst hm
  unfold z8d z8b
  rw [h]
  exact ⟨rfl, rfl⟩
theorem zhq {t2 : Nat} {b0 : List Nat} {b1 : List Nat} {b2 : List Nat} {b3 : List Nat} {b4 : List Nat} {b5 : List Nat} {q0h : Nat} {q0d : Nat} {q0e : Nat} {q0i : Nat} {q0g : Nat} {q0f : Nat} {t9 : Int} {q14 : Nat} {q11 : Nat} {q10 : Nat} {b10 : List Nat} {b11 : List Nat} {b12 : List Nat} {m : Nat} {r : Int × Bool × Nat × Nat × Nat × (List Nat) × (List Nat) × (List Nat)} (hm : m = big) (h : z2z t2 b0 b1 b2 b3 b4 b5 q0h q0d q0e q0i q0g q0f m t9 q14 q11 q10 b10 b11 b12 = some (Sum.inr r)) : z8d t2 b0 b1 b2 b3 b4 b5 q0h q0d q0e q0i q0g q0f t9 q14 q11 q10 b10 b11 b12 = true ∧ z8b t2 b0 b1 b2 b3 b4 b5 q0h q0d q0e q0i q0g q0f t9 q14 q11 q10 b10 b11 b12 = false ∧ zc5 t2 b0 b1 b2 b3 b4 b5 q0h q0d q0e q0i q0g q0f t9 q14 q11 q10 b10 b11 b12 = r.1 ∧ zca t2 b0 b1 b2 b3 b4 b5 q0h q0d q0e q0i q0g q0f t9 q14 q11 q10 b10 b11 b12 = r.2.1 ∧ z5v t2 b0 b1 b2 b3 b4 b5 q0h q0d q0e q0i q0g q0f t9 q14 q11 q10 b10 b11 b12 = r.2.2.1 ∧ z5w t2 b0 b1 b2 b3 b4 b5 q0h q0d q0e q0i q0g q0f t9 q14 q11 q10 b10 b11 b12 = r.2.2.2.1 ∧ z5u t2 b0 b1 b2 b3 b4 b5 q0h q0d q0e q0i q0g q0f t9 q14 q11 q10 b10 b11 b12 = r.2.2.2.2.1 ∧ z7j t2 b0 b1 b2 b3 b4 b5 q0h q0d q0e q0i q0g q0f t9 q14 q11 q10 b10 b11 b12 = r.2.2.2.2.2.1 ∧ z7p t2 b0 b1 b2 b3 b4 b5 q0h q0d q0e q0i q0g q0f t9 q14 q11 q10 b10 b11 b12 = r.2.2.2.2.2.2.1 ∧ z7l t2 b0 b1 b2 b3 b4 b5 q0h q0d q0e q0i q0g q0f t9 q14 q11 q10 b10 b11 b12 = r.2.2.2.2.2.2.2 := by
  subst hm
  unfold z8d z8b zc5 zca z5v z5w z5u z7j z7p z7l
  rw [h]
  exact ⟨rfl, rfl, rfl, rfl, rfl, rfl, rfl, rfl, rfl, rfl⟩
noncomputable def z9s {R : Type} (q00 : Nat) (q03 : List Nat) (q02 : Nat) (q05 : List Nat) (q01 : Nat) (q04 : List Nat) (q06 : Nat) (q09 : List Nat) (q07 : Nat) (q0a : List Nat) (q08 : Nat) (q0b : List Nat) (x2 : Nat) (k_ : Nat → Nat → Nat → Bool → (List Nat) → (List Nat) → (List Nat) → Option R) : Option R := (grd (zf6 q00 (pF q03 0 (muN q00 1)) q02 (pF q05 0 (muN q02 1)) q01 (pF q04 0 (muN q01 1))) (br (bnot (zd9 q00 (pF q03 0 (muN q00 1)) q02 (pF q05 0 (muN q02 1)) q01 (pF q04 0 (muN q01 1)))) (k_ 0 0 0 Bool.false [] [] []) (grd (zf6 q06 (pF q09 0 (muN q06 1)) q07 (pF q0a 0 (muN q07 1)) q08 (pF q0b 0 (muN q08 1))) (br (bnot (zd9 q06 (pF q09 0 (muN q06 1)) q07 (pF q0a 0 (muN q07 1)) q08 (pF q0b 0 (muN q08 1)))) (k_ 0 0 0 Bool.false [] [] []) (br (neI (Int.ofNat q00) (Int.ofNat q06)) (k_ 0 0 0 Bool.false [] [] []) (grd (z85 x2) (br (bnot (z7i x2)) (k_ 0 0 0 Bool.false [] [] []) (grd zg9 (grd (z8d x2 q03 q05 q04 q09 q0a q0b q00 q02 q01 q06 q07 q08 0 0 0 0 z3i z3j z3h) (br (z8b x2 q03 q05 q04 q09 q0a q0b q00 q02 q01 q06 q07 q08 0 0 0 0 z3i z3j z3h) (k_ 0 0 0 Bool.false [] [] []) (grd (zf6 (z5v x2 q03 q05 q04 q09 q0a q0b q00 q02 q01 q06 q07 q08 0 0 0 0 z3i z3j z3h) (pF (z7j x2 q03 q05 q04 q09 q0a q0b q00 q02 q01 q06 q07 q08 0 0 0 0 z3i z3j z3h) 0 (muN (z5v x2 q03 q05 q04 q09 q0a q0b q00 q02 q01 q06 q07 q08 0 0 0 0 z3i z3j z3h) 1)) (z5w x2 q03 q05 q04 q09 q0a q0b q00 q02 q01 q06 q07 q08 0 0 0 0 z3i z3j z3h) (pF (z7p x2 q03 q05 q04 q09 q0a q0b q00 q02 q01 q06 q07 q08 0 0 0 0 z3i z3j z3h) 0 (muN (z5w x2 q03 q05 q04 q09 q0a q0b q00 q02 q01 q06 q07 q08 0 0 0 0 z3i z3j z3h) 1)) (z5u x2 q03 q05 q04 q09 q0a q0b q00 q02 q01 q06 q07 q08 0 0 0 0 z3i z3j z3h) (pF (z7l x2 q03 q05 q04 q09 q0a q0b q00 q02 q01 q06 q07 q08 0 0 0 0 z3i z3j z3h) 0 (muN (z5u x2 q03 q05 q04 q09 q0a q0b q00 q02 q01 q06 q07 q08 0 0 0 0 z3i z3j z3h) 1))) (br (bnot (zd9 (z5v x2 q03 q05 q04 q09 q0a q0b q00 q02 q01 q06 q07 q08 0 0 0 0 z3i z3j z3h) (pF (z7j x2 q03 q05 q04 q09 q0a q0b q00 q02 q01 q06 q07 q08 0 0 0 0 z3i z3j z3h) 0 (muN (z5v x2 q03 q05 q04 q09 q0a q0b q00 q02 q01 q06 q07 q08 0 0 0 0 z3i z3j z3h) 1)) (z5w x2 q03 q05 q04 q09 q0a q0b q00 q02 q01 q06 q07 q08 0 0 0 0 z3i z3j z3h) (pF (z7p x2 q03 q05 q04 q09 q0a q0b q00 q02 q01 q06 q07 q08 0 0 0 0 z3i z3j z3h) 0 (muN (z5w x2 q03 q05 q04 q09 q0a q0b q00 q02 q01 q06 q07 q08 0 0 0 0 z3i z3j z3h) 1)) (z5u x2 q03 q05 q04 q09 q0a q0b q00 q02 q01 q06 q07 q08 0 0 0 0 z3i z3j z3h) (pF (z7l x2 q03 q05 q04 q09 q0a q0b q00 q02 q01 q06 q07 q08 0 0 0 0 z3i z3j z3h) 0 (muN (z5u x2 q03 q05 q04 q09 q0a q0b q00 q02 q01 q06 q07 q08 0 0 0 0 z3i z3j z3h) 1)))) (k_ 0 0 0 Bool.false [] [] []) (k_ (z5v x2 q03 q05 q04 q09 q0a q0b q00 q02 q01 q06 q07 q08 0 0 0 0 z3i z3j z3h) (z5w x2 q03 q05 q04 q09 q0a q0b q00 q02 q01 q06 q07 q08 0 0 0 0 z3i z3j z3h) (z5u x2 q03 q05 q04 q09 q0a q0b q00 q02 q01 q06 q07 q08 0 0 0 0 z3i z3j z3h) Bool.true (z7j x2 q03 q05 q04 q09 q0a q0b q00 q02 q01 q06 q07 q08 0 0 0 0 z3i z3j z3h) (z7p x2 q03 q05 q04 q09 q0a q0b q00 q02 q01 q06 q07 q08 0 0 0 0 z3i z3j z3h) (z7l x2 q03 q05 q04 q09 q0a q0b q00 q02 q01 q06 q07 q08 0 0 0 0 z3i z3j z3h))))))))))))))
noncomputable def z57 (q00 : Nat) (q03 : List Nat) (q02 : Nat) (q05 : List Nat) (q01 : Nat) (q04 : List Nat) (q06 : Nat) (q09 : List Nat) (q07 : Nat) (q0a : List Nat) (q08 : Nat) (q0b : List Nat) (x2 : Nat) : Option (Nat × Nat × Nat × Bool × (List Nat) × (List Nat) × (List Nat)) := z9s q00 q03 q02 q05 q01 q04 q06 q09 q07 q0a q08 q0b x2 (fun c0_ c1_ c2_ c3_ c4_ c5_ c6_ => some (c0_, c1_, c2_, c3_, c4_, c5_, c6_))
theorem zhz {R R' : Type} (o : Option R → Option R') (h0 : o none = none) (q00 : Nat) (q03 : List Nat) (q02 : Nat) (q05 : List Nat) (q01 : Nat) (q04 : List Nat) (q06 : Nat) (q09 : List Nat) (q07 : Nat) (q0a : List Nat) (q08 : Nat) (q0b : List Nat) (x2 : Nat) (k_ : Nat → Nat → Nat → Bool → (List Nat) → (List Nat) → (List Nat) → Option R) : z9s q00 q03 q02 q05 q01 q04 q06 q09 q07 q0a q08 q0b x2 (fun c0_ c1_ c2_ c3_ c4_ c5_ c6_ => o (k_ c0_ c1_ c2_ c3_ c4_ c5_ c6_)) = o (z9s q00 q03 q02 q05 q01 q04 q06 q09 q07 q0a q08 q0b x2 k_) := by
  unfold z9s
  repeat (first | refine grd_out h0 ?_ | refine br_out ?_ ?_ | rfl | exact h0.symm)
noncomputable def zdb (q00 : Nat) (q03 : List Nat) (q02 : Nat) (q05 : List Nat) (q01 : Nat) (q04 : List Nat) (q06 : Nat) (q09 : List Nat) (q07 : Nat) (q0a : List Nat) (q08 : Nat) (q0b : List Nat) (x2 : Nat) : Bool := (z57 q00 q03 q02 q05 q01 q04 q06 q09 q07 q0a q08 q0b x2).isSome
noncomputable def zcj (q00 : Nat) (q03 : List Nat) (q02 : Nat) (q05 : List Nat) (q01 : Nat) (q04 : List Nat) (q06 : Nat) (q09 : List Nat) (q07 : Nat) (q0a : List Nat) (q08 : Nat) (q0b : List Nat) (x2 : Nat) : Nat := ((z57 q00 q03 q02 q05 q01 q04 q06 q09 q07 q0a q08 q0b x2).getD default).1
noncomputable def zck (q00 : Nat) (q03 : List Nat) (q02 : Nat) (q05 : List Nat) (q01 : Nat) (q04 : List Nat) (q06 : Nat) (q09 : List Nat) (q07 : Nat) (q0a : List Nat) (q08 : Nat) (q0b : List Nat) (x2 : Nat) : Nat := ((z57 q00 q03 q02 q05 q01 q04 q06 q09 q07 q0a q08 q0b x2).getD default).2.1
noncomputable def zco (q00 : Nat) (q03 : List Nat) (q02 : Nat) (q05 : List Nat) (q01 : Nat) (q04 : List Nat) (q06 : Nat) (q09 : List Nat) (q07 : Nat) (q0a : List Nat) (q08 : Nat) (q0b : List Nat) (x2 : Nat) : Nat := ((z57 q00 q03 q02 q05 q01 q04 q06 q09 q07 q0a q08 q0b x2).getD default).2.2.1
noncomputable def zcg (q00 : Nat) (q03 : List Nat) (q02 : Nat) (q05 : List Nat) (q01 : Nat) (q04 : List Nat) (q06 : Nat) (q09 : List Nat) (q07 : Nat) (q0a : List Nat) (q08 : Nat) (q0b : List Nat) (x2 : Nat) : Bool := ((z57 q00 q03 q02 q05 q01 q04 q06 q09 q07 q0a q08 q0b x2).getD default).2.2.2.1
noncomputable def zcr (q00 : Nat) (q03 : List Nat) (q02 : Nat) (q05 : List Nat) (q01 : Nat) (q04 : List Nat) (q06 : Nat) (q09 : List Nat) (q07 : Nat) (q0a : List Nat) (q08 : Nat) (q0b : List Nat) (x2 : Nat) : List Nat := ((z57 q00 q03 q02 q05 q01 q04 q06 q09 q07 q0a q08 q0b x2).getD default).2.2.2.2.1
noncomputable def zci (q00 : Nat) (q03 : List Nat) (q02 : Nat) (q05 : List Nat) (q01 : Nat) (q04 : List Nat) (q06 : Nat) (q09 : List Nat) (q07 : Nat) (q0a : List Nat) (q08 : Nat) (q0b : List Nat) (x2 : Nat) : List Nat := ((z57 q00 q03 q02 q05 q01 q04 q06 q09 q07 q0a q08 q0b x2).getD default).2.2.2.2.2.1
noncomputable def zcn (q00 : Nat) (q03 : List Nat) (q02 : Nat) (q05 : List Nat) (q01 : Nat) (q04 : List Nat) (q06 : Nat) (q09 : List Nat) (q07 : Nat) (q0a : List Nat) (q08 : Nat) (q0b : List Nat) (x2 : Nat) : List Nat := ((z57 q00 q03 q02 q05 q01 q04 q06 q09 q07 q0a q08 q0b x2).getD default).2.2.2.2.2.2
theorem zj7 {q00 : Nat} {q03 : List Nat} {q02 : Nat} {q05 : List Nat} {q01 : Nat} {q04 : List Nat} {q06 : Nat} {q09 : List Nat} {q07 : Nat} {q0a : List Nat} {q08 : Nat} {q0b : List Nat} {x2 : Nat} {r : Nat × Nat × Nat × Bool × (List Nat) × (List Nat) × (List Nat)} (h : z57 q00 q03 q02 q05 q01 q04 q06 q09 q07 q0a q08 q0b x2 = some r) : zdb q00 q03 q02 q05 q01 q04 q06 q09 q07 q0a q08 q0b x2 = true ∧ zcj q00 q03 q02 q05 q01 q04 q06 q09 q07 q0a q08 q0b x2 = r.1 ∧ zck q00 q03 q02 q05 q01 q04 q06 q09 q07 q0a q08 q0b x2 = r.2.1 ∧ zco q00 q03 q02 q05 q01 q04 q06 q09 q07 q0a q08 q0b x2 = r.2.2.1 ∧ zcg q00 q03 q02 q05 q01 q04 q06 q09 q07 q0a q08 q0b x2 = r.2.2.2.1 ∧ zcr q00 q03 q02 q05 q01 q04 q06 q09 q07 q0a q08 q0b x2 = r.2.2.2.2.1 ∧ zci q00 q03 q02 q05 q01 q04 q06 q09 q07 q0a q08 q0b x2 = r.2.2.2.2.2.1 ∧ zcn q00 q03 q02 q05 q01 q04 q06 q09 q07 q0a q08 q0b x2 = r.2.2.2.2.2.2 := by
  unfold zdb zcj zck zco zcg zcr zci zcn
  rw [h]
  exact ⟨rfl, rfl, rfl, rfl, rfl, rfl, rfl, rfl⟩
noncomputable def z5d {R : Type} (q1k : Nat) (t43 : Int) (b0 : List Nat) (q12 : Nat) (t44 : Int) (kn_ : Int → Option R) (k0_ : Unit → Option R) (k1_ : Int → Bool → Option R) : Option R := (br (ltI t44 t43) (grd (okIx t44 q1k) (grd (zfu (gF b0 (ixO 0 t44 1)) 3204448256 1056964608) (br (bnot (zfh (gF b0 (ixO 0 t44 1)) 3204448256 1056964608)) (k0_ ()) (br (ltI 0 t44) (grd (okIx (subI IntKind.i64 t44 1) q12) (br (fcmp BinOp.geq FloatKind.f32 (gF b0 (ixO 0 (subI IntKind.i64 t44 1) 1)) (gF b0 (ixO 0 t44 1))) (k0_ ()) (kn_ (addI IntKind.i64 t44 1)))) (kn_ (addI IntKind.i64 t44 1)))))) (k1_ t44 (ltI t44 t43)))
theorem zgt {R R' : Type} (o : Option R → Option R') (h0 : o none = none) (q1k : Nat) (t43 : Int) (b0 : List Nat) (q12 : Nat) (t44 : Int) (kn_ : Int → Option R) (k0_ : Unit → Option R) (k1_ : Int → Bool → Option R) : z5d q1k t43 b0 q12 t44 (fun t44' => o (kn_ t44')) (fun _ => o (k0_ ())) (fun c0_ c1_ => o (k1_ c0_ c1_)) = o (z5d q1k t43 b0 q12 t44 kn_ k0_ k1_) := by
  unfold z5d
  repeat (first | refine grd_out h0 ?_ | refine br_out ?_ ?_ | rfl | exact h0.symm)
noncomputable def z42 (q1k : Nat) (t43 : Int) (b0 : List Nat) (q12 : Nat) : Nat → Int → Option ((Unit) ⊕ (Int × Bool))
  | 0, _ => none
  | n + 1, t44 => z5d q1k t43 b0 q12  t44  (fun t44' => z42 q1k t43 b0 q12 n t44') (fun _ => some (Sum.inl ())) (fun c0_ c1_ => some (Sum.inr (c0_, c1_)))
theorem zfd (q1k : Nat) (t43 : Int) (b0 : List Nat) (q12 : Nat) (n : Nat) (t44 : Int) : z42 q1k t43 b0 q12 (n + 1) t44 = z5d q1k t43 b0 q12  t44  (fun t44' => z42 q1k t43 b0 q12 n t44') (fun _ => some (Sum.inl ())) (fun c0_ c1_ => some (Sum.inr (c0_, c1_))) := rfl
noncomputable def z7f (q1k : Nat) (t43 : Int) (b0 : List Nat) (q12 : Nat) (t44 : Int) : Bool := (z42 q1k t43 b0 q12 big t44).isSome
noncomputable def z74 (q1k : Nat) (t43 : Int) (b0 : List Nat) (q12 : Nat) (t44 : Int) : Bool := oL (z42 q1k t43 b0 q12 big t44)
noncomputable def zbj (q1k : Nat) (t43 : Int) (b0 : List Nat) (q12 : Nat) (t44 : Int) : Int := ((tR (z42 q1k t43 b0 q12 big t44)).getD default).1
noncomputable def zbk (q1k : Nat) (t43 : Int) (b0 : List Nat) (q12 : Nat) (t44 : Int) : Bool := ((tR (z42 q1k t43 b0 q12 big t44)).getD default).2
theorem zh7 {q1k : Nat} {t43 : Int} {b0 : List Nat} {q12 : Nat} {t44 : Int} {m : Nat} {r : Unit} (hm : m = big) (h : z42 q1k t43 b0 q12 m t44 = some (Sum.inl r)) : z7f q1k t43 b0 q12 t44 = true ∧ z74 q1k t43 b0 q12 t44 = true := by
  subst hm
  unfold z7f z74
  rw [h]
  exact ⟨rfl, rfl⟩
theorem zhi {q1k : Nat} {t43 : Int} {b0 : List Nat} {q12 : Nat} {t44 : Int} {m : Nat} {r : Int × Bool} (hm : m = big) (h : z42 q1k t43 b0 q12 m t44 = some (Sum.inr r)) : z7f q1k t43 b0 q12 t44 = true ∧ z74 q1k t43 b0 q12 t44 = false ∧ zbj q1k t43 b0 q12 t44 = r.1 ∧ zbk q1k t43 b0 q12 t44 = r.2 := by
  subst hm
  unfold z7f z74 zbj zbk
  rw [h]
  exact ⟨rfl, rfl, rfl, rfl⟩
noncomputable def z9a {R : Type} (q00 : Nat) (q03 : List Nat) (q02 : Nat) (q05 : List Nat) (q01 : Nat) (q04 : List Nat) (k_ : Bool → Option R) : Option R := (br (ltI (Int.ofNat q00) 2) (k_ Bool.false) (br (ltI 24 (Int.ofNat q00)) (k_ Bool.false) (br (neI (Int.ofNat q02) (Int.ofNat q00)) (k_ Bool.false) (br (neI (Int.ofNat q01) (Int.ofNat q00)) (k_ Bool.false) (grd (zfi q02 (pF q05 0 (muN q02 1))) (br (bnot (zeq q02 (pF q05 0 (muN q02 1)))) (k_ Bool.false) (grd (zfs q01 (pF q04 0 (muN q01 1))) (br (bnot (zfg q01 (pF q04 0 (muN q01 1)))) (k_ Bool.false) (grd (z7f q00 (Int.ofNat q00) q03 q00 0) (br (z74 q00 (Int.ofNat q00) q03 q00 0) (k_ Bool.false) (k_ Bool.true)))))))))))
noncomputable def z9d (q00 : Nat) (q03 : List Nat) (q02 : Nat) (q05 : List Nat) (q01 : Nat) (q04 : List Nat) : Option (Bool) := z9a q00 q03 q02 q05 q01 q04 (fun c0_ => some c0_)
theorem zho {R R' : Type} (o : Option R → Option R') (h0 : o none = none) (q00 : Nat) (q03 : List Nat) (q02 : Nat) (q05 : List Nat) (q01 : Nat) (q04 : List Nat) (k_ : Bool → Option R) : z9a q00 q03 q02 q05 q01 q04 (fun c0_ => o (k_ c0_)) = o (z9a q00 q03 q02 q05 q01 q04 k_) := by
  unfold z9a
  repeat (first | refine grd_out h0 ?_ | refine br_out ?_ ?_ | rfl | exact h0.symm)
noncomputable def z9e (q00 : Nat) (q03 : List Nat) (q02 : Nat) (q05 : List Nat) (q01 : Nat) (q04 : List Nat) : Bool := (z9d q00 q03 q02 q05 q01 q04).isSome
noncomputable def z8h (q00 : Nat) (q03 : List Nat) (q02 : Nat) (q05 : List Nat) (q01 : Nat) (q04 : List Nat) : Bool := ((z9d q00 q03 q02 q05 q01 q04).getD default)
theorem zfk {q00 : Nat} {q03 : List Nat} {q02 : Nat} {q05 : List Nat} {q01 : Nat} {q04 : List Nat} {r : Bool} (h : z9d q00 q03 q02 q05 q01 q04 = some r) : z9e q00 q03 q02 q05 q01 q04 = true ∧ z8h q00 q03 q02 q05 q01 q04 = r := by
  unfold z9e z8h
  rw [h]
  exact ⟨rfl, rfl⟩
noncomputable def z63 {R : Type} (t2 : Nat) (t36 : Int) (b1 : List Nat) (b2 : List Nat) (b4 : List Nat) (b5 : List Nat) (q0d : Nat) (q0e : Nat) (q0g : Nat) (q0f : Nat) (q11 : Nat) (q10 : Nat) (t37 : Int) (b11 : List Nat) (b12 : List Nat) (kn_ : Int → (List Nat) → (List Nat) → Option R) (k0_ : Int → Bool → (List Nat) → (List Nat) → Option R) : Option R := (br (ltI t37 t36) (grd (okIx t37 q0d) (grd (okIx t37 q0g) (grd (zg3 (gF b1 (ixO 0 t37 1)) (gF b4 (ixO 0 t37 1)) t2) (grd (okIx t37 q0e) (grd (okIx t37 q0f) (grd (zg3 (gF b2 (ixO 0 t37 1)) (gF b5 (ixO 0 t37 1)) t2) (grd (okIx t37 q11) (grd (okIx t37 q10) (kn_ (addI IntKind.i64 t37 1) (sF b11 (ixO 0 t37 1) (zfl (gF b1 (ixO 0 t37 1)) (gF b4 (ixO 0 t37 1)) t2)) (sF b12 (ixO 0 t37 1) (zfl (gF b2 (ixO 0 t37 1)) (gF b5 (ixO 0 t37 1)) t2))))))))))) (k0_ t37 (ltI t37 t36) b11 b12))
theorem zh3 {R R' : Type} (o : Option R → Option R') (h0 : o none = none) (t2 : Nat) (t36 : Int) (b1 : List Nat) (b2 : List Nat) (b4 : List Nat) (b5 : List Nat) (q0d : Nat) (q0e : Nat) (q0g : Nat) (q0f : Nat) (q11 : Nat) (q10 : Nat) (t37 : Int) (b11 : List Nat) (b12 : List Nat) (kn_ : Int → (List Nat) → (List Nat) → Option R) (k0_ : Int → Bool → (List Nat) → (List Nat) → Option R) : z63 t2 t36 b1 b2 b4 b5 q0d q0e q0g q0f q11 q10 t37 b11 b12 (fun t37' b11' b12' => o (kn_ t37' b11' b12')) (fun c0_ c1_ c2_ c3_ => o (k0_ c0_ c1_ c2_ c3_)) = o (z63 t2 t36 b1 b2 b4 b5 q0d q0e q0g q0f q11 q10 t37 b11 b12 kn_ k0_) := by
  unfold z63
  repeat (first | refine grd_out h0 ?_ | refine br_out ?_ ?_ | rfl | exact h0.symm)
noncomputable def z3o (t2 : Nat) (t36 : Int) (b1 : List Nat) (b2 : List Nat) (b4 : List Nat) (b5 : List Nat) (q0d : Nat) (q0e : Nat) (q0g : Nat) (q0f : Nat) (q11 : Nat) (q10 : Nat) : Nat → Int → (List Nat) → (List Nat) → Option ((Int × Bool × (List Nat) × (List Nat)))
  | 0, _, _, _ => none
  | n + 1, t37, b11, b12 => z63 t2 t36 b1 b2 b4 b5 q0d q0e q0g q0f q11 q10  t37 b11 b12  (fun t37' b11' b12' => z3o t2 t36 b1 b2 b4 b5 q0d q0e q0g q0f q11 q10 n t37' b11' b12') (fun c0_ c1_ c2_ c3_ => some (c0_, c1_, c2_, c3_))
theorem zfm (t2 : Nat) (t36 : Int) (b1 : List Nat) (b2 : List Nat) (b4 : List Nat) (b5 : List Nat) (q0d : Nat) (q0e : Nat) (q0g : Nat) (q0f : Nat) (q11 : Nat) (q10 : Nat) (n : Nat) (t37 : Int) (b11 : List Nat) (b12 : List Nat) : z3o t2 t36 b1 b2 b4 b5 q0d q0e q0g q0f q11 q10 (n + 1) t37 b11 b12 = z63 t2 t36 b1 b2 b4 b5 q0d q0e q0g q0f q11 q10  t37 b11 b12  (fun t37' b11' b12' => z3o t2 t36 b1 b2 b4 b5 q0d q0e q0g q0f q11 q10 n t37' b11' b12') (fun c0_ c1_ c2_ c3_ => some (c0_, c1_, c2_, c3_)) := rfl
noncomputable def zaw (t2 : Nat) (t36 : Int) (b1 : List Nat) (b2 : List Nat) (b4 : List Nat) (b5 : List Nat) (q0d : Nat) (q0e : Nat) (q0g : Nat) (q0f : Nat) (q11 : Nat) (q10 : Nat) (t37 : Int) (b11 : List Nat) (b12 : List Nat) : Bool := (z3o t2 t36 b1 b2 b4 b5 q0d q0e q0g q0f q11 q10 big t37 b11 b12).isSome
noncomputable def zc3 (t2 : Nat) (t36 : Int) (b1 : List Nat) (b2 : List Nat) (b4 : List Nat) (b5 : List Nat) (q0d : Nat) (q0e : Nat) (q0g : Nat) (q0f : Nat) (q11 : Nat) (q10 : Nat) (t37 : Int) (b11 : List Nat) (b12 : List Nat) : Int := ((z3o t2 t36 b1 b2 b4 b5 q0d q0e q0g q0f q11 q10 big t37 b11 b12).getD default).1
noncomputable def zbz (t2 : Nat) (t36 : Int) (b1 : List Nat) (b2 : List Nat) (b4 : List Nat) (b5 : List Nat) (q0d : Nat) (q0e : Nat) (q0g : Nat) (q0f : Nat) (q11 : Nat) (q10 : Nat) (t37 : Int) (b11 : List Nat) (b12 : List Nat) : Bool := ((z3o t2 t36 b1 b2 b4 b5 q0d q0e q0g q0f q11 q10 big t37 b11 b12).getD default).2.1
noncomputable def z7k (t2 : Nat) (t36 : Int) (b1 : List Nat) (b2 : List Nat) (b4 : List Nat) (b5 : List Nat) (q0d : Nat) (q0e : Nat) (q0g : Nat) (q0f : Nat) (q11 : Nat) (q10 : Nat) (t37 : Int) (b11 : List Nat) (b12 : List Nat) : List Nat := ((z3o t2 t36 b1 b2 b4 b5 q0d q0e q0g q0f q11 q10 big t37 b11 b12).getD default).2.2.1
noncomputable def z7n (t2 : Nat) (t36 : Int) (b1 : List Nat) (b2 : List Nat) (b4 : List Nat) (b5 : List Nat) (q0d : Nat) (q0e : Nat) (q0g : Nat) (q0f : Nat) (q11 : Nat) (q10 : Nat) (t37 : Int) (b11 : List Nat) (b12 : List Nat) : List Nat := ((z3o t2 t36 b1 b2 b4 b5 q0d q0e q0g q0f q11 q10 big t37 b11 b12).getD default).2.2.2
theorem zhm {t2 : Nat} {t36 : Int} {b1 : List Nat} {b2 : List Nat} {b4 : List Nat} {b5 : List Nat} {q0d : Nat} {q0e : Nat} {q0g : Nat} {q0f : Nat} {q11 : Nat} {q10 : Nat} {t37 : Int} {b11 : List Nat} {b12 : List Nat} {m : Nat} {r : Int × Bool × (List Nat) × (List Nat)} (hm : m = big) (h : z3o t2 t36 b1 b2 b4 b5 q0d q0e q0g q0f q11 q10 m t37 b11 b12 = some r) : zaw t2 t36 b1 b2 b4 b5 q0d q0e q0g q0f q11 q10 t37 b11 b12 = true ∧ zc3 t2 t36 b1 b2 b4 b5 q0d q0e q0g q0f q11 q10 t37 b11 b12 = r.1 ∧ zbz t2 t36 b1 b2 b4 b5 q0d q0e q0g q0f q11 q10 t37 b11 b12 = r.2.1 ∧ z7k t2 t36 b1 b2 b4 b5 q0d q0e q0g q0f q11 q10 t37 b11 b12 = r.2.2.1 ∧ z7n t2 t36 b1 b2 b4 b5 q0d q0e q0g q0f q11 q10 t37 b11 b12 = r.2.2.2 := by
  subst hm
  unfold zaw zc3 zbz z7k z7n
  rw [h]
  exact ⟨rfl, rfl, rfl, rfl, rfl⟩
noncomputable def z9q {R : Type} (q00 : Nat) (q03 : List Nat) (q02 : Nat) (q05 : List Nat) (q01 : Nat) (q04 : List Nat) (q06 : Nat) (q09 : List Nat) (q07 : Nat) (q0a : List Nat) (q08 : Nat) (q0b : List Nat) (x2 : Nat) (k_ : Nat → Nat → Nat → Bool → (List Nat) → (List Nat) → (List Nat) → Option R) : Option R := (grd (z9e q00 (pF q03 0 (muN q00 1)) q02 (pF q05 0 (muN q02 1)) q01 (pF q04 0 (muN q01 1))) (br (bnot (z8h q00 (pF q03 0 (muN q00 1)) q02 (pF q05 0 (muN q02 1)) q01 (pF q04 0 (muN q01 1)))) (k_ 0 0 0 Bool.false [] [] []) (grd (z9e q06 (pF q09 0 (muN q06 1)) q07 (pF q0a 0 (muN q07 1)) q08 (pF q0b 0 (muN q08 1))) (br (bnot (z8h q06 (pF q09 0 (muN q06 1)) q07 (pF q0a 0 (muN q07 1)) q08 (pF q0b 0 (muN q08 1)))) (k_ 0 0 0 Bool.false [] [] []) (grd (zb2 x2) (br (bnot (zan x2)) (k_ 0 0 0 Bool.false [] [] []) (grd (zag q00 (pF q03 0 (muN q00 1)) q06 (pF q09 0 (muN q06 1))) (br (bnot (za0 q00 (pF q03 0 (muN q00 1)) q06 (pF q09 0 (muN q06 1)))) (k_ 0 0 0 Bool.false [] [] []) (grd (zda q00 (pF q03 0 (muN q00 1)) q02 (pF q05 0 (muN q02 1)) q01 (pF q04 0 (muN q01 1))) (grd (zaw x2 (Int.ofNat (z44 q00 (pF q03 0 (muN q00 1)) q02 (pF q05 0 (muN q02 1)) q01 (pF q04 0 (muN q01 1)))) q05 q04 q0a q0b q02 q01 q07 q08 (z46 q00 (pF q03 0 (muN q00 1)) q02 (pF q05 0 (muN q02 1)) q01 (pF q04 0 (muN q01 1))) (z45 q00 (pF q03 0 (muN q00 1)) q02 (pF q05 0 (muN q02 1)) q01 (pF q04 0 (muN q01 1))) 0 (z67 q00 (pF q03 0 (muN q00 1)) q02 (pF q05 0 (muN q02 1)) q01 (pF q04 0 (muN q01 1))) (z66 q00 (pF q03 0 (muN q00 1)) q02 (pF q05 0 (muN q02 1)) q01 (pF q04 0 (muN q01 1)))) (grd (z9e (z44 q00 (pF q03 0 (muN q00 1)) q02 (pF q05 0 (muN q02 1)) q01 (pF q04 0 (muN q01 1))) (pF (z9c q00 (pF q03 0 (muN q00 1)) q02 (pF q05 0 (muN q02 1)) q01 (pF q04 0 (muN q01 1))) 0 (muN (z44 q00 (pF q03 0 (muN q00 1)) q02 (pF q05 0 (muN q02 1)) q01 (pF q04 0 (muN q01 1))) 1)) (z46 q00 (pF q03 0 (muN q00 1)) q02 (pF q05 0 (muN q02 1)) q01 (pF q04 0 (muN q01 1))) (pF (z7k x2 (Int.ofNat (z44 q00 (pF q03 0 (muN q00 1)) q02 (pF q05 0 (muN q02 1)) q01 (pF q04 0 (muN q01 1)))) q05 q04 q0a q0b q02 q01 q07 q08 (z46 q00 (pF q03 0 (muN q00 1)) q02 (pF q05 0 (muN q02 1)) q01 (pF q04 0 (muN q01 1))) (z45 q00 (pF q03 0 (muN q00 1)) q02 (pF q05 0 (muN q02 1)) q01 (pF q04 0 (muN q01 1))) 0 (z67 q00 (pF q03 0 (muN q00 1)) q02 (pF q05 0 (muN q02 1)) q01 (pF q04 0 (muN q01 1))) (z66 q00 (pF q03 0 (muN q00 1)) q02 (pF q05 0 (muN q02 1)) q01 (pF q04 0 (muN q01 1)))) 0 (muN (z46 q00 (pF q03 0 (muN q00 1)) q02 (pF q05 0 (muN q02 1)) q01 (pF q04 0 (muN q01 1))) 1)) (z45 q00 (pF q03 0 (muN q00 1)) q02 (pF q05 0 (muN q02 1)) q01 (pF q04 0 (muN q01 1))) (pF (z7n x2 (Int.ofNat (z44 q00 (pF q03 0 (muN q00 1)) q02 (pF q05 0 (muN q02 1)) q01 (pF q04 0 (muN q01 1)))) q05 q04 q0a q0b q02 q01 q07 q08 (z46 q00 (pF q03 0 (muN q00 1)) q02 (pF q05 0 (muN q02 1)) q01 (pF q04 0 (muN q01 1))) (z45 q00 (pF q03 0 (muN q00 1)) q02 (pF q05 0 (muN q02 1)) q01 (pF q04 0 (muN q01 1))) 0 (z67 q00 (pF q03 0 (muN q00 1)) q02 (pF q05 0 (muN q02 1)) q01 (pF q04 0 (muN q01 1))) (z66 q00 (pF q03 0 (muN q00 1)) q02 (pF q05 0 (muN q02 1)) q01 (pF q04 0 (muN q01 1)))) 0 (muN (z45 q00 (pF q03 0 (muN q00 1)) q02 (pF q05 0 (muN q02 1)) q01 (pF q04 0 (muN q01 1))) 1))) (br (bnot (z8h (z44 q00 (pF q03 0 (muN q00 1)) q02 (pF q05 0 (muN q02 1)) q01 (pF q04 0 (muN q01 1))) (pF (z9c q00 (pF q03 0 (muN q00 1)) q02 (pF q05 0 (muN q02 1)) q01 (pF q04 0 (muN q01 1))) 0 (muN (z44 q00 (pF q03 0 (muN q00 1)) q02 (pF q05 0 (muN q02 1)) q01 (pF q04 0 (muN q01 1))) 1)) (z46 q00 (pF q03 0 (muN q00 1)) q02 (pF q05 0 (muN q02 1)) q01 (pF q04 0 (muN q01 1))) (pF (z7k x2 (Int.ofNat (z44 q00 (pF q03 0 (muN q00 1)) q02 (pF q05 0 (muN q02 1)) q01 (pF q04 0 (muN q01 1)))) q05 q04 q0a q0b q02 q01 q07 q08 (z46 q00 (pF q03 0 (muN q00 1)) q02 (pF q05 0 (muN q02 1)) q01 (pF q04 0 (muN q01 1))) (z45 q00 (pF q03 0 (muN q00 1)) q02 (pF q05 0 (muN q02 1)) q01 (pF q04 0 (muN q01 1))) 0 (z67 q00 (pF q03 0 (muN q00 1)) q02 (pF q05 0 (muN q02 1)) q01 (pF q04 0 (muN q01 1))) (z66 q00 (pF q03 0 (muN q00 1)) q02 (pF q05 0 (muN q02 1)) q01 (pF q04 0 (muN q01 1)))) 0 (muN (z46 q00 (pF q03 0 (muN q00 1)) q02 (pF q05 0 (muN q02 1)) q01 (pF q04 0 (muN q01 1))) 1)) (z45 q00 (pF q03 0 (muN q00 1)) q02 (pF q05 0 (muN q02 1)) q01 (pF q04 0 (muN q01 1))) (pF (z7n x2 (Int.ofNat (z44 q00 (pF q03 0 (muN q00 1)) q02 (pF q05 0 (muN q02 1)) q01 (pF q04 0 (muN q01 1)))) q05 q04 q0a q0b q02 q01 q07 q08 (z46 q00 (pF q03 0 (muN q00 1)) q02 (pF q05 0 (muN q02 1)) q01 (pF q04 0 (muN q01 1))) (z45 q00 (pF q03 0 (muN q00 1)) q02 (pF q05 0 (muN q02 1)) q01 (pF q04 0 (muN q01 1))) 0 (z67 q00 (pF q03 0 (muN q00 1)) q02 (pF q05 0 (muN q02 1)) q01 (pF q04 0 (muN q01 1))) (z66 q00 (pF q03 0 (muN q00 1)) q02 (pF q05 0 (muN q02 1)) q01 (pF q04 0 (muN q01 1)))) 0 (muN (z45 q00 (pF q03 0 (muN q00 1)) q02 (pF q05 0 (muN q02 1)) q01 (pF q04 0 (muN q01 1))) 1)))) (k_ 0 0 0 Bool.false [] [] []) (k_ (z44 q00 (pF q03 0 (muN q00 1)) q02 (pF q05 0 (muN q02 1)) q01 (pF q04 0 (muN q01 1))) (z46 q00 (pF q03 0 (muN q00 1)) q02 (pF q05 0 (muN q02 1)) q01 (pF q04 0 (muN q01 1))) (z45 q00 (pF q03 0 (muN q00 1)) q02 (pF q05 0 (muN q02 1)) q01 (pF q04 0 (muN q01 1))) Bool.true (z9c q00 (pF q03 0 (muN q00 1)) q02 (pF q05 0 (muN q02 1)) q01 (pF q04 0 (muN q01 1))) (z7k x2 (Int.ofNat (z44 q00 (pF q03 0 (muN q00 1)) q02 (pF q05 0 (muN q02 1)) q01 (pF q04 0 (muN q01 1)))) q05 q04 q0a q0b q02 q01 q07 q08 (z46 q00 (pF q03 0 (muN q00 1)) q02 (pF q05 0 (muN q02 1)) q01 (pF q04 0 (muN q01 1))) (z45 q00 (pF q03 0 (muN q00 1)) q02 (pF q05 0 (muN q02 1)) q01 (pF q04 0 (muN q01 1))) 0 (z67 q00 (pF q03 0 (muN q00 1)) q02 (pF q05 0 (muN q02 1)) q01 (pF q04 0 (muN q01 1))) (z66 q00 (pF q03 0 (muN q00 1)) q02 (pF q05 0 (muN q02 1)) q01 (pF q04 0 (muN q01 1)))) (z7n x2 (Int.ofNat (z44 q00 (pF q03 0 (muN q00 1)) q02 (pF q05 0 (muN q02 1)) q01 (pF q04 0 (muN q01 1)))) q05 q04 q0a q0b q02 q01 q07 q08 (z46 q00 (pF q03 0 (muN q00 1)) q02 (pF q05 0 (muN q02 1)) q01 (pF q04 0 (muN q01 1))) (z45 q00 (pF q03 0 (muN q00 1)) q02 (pF q05 0 (muN q02 1)) q01 (pF q04 0 (muN q01 1))) 0 (z67 q00 (pF q03 0 (muN q00 1)) q02 (pF q05 0 (muN q02 1)) q01 (pF q04 0 (muN q01 1))) (z66 q00 (pF q03 0 (muN q00 1)) q02 (pF q05 0 (muN q02 1)) q01 (pF q04 0 (muN q01 1)))))))))))))))))
noncomputable def z55 (q00 : Nat) (q03 : List Nat) (q02 : Nat) (q05 : List Nat) (q01 : Nat) (q04 : List Nat) (q06 : Nat) (q09 : List Nat) (q07 : Nat) (q0a : List Nat) (q08 : Nat) (q0b : List Nat) (x2 : Nat) : Option (Nat × Nat × Nat × Bool × (List Nat) × (List Nat) × (List Nat)) := z9q q00 q03 q02 q05 q01 q04 q06 q09 q07 q0a q08 q0b x2 (fun c0_ c1_ c2_ c3_ c4_ c5_ c6_ => some (c0_, c1_, c2_, c3_, c4_, c5_, c6_))
theorem zhw {R R' : Type} (o : Option R → Option R') (h0 : o none = none) (q00 : Nat) (q03 : List Nat) (q02 : Nat) (q05 : List Nat) (q01 : Nat) (q04 : List Nat) (q06 : Nat) (q09 : List Nat) (q07 : Nat) (q0a : List Nat) (q08 : Nat) (q0b : List Nat) (x2 : Nat) (k_ : Nat → Nat → Nat → Bool → (List Nat) → (List Nat) → (List Nat) → Option R) : z9q q00 q03 q02 q05 q01 q04 q06 q09 q07 q0a q08 q0b x2 (fun c0_ c1_ c2_ c3_ c4_ c5_ c6_ => o (k_ c0_ c1_ c2_ c3_ c4_ c5_ c6_)) = o (z9q q00 q03 q02 q05 q01 q04 q06 q09 q07 q0a q08 q0b x2 k_) := by
  unfold z9q
  repeat (first | refine grd_out h0 ?_ | refine br_out ?_ ?_ | rfl | exact h0.symm)
noncomputable def zdr (q00 : Nat) (q03 : List Nat) (q02 : Nat) (q05 : List Nat) (q01 : Nat) (q04 : List Nat) (q06 : Nat) (q09 : List Nat) (q07 : Nat) (q0a : List Nat) (q08 : Nat) (q0b : List Nat) (x2 : Nat) : Bool := (z55 q00 q03 q02 q05 q01 q04 q06 q09 q07 q0a q08 q0b x2).isSome
noncomputable def zcp (q00 : Nat) (q03 : List Nat) (q02 : Nat) (q05 : List Nat) (q01 : Nat) (q04 : List Nat) (q06 : Nat) (q09 : List Nat) (q07 : Nat) (q0a : List Nat) (q08 : Nat) (q0b : List Nat) (x2 : Nat) : Nat := ((z55 q00 q03 q02 q05 q01 q04 q06 q09 q07 q0a q08 q0b x2).getD default).1
noncomputable def zcf (q00 : Nat) (q03 : List Nat) (q02 : Nat) (q05 : List Nat) (q01 : Nat) (q04 : List Nat) (q06 : Nat) (q09 : List Nat) (q07 : Nat) (q0a : List Nat) (q08 : Nat) (q0b : List Nat) (x2 : Nat) : Nat := ((z55 q00 q03 q02 q05 q01 q04 q06 q09 q07 q0a q08 q0b x2).getD default).2.1
noncomputable def zch (q00 : Nat) (q03 : List Nat) (q02 : Nat) (q05 : List Nat) (q01 : Nat) (q04 : List Nat) (q06 : Nat) (q09 : List Nat) (q07 : Nat) (q0a : List Nat) (q08 : Nat) (q0b : List Nat) (x2 : Nat) : Nat := ((z55 q00 q03 q02 q05 q01 q04 q06 q09 q07 q0a q08 q0b x2).getD default).2.2.1
noncomputable def zcd (q00 : Nat) (q03 : List Nat) (q02 : Nat) (q05 : List Nat) (q01 : Nat) (q04 : List Nat) (q06 : Nat) (q09 : List Nat) (q07 : Nat) (q0a : List Nat) (q08 : Nat) (q0b : List Nat) (x2 : Nat) : Bool := ((z55 q00 q03 q02 q05 q01 q04 q06 q09 q07 q0a q08 q0b x2).getD default).2.2.2.1
noncomputable def zcq (q00 : Nat) (q03 : List Nat) (q02 : Nat) (q05 : List Nat) (q01 : Nat) (q04 : List Nat) (q06 : Nat) (q09 : List Nat) (q07 : Nat) (q0a : List Nat) (q08 : Nat) (q0b : List Nat) (x2 : Nat) : List Nat := ((z55 q00 q03 q02 q05 q01 q04 q06 q09 q07 q0a q08 q0b x2).getD default).2.2.2.2.1
noncomputable def zce (q00 : Nat) (q03 : List Nat) (q02 : Nat) (q05 : List Nat) (q01 : Nat) (q04 : List Nat) (q06 : Nat) (q09 : List Nat) (q07 : Nat) (q0a : List Nat) (q08 : Nat) (q0b : List Nat) (x2 : Nat) : List Nat := ((z55 q00 q03 q02 q05 q01 q04 q06 q09 q07 q0a q08 q0b x2).getD default).2.2.2.2.2.1
noncomputable def zcl (q00 : Nat) (q03 : List Nat) (q02 : Nat) (q05 : List Nat) (q01 : Nat) (q04 : List Nat) (q06 : Nat) (q09 : List Nat) (q07 : Nat) (q0a : List Nat) (q08 : Nat) (q0b : List Nat) (x2 : Nat) : List Nat := ((z55 q00 q03 q02 q05 q01 q04 q06 q09 q07 q0a q08 q0b x2).getD default).2.2.2.2.2.2
theorem zj2 {q00 : Nat} {q03 : List Nat} {q02 : Nat} {q05 : List Nat} {q01 : Nat} {q04 : List Nat} {q06 : Nat} {q09 : List Nat} {q07 : Nat} {q0a : List Nat} {q08 : Nat} {q0b : List Nat} {x2 : Nat} {r : Nat × Nat × Nat × Bool × (List Nat) × (List Nat) × (List Nat)} (h : z55 q00 q03 q02 q05 q01 q04 q06 q09 q07 q0a q08 q0b x2 = some r) : zdr q00 q03 q02 q05 q01 q04 q06 q09 q07 q0a q08 q0b x2 = true ∧ zcp q00 q03 q02 q05 q01 q04 q06 q09 q07 q0a q08 q0b x2 = r.1 ∧ zcf q00 q03 q02 q05 q01 q04 q06 q09 q07 q0a q08 q0b x2 = r.2.1 ∧ zch q00 q03 q02 q05 q01 q04 q06 q09 q07 q0a q08 q0b x2 = r.2.2.1 ∧ zcd q00 q03 q02 q05 q01 q04 q06 q09 q07 q0a q08 q0b x2 = r.2.2.2.1 ∧ zcq q00 q03 q02 q05 q01 q04 q06 q09 q07 q0a q08 q0b x2 = r.2.2.2.2.1 ∧ zce q00 q03 q02 q05 q01 q04 q06 q09 q07 q0a q08 q0b x2 = r.2.2.2.2.2.1 ∧ zcl q00 q03 q02 q05 q01 q04 q06 q09 q07 q0a q08 q0b x2 = r.2.2.2.2.2.2 := by
  unfold zdr zcp zcf zch zcd zcq zce zcl
  rw [h]
  exact ⟨rfl, rfl, rfl, rfl, rfl, rfl, rfl, rfl⟩
noncomputable def z3z {R : Type} (an : Nat) (k : Int) (i : Int) (b13 : List Nat) (kn_ : Int → Int → (List Nat) → Option R) (k0_ : Int → Int → Bool → (List Nat) → Option R) : Option R := (br (ltI i (Int.ofNat an)) (grd (okIx i an) (kn_ (addI IntKind.i64 k 1) (addI IntKind.i64 i 1) (sF b13 (ixO 0 i 1) (fOI FloatKind.f32 k)))) (k0_ k i (ltI i (Int.ofNat an)) b13))
theorem zd2 {R R' : Type} (o : Option R → Option R') (h0 : o none = none) (an : Nat) (k : Int) (i : Int) (b13 : List Nat) (kn_ : Int → Int → (List Nat) → Option R) (k0_ : Int → Int → Bool → (List Nat) → Option R) : z3z an k i b13 (fun k' i' b13' => o (kn_ k' i' b13')) (fun c0_ c1_ c2_ c3_ => o (k0_ c0_ c1_ c2_ c3_)) = o (z3z an k i b13 kn_ k0_) := by
  unfold z3z
  repeat (first | refine grd_out h0 ?_ | refine br_out ?_ ?_ | rfl | exact h0.symm)
noncomputable def z2j (an : Nat) : Nat → Int → Int → (List Nat) → Option ((Int × Int × Bool × (List Nat)))
  | 0, _, _, _ => none
  | n + 1, k, i, b13 => z3z an  k i b13  (fun k' i' b13' => z2j an n k' i' b13') (fun c0_ c1_ c2_ c3_ => some (c0_, c1_, c2_, c3_))
theorem zcs (an : Nat) (n : Nat) (k : Int) (i : Int) (b13 : List Nat) : z2j an (n + 1) k i b13 = z3z an  k i b13  (fun k' i' b13' => z2j an n k' i' b13') (fun c0_ c1_ c2_ c3_ => some (c0_, c1_, c2_, c3_)) := rfl
noncomputable def z61 (an : Nat) (k : Int) (i : Int) (b13 : List Nat) : Bool := (z2j an big k i b13).isSome
noncomputable def z59 (an : Nat) (k : Int) (i : Int) (b13 : List Nat) : Int := ((z2j an big k i b13).getD default).1
noncomputable def z7b (an : Nat) (k : Int) (i : Int) (b13 : List Nat) : Int := ((z2j an big k i b13).getD default).2.1
noncomputable def z7c (an : Nat) (k : Int) (i : Int) (b13 : List Nat) : Bool := ((z2j an big k i b13).getD default).2.2.1
noncomputable def z79 (an : Nat) (k : Int) (i : Int) (b13 : List Nat) : List Nat := ((z2j an big k i b13).getD default).2.2.2
theorem ze5 {an : Nat} {k : Int} {i : Int} {b13 : List Nat} {m : Nat} {r : Int × Int × Bool × (List Nat)} (hm : m = big) (h : z2j an m k i b13 = some r) : z61 an k i b13 = true ∧ z59 an k i b13 = r.1 ∧ z7b an k i b13 = r.2.1 ∧ z7c an k i b13 = r.2.2.1 ∧ z79 an k i b13 = r.2.2.2 := by
  subst hm
  unfold z61 z59 z7b z7c z79
  rw [h]
  exact ⟨rfl, rfl, rfl, rfl, rfl⟩
noncomputable def z3u {R : Type} (an : Nat) (k : Int) (i : Int) (b14 : List Nat) (kn_ : Int → Int → (List Nat) → Option R) (k0_ : Int → Int → Bool → (List Nat) → Option R) : Option R := (br (ltI i (Int.ofNat an)) (grd (okIx i an) (kn_ (addI IntKind.i64 k 1) (addI IntKind.i64 i 1) (sF b14 (ixO 0 i 1) (fOI FloatKind.f32 k)))) (k0_ k i (ltI i (Int.ofNat an)) b14))
theorem zc9 {R R' : Type} (o : Option R → Option R') (h0 : o none = none) (an : Nat) (k : Int) (i : Int) (b14 : List Nat) (kn_ : Int → Int → (List Nat) → Option R) (k0_ : Int → Int → Bool → (List Nat) → Option R) : z3u an k i b14 (fun k' i' b14' => o (kn_ k' i' b14')) (fun c0_ c1_ c2_ c3_ => o (k0_ c0_ c1_ c2_ c3_)) = o (z3u an k i b14 kn_ k0_) := by
  unfold z3u
  repeat (first | refine grd_out h0 ?_ | refine br_out ?_ ?_ | rfl | exact h0.symm)
noncomputable def z1z (an : Nat) : Nat → Int → Int → (List Nat) → Option ((Int × Int × Bool × (List Nat)))
  | 0, _, _, _ => none
  | n + 1, k, i, b14 => z3u an  k i b14  (fun k' i' b14' => z1z an n k' i' b14') (fun c0_ c1_ c2_ c3_ => some (c0_, c1_, c2_, c3_))
theorem zbp (an : Nat) (n : Nat) (k : Int) (i : Int) (b14 : List Nat) : z1z an (n + 1) k i b14 = z3u an  k i b14  (fun k' i' b14' => z1z an n k' i' b14') (fun c0_ c1_ c2_ c3_ => some (c0_, c1_, c2_, c3_)) := rfl
noncomputable def z5c (an : Nat) (k : Int) (i : Int) (b14 : List Nat) : Bool := (z1z an big k i b14).isSome
noncomputable def z4z (an : Nat) (k : Int) (i : Int) (b14 : List Nat) : Int := ((z1z an big k i b14).getD default).1
noncomputable def z6j (an : Nat) (k : Int) (i : Int) (b14 : List Nat) : Int := ((z1z an big k i b14).getD default).2.1
noncomputable def z6k (an : Nat) (k : Int) (i : Int) (b14 : List Nat) : Bool := ((z1z an big k i b14).getD default).2.2.1
noncomputable def z6l (an : Nat) (k : Int) (i : Int) (b14 : List Nat) : List Nat := ((z1z an big k i b14).getD default).2.2.2
theorem zd4 {an : Nat} {k : Int} {i : Int} {b14 : List Nat} {m : Nat} {r : Int × Int × Bool × (List Nat)} (hm : m = big) (h : z1z an m k i b14 = some r) : z5c an k i b14 = true ∧ z4z an k i b14 = r.1 ∧ z6j an k i b14 = r.2.1 ∧ z6k an k i b14 = r.2.2.1 ∧ z6l an k i b14 = r.2.2.2 := by
  subst hm
  unfold z5c z4z z6j z6k z6l
  rw [h]
  exact ⟨rfl, rfl, rfl, rfl, rfl⟩
noncomputable def z3y {R : Type} (an : Nat) (k : Int) (i : Int) (b15 : List Nat) (kn_ : Int → Int → (List Nat) → Option R) (k0_ : Int → Int → Bool → (List Nat) → Option R) : Option R := (br (ltI i (Int.ofNat an)) (grd (okIx i an) (kn_ (addI IntKind.i64 k 1) (addI IntKind.i64 i 1) (sF b15 (ixO 0 i 1) (fOI FloatKind.f32 k)))) (k0_ k i (ltI i (Int.ofNat an)) b15))
theorem zc1 {R R' : Type} (o : Option R → Option R') (h0 : o none = none) (an : Nat) (k : Int) (i : Int) (b15 : List Nat) (kn_ : Int → Int → (List Nat) → Option R) (k0_ : Int → Int → Bool → (List Nat) → Option R) : z3y an k i b15 (fun k' i' b15' => o (kn_ k' i' b15')) (fun c0_ c1_ c2_ c3_ => o (k0_ c0_ c1_ c2_ c3_)) = o (z3y an k i b15 kn_ k0_) := by
  unfold z3y
  repeat (first | refine grd_out h0 ?_ | refine br_out ?_ ?_ | rfl | exact h0.symm)
noncomputable def z23 (an : Nat) : Nat → Int → Int → (List Nat) → Option ((Int × Int × Bool × (List Nat)))
  | 0, _, _, _ => none
  | n + 1, k, i, b15 => z3y an  k i b15  (fun k' i' b15' => z23 an n k' i' b15') (fun c0_ c1_ c2_ c3_ => some (c0_, c1_, c2_, c3_))
theorem zbt (an : Nat) (n : Nat) (k : Int) (i : Int) (b15 : List Nat) : z23 an (n + 1) k i b15 = z3y an  k i b15  (fun k' i' b15' => z23 an n k' i' b15') (fun c0_ c1_ c2_ c3_ => some (c0_, c1_, c2_, c3_)) := rfl
noncomputable def z5i (an : Nat) (k : Int) (i : Int) (b15 : List Nat) : Bool := (z23 an big k i b15).isSome
noncomputable def z4t (an : Nat) (k : Int) (i : Int) (b15 : List Nat) : Int := ((z23 an big k i b15).getD default).1
noncomputable def z72 (an : Nat) (k : Int) (i : Int) (b15 : List Nat) : Int := ((z23 an big k i b15).getD default).2.1
noncomputable def z73 (an : Nat) (k : Int) (i : Int) (b15 : List Nat) : Bool := ((z23 an big k i b15).getD default).2.2.1
noncomputable def z6x (an : Nat) (k : Int) (i : Int) (b15 : List Nat) : List Nat := ((z23 an big k i b15).getD default).2.2.2
theorem zd5 {an : Nat} {k : Int} {i : Int} {b15 : List Nat} {m : Nat} {r : Int × Int × Bool × (List Nat)} (hm : m = big) (h : z23 an m k i b15 = some r) : z5i an k i b15 = true ∧ z4t an k i b15 = r.1 ∧ z72 an k i b15 = r.2.1 ∧ z73 an k i b15 = r.2.2.1 ∧ z6x an k i b15 = r.2.2.2 := by
  subst hm
  unfold z5i z4t z72 z73 z6x
  rw [h]
  exact ⟨rfl, rfl, rfl, rfl, rfl⟩
noncomputable def z3w {R : Type} (an : Nat) (k : Int) (i : Int) (b13 : List Nat) (kn_ : Int → Int → (List Nat) → Option R) (k0_ : Int → Int → Bool → (List Nat) → Option R) : Option R := (br (ltI i (Int.ofNat an)) (grd (okIx i an) (kn_ (addI IntKind.i64 k 1) (addI IntKind.i64 i 1) (sF b13 (ixO 0 i 1) (fOI FloatKind.f32 k)))) (k0_ k i (ltI i (Int.ofNat an)) b13))
theorem zbx {R R' : Type} (o : Option R → Option R') (h0 : o none = none) (an : Nat) (k : Int) (i : Int) (b13 : List Nat) (kn_ : Int → Int → (List Nat) → Option R) (k0_ : Int → Int → Bool → (List Nat) → Option R) : z3w an k i b13 (fun k' i' b13' => o (kn_ k' i' b13')) (fun c0_ c1_ c2_ c3_ => o (k0_ c0_ c1_ c2_ c3_)) = o (z3w an k i b13 kn_ k0_) := by
  unfold z3w
  repeat (first | refine grd_out h0 ?_ | refine br_out ?_ ?_ | rfl | exact h0.symm)
noncomputable def z22 (an : Nat) : Nat → Int → Int → (List Nat) → Option ((Int × Int × Bool × (List Nat)))
  | 0, _, _, _ => none
  | n + 1, k, i, b13 => z3w an  k i b13  (fun k' i' b13' => z22 an n k' i' b13') (fun c0_ c1_ c2_ c3_ => some (c0_, c1_, c2_, c3_))
theorem zbl (an : Nat) (n : Nat) (k : Int) (i : Int) (b13 : List Nat) : z22 an (n + 1) k i b13 = z3w an  k i b13  (fun k' i' b13' => z22 an n k' i' b13') (fun c0_ c1_ c2_ c3_ => some (c0_, c1_, c2_, c3_)) := rfl
noncomputable def z5l (an : Nat) (k : Int) (i : Int) (b13 : List Nat) : Bool := (z22 an big k i b13).isSome
noncomputable def z4v (an : Nat) (k : Int) (i : Int) (b13 : List Nat) : Int := ((z22 an big k i b13).getD default).1
noncomputable def z6u (an : Nat) (k : Int) (i : Int) (b13 : List Nat) : Int := ((z22 an big k i b13).getD default).2.1
noncomputable def z6y (an : Nat) (k : Int) (i : Int) (b13 : List Nat) : Bool := ((z22 an big k i b13).getD default).2.2.1
noncomputable def z70 (an : Nat) (k : Int) (i : Int) (b13 : List Nat) : List Nat := ((z22 an big k i b13).getD default).2.2.2
theorem zd6 {an : Nat} {k : Int} {i : Int} {b13 : List Nat} {m : Nat} {r : Int × Int × Bool × (List Nat)} (hm : m = big) (h : z22 an m k i b13 = some r) : z5l an k i b13 = true ∧ z4v an k i b13 = r.1 ∧ z6u an k i b13 = r.2.1 ∧ z6y an k i b13 = r.2.2.1 ∧ z70 an k i b13 = r.2.2.2 := by
  subst hm
  unfold z5l z4v z6u z6y z70
  rw [h]
  exact ⟨rfl, rfl, rfl, rfl, rfl⟩
noncomputable def z3x {R : Type} (an : Nat) (k : Int) (i : Int) (b14 : List Nat) (kn_ : Int → Int → (List Nat) → Option R) (k0_ : Int → Int → Bool → (List Nat) → Option R) : Option R := (br (ltI i (Int.ofNat an)) (grd (okIx i an) (kn_ (addI IntKind.i64 k 1) (addI IntKind.i64 i 1) (sF b14 (ixO 0 i 1) (fOI FloatKind.f32 k)))) (k0_ k i (ltI i (Int.ofNat an)) b14))
theorem zc6 {R R' : Type} (o : Option R → Option R') (h0 : o none = none) (an : Nat) (k : Int) (i : Int) (b14 : List Nat) (kn_ : Int → Int → (List Nat) → Option R) (k0_ : Int → Int → Bool → (List Nat) → Option R) : z3x an k i b14 (fun k' i' b14' => o (kn_ k' i' b14')) (fun c0_ c1_ c2_ c3_ => o (k0_ c0_ c1_ c2_ c3_)) = o (z3x an k i b14 kn_ k0_) := by
  unfold z3x
  repeat (first | refine grd_out h0 ?_ | refine br_out ?_ ?_ | rfl | exact h0.symm)
noncomputable def z26 (an : Nat) : Nat → Int → Int → (List Nat) → Option ((Int × Int × Bool × (List Nat)))
  | 0, _, _, _ => none
  | n + 1, k, i, b14 => z3x an  k i b14  (fun k' i' b14' => z26 an n k' i' b14') (fun c0_ c1_ c2_ c3_ => some (c0_, c1_, c2_, c3_))
theorem zbn (an : Nat) (n : Nat) (k : Int) (i : Int) (b14 : List Nat) : z26 an (n + 1) k i b14 = z3x an  k i b14  (fun k' i' b14' => z26 an n k' i' b14') (fun c0_ c1_ c2_ c3_ => some (c0_, c1_, c2_, c3_)) := rfl
noncomputable def z5m (an : Nat) (k : Int) (i : Int) (b14 : List Nat) : Bool := (z26 an big k i b14).isSome
noncomputable def z52 (an : Nat) (k : Int) (i : Int) (b14 : List Nat) : Int := ((z26 an big k i b14).getD default).1
noncomputable def z6q (an : Nat) (k : Int) (i : Int) (b14 : List Nat) : Int := ((z26 an big k i b14).getD default).2.1
noncomputable def z6t (an : Nat) (k : Int) (i : Int) (b14 : List Nat) : Bool := ((z26 an big k i b14).getD default).2.2.1
noncomputable def z6p (an : Nat) (k : Int) (i : Int) (b14 : List Nat) : List Nat := ((z26 an big k i b14).getD default).2.2.2
theorem zd1 {an : Nat} {k : Int} {i : Int} {b14 : List Nat} {m : Nat} {r : Int × Int × Bool × (List Nat)} (hm : m = big) (h : z26 an m k i b14 = some r) : z5m an k i b14 = true ∧ z52 an k i b14 = r.1 ∧ z6q an k i b14 = r.2.1 ∧ z6t an k i b14 = r.2.2.1 ∧ z6p an k i b14 = r.2.2.2 := by
  subst hm
  unfold z5m z52 z6q z6t z6p
  rw [h]
  exact ⟨rfl, rfl, rfl, rfl, rfl⟩
noncomputable def z3s {R : Type} (an : Nat) (k : Int) (i : Int) (b15 : List Nat) (kn_ : Int → Int → (List Nat) → Option R) (k0_ : Int → Int → Bool → (List Nat) → Option R) : Option R := (br (ltI i (Int.ofNat an)) (grd (okIx i an) (kn_ (addI IntKind.i64 k 1) (addI IntKind.i64 i 1) (sF b15 (ixO 0 i 1) (fOI FloatKind.f32 k)))) (k0_ k i (ltI i (Int.ofNat an)) b15))
theorem zc4 {R R' : Type} (o : Option R → Option R') (h0 : o none = none) (an : Nat) (k : Int) (i : Int) (b15 : List Nat) (kn_ : Int → Int → (List Nat) → Option R) (k0_ : Int → Int → Bool → (List Nat) → Option R) : z3s an k i b15 (fun k' i' b15' => o (kn_ k' i' b15')) (fun c0_ c1_ c2_ c3_ => o (k0_ c0_ c1_ c2_ c3_)) = o (z3s an k i b15 kn_ k0_) := by
  unfold z3s
  repeat (first | refine grd_out h0 ?_ | refine br_out ?_ ?_ | rfl | exact h0.symm)
noncomputable def z25 (an : Nat) : Nat → Int → Int → (List Nat) → Option ((Int × Int × Bool × (List Nat)))
  | 0, _, _, _ => none
  | n + 1, k, i, b15 => z3s an  k i b15  (fun k' i' b15' => z25 an n k' i' b15') (fun c0_ c1_ c2_ c3_ => some (c0_, c1_, c2_, c3_))
theorem zbu (an : Nat) (n : Nat) (k : Int) (i : Int) (b15 : List Nat) : z25 an (n + 1) k i b15 = z3s an  k i b15  (fun k' i' b15' => z25 an n k' i' b15') (fun c0_ c1_ c2_ c3_ => some (c0_, c1_, c2_, c3_)) := rfl
noncomputable def z5j (an : Nat) (k : Int) (i : Int) (b15 : List Nat) : Bool := (z25 an big k i b15).isSome
noncomputable def z51 (an : Nat) (k : Int) (i : Int) (b15 : List Nat) : Int := ((z25 an big k i b15).getD default).1
noncomputable def z6n (an : Nat) (k : Int) (i : Int) (b15 : List Nat) : Int := ((z25 an big k i b15).getD default).2.1
noncomputable def z6w (an : Nat) (k : Int) (i : Int) (b15 : List Nat) : Bool := ((z25 an big k i b15).getD default).2.2.1
noncomputable def z71 (an : Nat) (k : Int) (i : Int) (b15 : List Nat) : List Nat := ((z25 an big k i b15).getD default).2.2.2
theorem zd7 {an : Nat} {k : Int} {i : Int} {b15 : List Nat} {m : Nat} {r : Int × Int × Bool × (List Nat)} (hm : m = big) (h : z25 an m k i b15 = some r) : z5j an k i b15 = true ∧ z51 an k i b15 = r.1 ∧ z6n an k i b15 = r.2.1 ∧ z6w an k i b15 = r.2.2.1 ∧ z71 an k i b15 = r.2.2.2 := by
  subst hm
  unfold z5j z51 z6n z6w z71
  rw [h]
  exact ⟨rfl, rfl, rfl, rfl, rfl⟩
noncomputable def z3t {R : Type} (an : Nat) (k : Int) (i : Int) (b13 : List Nat) (kn_ : Int → Int → (List Nat) → Option R) (k0_ : Int → Int → Bool → (List Nat) → Option R) : Option R := (br (ltI i (Int.ofNat an)) (grd (okIx i an) (kn_ (addI IntKind.i64 k 1) (addI IntKind.i64 i 1) (sF b13 (ixO 0 i 1) (fOI FloatKind.f32 k)))) (k0_ k i (ltI i (Int.ofNat an)) b13))
theorem zbv {R R' : Type} (o : Option R → Option R') (h0 : o none = none) (an : Nat) (k : Int) (i : Int) (b13 : List Nat) (kn_ : Int → Int → (List Nat) → Option R) (k0_ : Int → Int → Bool → (List Nat) → Option R) : z3t an k i b13 (fun k' i' b13' => o (kn_ k' i' b13')) (fun c0_ c1_ c2_ c3_ => o (k0_ c0_ c1_ c2_ c3_)) = o (z3t an k i b13 kn_ k0_) := by
  unfold z3t
  repeat (first | refine grd_out h0 ?_ | refine br_out ?_ ?_ | rfl | exact h0.symm)
noncomputable def z20 (an : Nat) : Nat → Int → Int → (List Nat) → Option ((Int × Int × Bool × (List Nat)))
  | 0, _, _, _ => none
  | n + 1, k, i, b13 => z3t an  k i b13  (fun k' i' b13' => z20 an n k' i' b13') (fun c0_ c1_ c2_ c3_ => some (c0_, c1_, c2_, c3_))
theorem zbq (an : Nat) (n : Nat) (k : Int) (i : Int) (b13 : List Nat) : z20 an (n + 1) k i b13 = z3t an  k i b13  (fun k' i' b13' => z20 an n k' i' b13') (fun c0_ c1_ c2_ c3_ => some (c0_, c1_, c2_, c3_)) := rfl
noncomputable def z5o (an : Nat) (k : Int) (i : Int) (b13 : List Nat) : Bool := (z20 an big k i b13).isSome
noncomputable def z4u (an : Nat) (k : Int) (i : Int) (b13 : List Nat) : Int := ((z20 an big k i b13).getD default).1
noncomputable def z6v (an : Nat) (k : Int) (i : Int) (b13 : List Nat) : Int := ((z20 an big k i b13).getD default).2.1
noncomputable def z6z (an : Nat) (k : Int) (i : Int) (b13 : List Nat) : Bool := ((z20 an big k i b13).getD default).2.2.1
noncomputable def z4w (an : Nat) (k : Int) (i : Int) (b13 : List Nat) : List Nat := ((z20 an big k i b13).getD default).2.2.2
theorem zcz {an : Nat} {k : Int} {i : Int} {b13 : List Nat} {m : Nat} {r : Int × Int × Bool × (List Nat)} (hm : m = big) (h : z20 an m k i b13 = some r) : z5o an k i b13 = true ∧ z4u an k i b13 = r.1 ∧ z6v an k i b13 = r.2.1 ∧ z6z an k i b13 = r.2.2.1 ∧ z4w an k i b13 = r.2.2.2 := by
  subst hm
  unfold z5o z4u z6v z6z z4w
  rw [h]
  exact ⟨rfl, rfl, rfl, rfl, rfl⟩
noncomputable def z3r {R : Type} (an : Nat) (k : Int) (i : Int) (b14 : List Nat) (kn_ : Int → Int → (List Nat) → Option R) (k0_ : Int → Int → Bool → (List Nat) → Option R) : Option R := (br (ltI i (Int.ofNat an)) (grd (okIx i an) (kn_ (addI IntKind.i64 k 1) (addI IntKind.i64 i 1) (sF b14 (ixO 0 i 1) (fOI FloatKind.f32 k)))) (k0_ k i (ltI i (Int.ofNat an)) b14))
theorem zcb {R R' : Type} (o : Option R → Option R') (h0 : o none = none) (an : Nat) (k : Int) (i : Int) (b14 : List Nat) (kn_ : Int → Int → (List Nat) → Option R) (k0_ : Int → Int → Bool → (List Nat) → Option R) : z3r an k i b14 (fun k' i' b14' => o (kn_ k' i' b14')) (fun c0_ c1_ c2_ c3_ => o (k0_ c0_ c1_ c2_ c3_)) = o (z3r an k i b14 kn_ k0_) := by
  unfold z3r
  repeat (first | refine grd_out h0 ?_ | refine br_out ?_ ?_ | rfl | exact h0.symm)
noncomputable def z21 (an : Nat) : Nat → Int → Int → (List Nat) → Option ((Int × Int × Bool × (List Nat)))
  | 0, _, _, _ => none
  | n + 1, k, i, b14 => z3r an  k i b14  (fun k' i' b14' => z21 an n k' i' b14') (fun c0_ c1_ c2_ c3_ => some (c0_, c1_, c2_, c3_))
theorem zbm (an : Nat) (n : Nat) (k : Int) (i : Int) (b14 : List Nat) : z21 an (n + 1) k i b14 = z3r an  k i b14  (fun k' i' b14' => z21 an n k' i' b14') (fun c0_ c1_ c2_ c3_ => some (c0_, c1_, c2_, c3_)) := rfl
noncomputable def z5e (an : Nat) (k : Int) (i : Int) (b14 : List Nat) : Bool := (z21 an big k i b14).isSome
noncomputable def z54 (an : Nat) (k : Int) (i : Int) (b14 : List Nat) : Int := ((z21 an big k i b14).getD default).1
noncomputable def z6m (an : Nat) (k : Int) (i : Int) (b14 : List Nat) : Int := ((z21 an big k i b14).getD default).2.1
noncomputable def z6s (an : Nat) (k : Int) (i : Int) (b14 : List Nat) : Bool := ((z21 an big k i b14).getD default).2.2.1
noncomputable def z4x (an : Nat) (k : Int) (i : Int) (b14 : List Nat) : List Nat := ((z21 an big k i b14).getD default).2.2.2
theorem zcx {an : Nat} {k : Int} {i : Int} {b14 : List Nat} {m : Nat} {r : Int × Int × Bool × (List Nat)} (hm : m = big) (h : z21 an m k i b14 = some r) : z5e an k i b14 = true ∧ z54 an k i b14 = r.1 ∧ z6m an k i b14 = r.2.1 ∧ z6s an k i b14 = r.2.2.1 ∧ z4x an k i b14 = r.2.2.2 := by
  subst hm
  unfold z5e z54 z6m z6s z4x
  rw [h]
  exact ⟨rfl, rfl, rfl, rfl, rfl⟩
noncomputable def z3v {R : Type} (an : Nat) (k : Int) (i : Int) (b15 : List Nat) (kn_ : Int → Int → (List Nat) → Option R) (k0_ : Int → Int → Bool → (List Nat) → Option R) : Option R := (br (ltI i (Int.ofNat an)) (grd (okIx i an) (kn_ (addI IntKind.i64 k 1) (addI IntKind.i64 i 1) (sF b15 (ixO 0 i 1) (fOI FloatKind.f32 k)))) (k0_ k i (ltI i (Int.ofNat an)) b15))
theorem zc7 {R R' : Type} (o : Option R → Option R') (h0 : o none = none) (an : Nat) (k : Int) (i : Int) (b15 : List Nat) (kn_ : Int → Int → (List Nat) → Option R) (k0_ : Int → Int → Bool → (List Nat) → Option R) : z3v an k i b15 (fun k' i' b15' => o (kn_ k' i' b15')) (fun c0_ c1_ c2_ c3_ => o (k0_ c0_ c1_ c2_ c3_)) = o (z3v an k i b15 kn_ k0_) := by
  unfold z3v
  repeat (first | refine grd_out h0 ?_ | refine br_out ?_ ?_ | rfl | exact h0.symm)
noncomputable def z27 (an : Nat) : Nat → Int → Int → (List Nat) → Option ((Int × Int × Bool × (List Nat)))
  | 0, _, _, _ => none
  | n + 1, k, i, b15 => z3v an  k i b15  (fun k' i' b15' => z27 an n k' i' b15') (fun c0_ c1_ c2_ c3_ => some (c0_, c1_, c2_, c3_))
theorem zbs (an : Nat) (n : Nat) (k : Int) (i : Int) (b15 : List Nat) : z27 an (n + 1) k i b15 = z3v an  k i b15  (fun k' i' b15' => z27 an n k' i' b15') (fun c0_ c1_ c2_ c3_ => some (c0_, c1_, c2_, c3_)) := rfl
noncomputable def z5s (an : Nat) (k : Int) (i : Int) (b15 : List Nat) : Bool := (z27 an big k i b15).isSome
noncomputable def z50 (an : Nat) (k : Int) (i : Int) (b15 : List Nat) : Int := ((z27 an big k i b15).getD default).1
noncomputable def z6r (an : Nat) (k : Int) (i : Int) (b15 : List Nat) : Int := ((z27 an big k i b15).getD default).2.1
noncomputable def z6o (an : Nat) (k : Int) (i : Int) (b15 : List Nat) : Bool := ((z27 an big k i b15).getD default).2.2.1
noncomputable def z4y (an : Nat) (k : Int) (i : Int) (b15 : List Nat) : List Nat := ((z27 an big k i b15).getD default).2.2.2
theorem zcv {an : Nat} {k : Int} {i : Int} {b15 : List Nat} {m : Nat} {r : Int × Int × Bool × (List Nat)} (hm : m = big) (h : z27 an m k i b15 = some r) : z5s an k i b15 = true ∧ z50 an k i b15 = r.1 ∧ z6r an k i b15 = r.2.1 ∧ z6o an k i b15 = r.2.2.1 ∧ z4y an k i b15 = r.2.2.2 := by
  subst hm
  unfold z5s z50 z6r z6o z4y
  rw [h]
  exact ⟨rfl, rfl, rfl, rfl, rfl⟩
noncomputable def z8a (q00 : Nat) (q03 : List Nat) (q02 : Nat) (q05 : List Nat) (q01 : Nat) (q04 : List Nat) (q06 : Nat) (q09 : List Nat) (q07 : Nat) (q0a : List Nat) (q08 : Nat) (q0b : List Nat) (x2 : Nat) := (zb7 q00 (pF q03 0 (muN q00 1)) q02 (pF q05 0 (muN q02 1)) q01 (pF q04 0 (muN q01 1)))
noncomputable def z77 (q00 : Nat) (q03 : List Nat) (q02 : Nat) (q05 : List Nat) (q01 : Nat) (q04 : List Nat) (q06 : Nat) (q09 : List Nat) (q07 : Nat) (q0a : List Nat) (q08 : Nat) (q0b : List Nat) (x2 : Nat) := (zc2 q00 (pF q03 0 (muN q00 1)) q02 (pF q05 0 (muN q02 1)) q01 (pF q04 0 (muN q01 1)))
noncomputable def z1a (q00 : Nat) (q03 : List Nat) (q02 : Nat) (q05 : List Nat) (q01 : Nat) (q04 : List Nat) (q06 : Nat) (q09 : List Nat) (q07 : Nat) (q0a : List Nat) (q08 : Nat) (q0b : List Nat) (x2 : Nat) := (zb9 q06 (pF q09 0 (muN q06 1)) q07 (pF q0a 0 (muN q07 1)) q08 (pF q0b 0 (muN q08 1)))
noncomputable def z17 (q00 : Nat) (q03 : List Nat) (q02 : Nat) (q05 : List Nat) (q01 : Nat) (q04 : List Nat) (q06 : Nat) (q09 : List Nat) (q07 : Nat) (q0a : List Nat) (q08 : Nat) (q0b : List Nat) (x2 : Nat) := (zb9 q00 (pF q03 0 (muN q00 1)) q02 (pF q05 0 (muN q02 1)) q01 (pF q04 0 (muN q01 1)))
noncomputable def z87 (q00 : Nat) (q03 : List Nat) (q02 : Nat) (q05 : List Nat) (q01 : Nat) (q04 : List Nat) (q06 : Nat) (q09 : List Nat) (q07 : Nat) (q0a : List Nat) (q08 : Nat) (q0b : List Nat) (x2 : Nat) := (zbd q00 (pF q03 0 (muN q00 1)) q02 (pF q05 0 (muN q02 1)) q01 (pF q04 0 (muN q01 1)))
noncomputable def z19 (q00 : Nat) (q03 : List Nat) (q02 : Nat) (q05 : List Nat) (q01 : Nat) (q04 : List Nat) (q06 : Nat) (q09 : List Nat) (q07 : Nat) (q0a : List Nat) (q08 : Nat) (q0b : List Nat) (x2 : Nat) := (zb8 q06 (pF q09 0 (muN q06 1)) q07 (pF q0a 0 (muN q07 1)) q08 (pF q0b 0 (muN q08 1)))
noncomputable def z18 (q00 : Nat) (q03 : List Nat) (q02 : Nat) (q05 : List Nat) (q01 : Nat) (q04 : List Nat) (q06 : Nat) (q09 : List Nat) (q07 : Nat) (q0a : List Nat) (q08 : Nat) (q0b : List Nat) (x2 : Nat) := (zb8 q00 (pF q03 0 (muN q00 1)) q02 (pF q05 0 (muN q02 1)) q01 (pF q04 0 (muN q01 1)))
noncomputable def z86 (q00 : Nat) (q03 : List Nat) (q02 : Nat) (q05 : List Nat) (q01 : Nat) (q04 : List Nat) (q06 : Nat) (q09 : List Nat) (q07 : Nat) (q0a : List Nat) (q08 : Nat) (q0b : List Nat) (x2 : Nat) := (zba q06 (pF q09 0 (muN q06 1)) q07 (pF q0a 0 (muN q07 1)) q08 (pF q0b 0 (muN q08 1)))
noncomputable def z76 (q00 : Nat) (q03 : List Nat) (q02 : Nat) (q05 : List Nat) (q01 : Nat) (q04 : List Nat) (q06 : Nat) (q09 : List Nat) (q07 : Nat) (q0a : List Nat) (q08 : Nat) (q0b : List Nat) (x2 : Nat) := (zc2 q06 (pF q09 0 (muN q06 1)) q07 (pF q0a 0 (muN q07 1)) q08 (pF q0b 0 (muN q08 1)))
noncomputable def z89 (q00 : Nat) (q03 : List Nat) (q02 : Nat) (q05 : List Nat) (q01 : Nat) (q04 : List Nat) (q06 : Nat) (q09 : List Nat) (q07 : Nat) (q0a : List Nat) (q08 : Nat) (q0b : List Nat) (x2 : Nat) := (zba q00 (pF q03 0 (muN q00 1)) q02 (pF q05 0 (muN q02 1)) q01 (pF q04 0 (muN q01 1)))
noncomputable def z10 (q00 : Nat) (q03 : List Nat) (q02 : Nat) (q05 : List Nat) (q01 : Nat) (q04 : List Nat) (q06 : Nat) (q09 : List Nat) (q07 : Nat) (q0a : List Nat) (q08 : Nat) (q0b : List Nat) (x2 : Nat) := (zbb q06 (pF q09 0 (muN q06 1)) q07 (pF q0a 0 (muN q07 1)) q08 (pF q0b 0 (muN q08 1)))
noncomputable def z11 (q00 : Nat) (q03 : List Nat) (q02 : Nat) (q05 : List Nat) (q01 : Nat) (q04 : List Nat) (q06 : Nat) (q09 : List Nat) (q07 : Nat) (q0a : List Nat) (q08 : Nat) (q0b : List Nat) (x2 : Nat) := (zbb q00 (pF q03 0 (muN q00 1)) q02 (pF q05 0 (muN q02 1)) q01 (pF q04 0 (muN q01 1)))
noncomputable def z7s (q00 : Nat) (q03 : List Nat) (q02 : Nat) (q05 : List Nat) (q01 : Nat) (q04 : List Nat) (q06 : Nat) (q09 : List Nat) (q07 : Nat) (q0a : List Nat) (q08 : Nat) (q0b : List Nat) (x2 : Nat) := (zb7 q06 (pF q09 0 (muN q06 1)) q07 (pF q0a 0 (muN q07 1)) q08 (pF q0b 0 (muN q08 1)))
noncomputable def z7w (q00 : Nat) (q03 : List Nat) (q02 : Nat) (q05 : List Nat) (q01 : Nat) (q04 : List Nat) (q06 : Nat) (q09 : List Nat) (q07 : Nat) (q0a : List Nat) (q08 : Nat) (q0b : List Nat) (x2 : Nat) := (zbd q06 (pF q09 0 (muN q06 1)) q07 (pF q0a 0 (muN q07 1)) q08 (pF q0b 0 (muN q08 1)))
noncomputable def z7r (q00 : Nat) (q03 : List Nat) (q02 : Nat) (q05 : List Nat) (q01 : Nat) (q04 : List Nat) (q06 : Nat) (q09 : List Nat) (q07 : Nat) (q0a : List Nat) (q08 : Nat) (q0b : List Nat) (x2 : Nat) := (zbc q00 (pF q03 0 (muN q00 1)) q02 (pF q05 0 (muN q02 1)) q01 (pF q04 0 (muN q01 1)) 1048576)
noncomputable def z93 (q00 : Nat) (q03 : List Nat) (q02 : Nat) (q05 : List Nat) (q01 : Nat) (q04 : List Nat) (q06 : Nat) (q09 : List Nat) (q07 : Nat) (q0a : List Nat) (q08 : Nat) (q0b : List Nat) (x2 : Nat) := (z59 (z17 q00 q03 q02 q05 q01 q04 q06 q09 q07 q0a q08 q0b x2) 1 0 (z8a q00 q03 q02 q05 q01 q04 q06 q09 q07 q0a q08 q0b x2))
noncomputable def z1y (q00 : Nat) (q03 : List Nat) (q02 : Nat) (q05 : List Nat) (q01 : Nat) (q04 : List Nat) (q06 : Nat) (q09 : List Nat) (q07 : Nat) (q0a : List Nat) (q08 : Nat) (q0b : List Nat) (x2 : Nat) := (pF (z86 q00 q03 q02 q05 q01 q04 q06 q09 q07 q0a q08 q0b x2) 0 (muN (z10 q00 q03 q02 q05 q01 q04 q06 q09 q07 q0a q08 q0b x2) 1))
noncomputable def z1u (q00 : Nat) (q03 : List Nat) (q02 : Nat) (q05 : List Nat) (q01 : Nat) (q04 : List Nat) (q06 : Nat) (q09 : List Nat) (q07 : Nat) (q0a : List Nat) (q08 : Nat) (q0b : List Nat) (x2 : Nat) := (pF (z7s q00 q03 q02 q05 q01 q04 q06 q09 q07 q0a q08 q0b x2) 0 (muN (z1a q00 q03 q02 q05 q01 q04 q06 q09 q07 q0a q08 q0b x2) 1))
noncomputable def z1x (q00 : Nat) (q03 : List Nat) (q02 : Nat) (q05 : List Nat) (q01 : Nat) (q04 : List Nat) (q06 : Nat) (q09 : List Nat) (q07 : Nat) (q0a : List Nat) (q08 : Nat) (q0b : List Nat) (x2 : Nat) := (pF (z8a q00 q03 q02 q05 q01 q04 q06 q09 q07 q0a q08 q0b x2) 0 (muN (z17 q00 q03 q02 q05 q01 q04 q06 q09 q07 q0a q08 q0b x2) 1))
noncomputable def z1w (q00 : Nat) (q03 : List Nat) (q02 : Nat) (q05 : List Nat) (q01 : Nat) (q04 : List Nat) (q06 : Nat) (q09 : List Nat) (q07 : Nat) (q0a : List Nat) (q08 : Nat) (q0b : List Nat) (x2 : Nat) := (pF (z87 q00 q03 q02 q05 q01 q04 q06 q09 q07 q0a q08 q0b x2) 0 (muN (z18 q00 q03 q02 q05 q01 q04 q06 q09 q07 q0a q08 q0b x2) 1))
noncomputable def z1v (q00 : Nat) (q03 : List Nat) (q02 : Nat) (q05 : List Nat) (q01 : Nat) (q04 : List Nat) (q06 : Nat) (q09 : List Nat) (q07 : Nat) (q0a : List Nat) (q08 : Nat) (q0b : List Nat) (x2 : Nat) := (pF (z7w q00 q03 q02 q05 q01 q04 q06 q09 q07 q0a q08 q0b x2) 0 (muN (z19 q00 q03 q02 q05 q01 q04 q06 q09 q07 q0a q08 q0b x2) 1))
noncomputable def z1t (q00 : Nat) (q03 : List Nat) (q02 : Nat) (q05 : List Nat) (q01 : Nat) (q04 : List Nat) (q06 : Nat) (q09 : List Nat) (q07 : Nat) (q0a : List Nat) (q08 : Nat) (q0b : List Nat) (x2 : Nat) := (pF (z89 q00 q03 q02 q05 q01 q04 q06 q09 q07 q0a q08 q0b x2) 0 (muN (z11 q00 q03 q02 q05 q01 q04 q06 q09 q07 q0a q08 q0b x2) 1))
noncomputable def z98 (q00 : Nat) (q03 : List Nat) (q02 : Nat) (q05 : List Nat) (q01 : Nat) (q04 : List Nat) (q06 : Nat) (q09 : List Nat) (q07 : Nat) (q0a : List Nat) (q08 : Nat) (q0b : List Nat) (x2 : Nat) := (z4z (z11 q00 q03 q02 q05 q01 q04 q06 q09 q07 q0a q08 q0b x2) (z93 q00 q03 q02 q05 q01 q04 q06 q09 q07 q0a q08 q0b x2) 0 (z89 q00 q03 q02 q05 q01 q04 q06 q09 q07 q0a q08 q0b x2))
noncomputable def z94 (q00 : Nat) (q03 : List Nat) (q02 : Nat) (q05 : List Nat) (q01 : Nat) (q04 : List Nat) (q06 : Nat) (q09 : List Nat) (q07 : Nat) (q0a : List Nat) (q08 : Nat) (q0b : List Nat) (x2 : Nat) := (z4t (z18 q00 q03 q02 q05 q01 q04 q06 q09 q07 q0a q08 q0b x2) (z98 q00 q03 q02 q05 q01 q04 q06 q09 q07 q0a q08 q0b x2) 0 (z87 q00 q03 q02 q05 q01 q04 q06 q09 q07 q0a q08 q0b x2))
noncomputable def z90 (q00 : Nat) (q03 : List Nat) (q02 : Nat) (q05 : List Nat) (q01 : Nat) (q04 : List Nat) (q06 : Nat) (q09 : List Nat) (q07 : Nat) (q0a : List Nat) (q08 : Nat) (q0b : List Nat) (x2 : Nat) := (z4v (z1a q00 q03 q02 q05 q01 q04 q06 q09 q07 q0a q08 q0b x2) (z94 q00 q03 q02 q05 q01 q04 q06 q09 q07 q0a q08 q0b x2) 0 (z7s q00 q03 q02 q05 q01 q04 q06 q09 q07 q0a q08 q0b x2))
noncomputable def z8x (q00 : Nat) (q03 : List Nat) (q02 : Nat) (q05 : List Nat) (q01 : Nat) (q04 : List Nat) (q06 : Nat) (q09 : List Nat) (q07 : Nat) (q0a : List Nat) (q08 : Nat) (q0b : List Nat) (x2 : Nat) := (z52 (z10 q00 q03 q02 q05 q01 q04 q06 q09 q07 q0a q08 q0b x2) (z90 q00 q03 q02 q05 q01 q04 q06 q09 q07 q0a q08 q0b x2) 0 (z86 q00 q03 q02 q05 q01 q04 q06 q09 q07 q0a q08 q0b x2))
noncomputable def z48 (q00 : Nat) (q03 : List Nat) (q02 : Nat) (q05 : List Nat) (q01 : Nat) (q04 : List Nat) (q06 : Nat) (q09 : List Nat) (q07 : Nat) (q0a : List Nat) (q08 : Nat) (q0b : List Nat) (x2 : Nat) := (zcp (z17 q00 q03 q02 q05 q01 q04 q06 q09 q07 q0a q08 q0b x2) (z1x q00 q03 q02 q05 q01 q04 q06 q09 q07 q0a q08 q0b x2) (z11 q00 q03 q02 q05 q01 q04 q06 q09 q07 q0a q08 q0b x2) (z1t q00 q03 q02 q05 q01 q04 q06 q09 q07 q0a q08 q0b x2) (z18 q00 q03 q02 q05 q01 q04 q06 q09 q07 q0a q08 q0b x2) (z1w q00 q03 q02 q05 q01 q04 q06 q09 q07 q0a q08 q0b x2) (z1a q00 q03 q02 q05 q01 q04 q06 q09 q07 q0a q08 q0b x2) (z1u q00 q03 q02 q05 q01 q04 q06 q09 q07 q0a q08 q0b x2) (z10 q00 q03 q02 q05 q01 q04 q06 q09 q07 q0a q08 q0b x2) (z1y q00 q03 q02 q05 q01 q04 q06 q09 q07 q0a q08 q0b x2) (z19 q00 q03 q02 q05 q01 q04 q06 q09 q07 q0a q08 q0b x2) (z1v q00 q03 q02 q05 q01 q04 q06 q09 q07 q0a q08 q0b x2) x2)
noncomputable def z49 (q00 : Nat) (q03 : List Nat) (q02 : Nat) (q05 : List Nat) (q01 : Nat) (q04 : List Nat) (q06 : Nat) (q09 : List Nat) (q07 : Nat) (q0a : List Nat) (q08 : Nat) (q0b : List Nat) (x2 : Nat) := (zch (z17 q00 q03 q02 q05 q01 q04 q06 q09 q07 q0a q08 q0b x2) (z1x q00 q03 q02 q05 q01 q04 q06 q09 q07 q0a q08 q0b x2) (z11 q00 q03 q02 q05 q01 q04 q06 q09 q07 q0a q08 q0b x2) (z1t q00 q03 q02 q05 q01 q04 q06 q09 q07 q0a q08 q0b x2) (z18 q00 q03 q02 q05 q01 q04 q06 q09 q07 q0a q08 q0b x2) (z1w q00 q03 q02 q05 q01 q04 q06 q09 q07 q0a q08 q0b x2) (z1a q00 q03 q02 q05 q01 q04 q06 q09 q07 q0a q08 q0b x2) (z1u q00 q03 q02 q05 q01 q04 q06 q09 q07 q0a q08 q0b x2) (z10 q00 q03 q02 q05 q01 q04 q06 q09 q07 q0a q08 q0b x2) (z1y q00 q03 q02 q05 q01 q04 q06 q09 q07 q0a q08 q0b x2) (z19 q00 q03 q02 q05 q01 q04 q06 q09 q07 q0a q08 q0b x2) (z1v q00 q03 q02 q05 q01 q04 q06 q09 q07 q0a q08 q0b x2) x2)
noncomputable def z8t (q00 : Nat) (q03 : List Nat) (q02 : Nat) (q05 : List Nat) (q01 : Nat) (q04 : List Nat) (q06 : Nat) (q09 : List Nat) (q07 : Nat) (q0a : List Nat) (q08 : Nat) (q0b : List Nat) (x2 : Nat) := (zdr (z17 q00 q03 q02 q05 q01 q04 q06 q09 q07 q0a q08 q0b x2) (z1x q00 q03 q02 q05 q01 q04 q06 q09 q07 q0a q08 q0b x2) (z11 q00 q03 q02 q05 q01 q04 q06 q09 q07 q0a q08 q0b x2) (z1t q00 q03 q02 q05 q01 q04 q06 q09 q07 q0a q08 q0b x2) (z18 q00 q03 q02 q05 q01 q04 q06 q09 q07 q0a q08 q0b x2) (z1w q00 q03 q02 q05 q01 q04 q06 q09 q07 q0a q08 q0b x2) (z1a q00 q03 q02 q05 q01 q04 q06 q09 q07 q0a q08 q0b x2) (z1u q00 q03 q02 q05 q01 q04 q06 q09 q07 q0a q08 q0b x2) (z10 q00 q03 q02 q05 q01 q04 q06 q09 q07 q0a q08 q0b x2) (z1y q00 q03 q02 q05 q01 q04 q06 q09 q07 q0a q08 q0b x2) (z19 q00 q03 q02 q05 q01 q04 q06 q09 q07 q0a q08 q0b x2) (z1v q00 q03 q02 q05 q01 q04 q06 q09 q07 q0a q08 q0b x2) x2)
noncomputable def z80 (q00 : Nat) (q03 : List Nat) (q02 : Nat) (q05 : List Nat) (q01 : Nat) (q04 : List Nat) (q06 : Nat) (q09 : List Nat) (q07 : Nat) (q0a : List Nat) (q08 : Nat) (q0b : List Nat) (x2 : Nat) := (zcj (z17 q00 q03 q02 q05 q01 q04 q06 q09 q07 q0a q08 q0b x2) (z1x q00 q03 q02 q05 q01 q04 q06 q09 q07 q0a q08 q0b x2) (z11 q00 q03 q02 q05 q01 q04 q06 q09 q07 q0a q08 q0b x2) (z1t q00 q03 q02 q05 q01 q04 q06 q09 q07 q0a q08 q0b x2) (z18 q00 q03 q02 q05 q01 q04 q06 q09 q07 q0a q08 q0b x2) (z1w q00 q03 q02 q05 q01 q04 q06 q09 q07 q0a q08 q0b x2) (z1a q00 q03 q02 q05 q01 q04 q06 q09 q07 q0a q08 q0b x2) (z1u q00 q03 q02 q05 q01 q04 q06 q09 q07 q0a q08 q0b x2) (z10 q00 q03 q02 q05 q01 q04 q06 q09 q07 q0a q08 q0b x2) (z1y q00 q03 q02 q05 q01 q04 q06 q09 q07 q0a q08 q0b x2) (z19 q00 q03 q02 q05 q01 q04 q06 q09 q07 q0a q08 q0b x2) (z1v q00 q03 q02 q05 q01 q04 q06 q09 q07 q0a q08 q0b x2) x2)
noncomputable def z4a (q00 : Nat) (q03 : List Nat) (q02 : Nat) (q05 : List Nat) (q01 : Nat) (q04 : List Nat) (q06 : Nat) (q09 : List Nat) (q07 : Nat) (q0a : List Nat) (q08 : Nat) (q0b : List Nat) (x2 : Nat) := (zcf (z17 q00 q03 q02 q05 q01 q04 q06 q09 q07 q0a q08 q0b x2) (z1x q00 q03 q02 q05 q01 q04 q06 q09 q07 q0a q08 q0b x2) (z11 q00 q03 q02 q05 q01 q04 q06 q09 q07 q0a q08 q0b x2) (z1t q00 q03 q02 q05 q01 q04 q06 q09 q07 q0a q08 q0b x2) (z18 q00 q03 q02 q05 q01 q04 q06 q09 q07 q0a q08 q0b x2) (z1w q00 q03 q02 q05 q01 q04 q06 q09 q07 q0a q08 q0b x2) (z1a q00 q03 q02 q05 q01 q04 q06 q09 q07 q0a q08 q0b x2) (z1u q00 q03 q02 q05 q01 q04 q06 q09 q07 q0a q08 q0b x2) (z10 q00 q03 q02 q05 q01 q04 q06 q09 q07 q0a q08 q0b x2) (z1y q00 q03 q02 q05 q01 q04 q06 q09 q07 q0a q08 q0b x2) (z19 q00 q03 q02 q05 q01 q04 q06 q09 q07 q0a q08 q0b x2) (z1v q00 q03 q02 q05 q01 q04 q06 q09 q07 q0a q08 q0b x2) x2)
noncomputable def z7x (q00 : Nat) (q03 : List Nat) (q02 : Nat) (q05 : List Nat) (q01 : Nat) (q04 : List Nat) (q06 : Nat) (q09 : List Nat) (q07 : Nat) (q0a : List Nat) (q08 : Nat) (q0b : List Nat) (x2 : Nat) := (zco (z17 q00 q03 q02 q05 q01 q04 q06 q09 q07 q0a q08 q0b x2) (z1x q00 q03 q02 q05 q01 q04 q06 q09 q07 q0a q08 q0b x2) (z11 q00 q03 q02 q05 q01 q04 q06 q09 q07 q0a q08 q0b x2) (z1t q00 q03 q02 q05 q01 q04 q06 q09 q07 q0a q08 q0b x2) (z18 q00 q03 q02 q05 q01 q04 q06 q09 q07 q0a q08 q0b x2) (z1w q00 q03 q02 q05 q01 q04 q06 q09 q07 q0a q08 q0b x2) (z1a q00 q03 q02 q05 q01 q04 q06 q09 q07 q0a q08 q0b x2) (z1u q00 q03 q02 q05 q01 q04 q06 q09 q07 q0a q08 q0b x2) (z10 q00 q03 q02 q05 q01 q04 q06 q09 q07 q0a q08 q0b x2) (z1y q00 q03 q02 q05 q01 q04 q06 q09 q07 q0a q08 q0b x2) (z19 q00 q03 q02 q05 q01 q04 q06 q09 q07 q0a q08 q0b x2) (z1v q00 q03 q02 q05 q01 q04 q06 q09 q07 q0a q08 q0b x2) x2)
noncomputable def z6h (q00 : Nat) (q03 : List Nat) (q02 : Nat) (q05 : List Nat) (q01 : Nat) (q04 : List Nat) (q06 : Nat) (q09 : List Nat) (q07 : Nat) (q0a : List Nat) (q08 : Nat) (q0b : List Nat) (x2 : Nat) := (zcl (z17 q00 q03 q02 q05 q01 q04 q06 q09 q07 q0a q08 q0b x2) (z1x q00 q03 q02 q05 q01 q04 q06 q09 q07 q0a q08 q0b x2) (z11 q00 q03 q02 q05 q01 q04 q06 q09 q07 q0a q08 q0b x2) (z1t q00 q03 q02 q05 q01 q04 q06 q09 q07 q0a q08 q0b x2) (z18 q00 q03 q02 q05 q01 q04 q06 q09 q07 q0a q08 q0b x2) (z1w q00 q03 q02 q05 q01 q04 q06 q09 q07 q0a q08 q0b x2) (z1a q00 q03 q02 q05 q01 q04 q06 q09 q07 q0a q08 q0b x2) (z1u q00 q03 q02 q05 q01 q04 q06 q09 q07 q0a q08 q0b x2) (z10 q00 q03 q02 q05 q01 q04 q06 q09 q07 q0a q08 q0b x2) (z1y q00 q03 q02 q05 q01 q04 q06 q09 q07 q0a q08 q0b x2) (z19 q00 q03 q02 q05 q01 q04 q06 q09 q07 q0a q08 q0b x2) (z1v q00 q03 q02 q05 q01 q04 q06 q09 q07 q0a q08 q0b x2) x2)
noncomputable def z6g (q00 : Nat) (q03 : List Nat) (q02 : Nat) (q05 : List Nat) (q01 : Nat) (q04 : List Nat) (q06 : Nat) (q09 : List Nat) (q07 : Nat) (q0a : List Nat) (q08 : Nat) (q0b : List Nat) (x2 : Nat) := (zcq (z17 q00 q03 q02 q05 q01 q04 q06 q09 q07 q0a q08 q0b x2) (z1x q00 q03 q02 q05 q01 q04 q06 q09 q07 q0a q08 q0b x2) (z11 q00 q03 q02 q05 q01 q04 q06 q09 q07 q0a q08 q0b x2) (z1t q00 q03 q02 q05 q01 q04 q06 q09 q07 q0a q08 q0b x2) (z18 q00 q03 q02 q05 q01 q04 q06 q09 q07 q0a q08 q0b x2) (z1w q00 q03 q02 q05 q01 q04 q06 q09 q07 q0a q08 q0b x2) (z1a q00 q03 q02 q05 q01 q04 q06 q09 q07 q0a q08 q0b x2) (z1u q00 q03 q02 q05 q01 q04 q06 q09 q07 q0a q08 q0b x2) (z10 q00 q03 q02 q05 q01 q04 q06 q09 q07 q0a q08 q0b x2) (z1y q00 q03 q02 q05 q01 q04 q06 q09 q07 q0a q08 q0b x2) (z19 q00 q03 q02 q05 q01 q04 q06 q09 q07 q0a q08 q0b x2) (z1v q00 q03 q02 q05 q01 q04 q06 q09 q07 q0a q08 q0b x2) x2)
noncomputable def z7z (q00 : Nat) (q03 : List Nat) (q02 : Nat) (q05 : List Nat) (q01 : Nat) (q04 : List Nat) (q06 : Nat) (q09 : List Nat) (q07 : Nat) (q0a : List Nat) (q08 : Nat) (q0b : List Nat) (x2 : Nat) := (zck (z17 q00 q03 q02 q05 q01 q04 q06 q09 q07 q0a q08 q0b x2) (z1x q00 q03 q02 q05 q01 q04 q06 q09 q07 q0a q08 q0b x2) (z11 q00 q03 q02 q05 q01 q04 q06 q09 q07 q0a q08 q0b x2) (z1t q00 q03 q02 q05 q01 q04 q06 q09 q07 q0a q08 q0b x2) (z18 q00 q03 q02 q05 q01 q04 q06 q09 q07 q0a q08 q0b x2) (z1w q00 q03 q02 q05 q01 q04 q06 q09 q07 q0a q08 q0b x2) (z1a q00 q03 q02 q05 q01 q04 q06 q09 q07 q0a q08 q0b x2) (z1u q00 q03 q02 q05 q01 q04 q06 q09 q07 q0a q08 q0b x2) (z10 q00 q03 q02 q05 q01 q04 q06 q09 q07 q0a q08 q0b x2) (z1y q00 q03 q02 q05 q01 q04 q06 q09 q07 q0a q08 q0b x2) (z19 q00 q03 q02 q05 q01 q04 q06 q09 q07 q0a q08 q0b x2) (z1v q00 q03 q02 q05 q01 q04 q06 q09 q07 q0a q08 q0b x2) x2)
noncomputable def z6i (q00 : Nat) (q03 : List Nat) (q02 : Nat) (q05 : List Nat) (q01 : Nat) (q04 : List Nat) (q06 : Nat) (q09 : List Nat) (q07 : Nat) (q0a : List Nat) (q08 : Nat) (q0b : List Nat) (x2 : Nat) := (zce (z17 q00 q03 q02 q05 q01 q04 q06 q09 q07 q0a q08 q0b x2) (z1x q00 q03 q02 q05 q01 q04 q06 q09 q07 q0a q08 q0b x2) (z11 q00 q03 q02 q05 q01 q04 q06 q09 q07 q0a q08 q0b x2) (z1t q00 q03 q02 q05 q01 q04 q06 q09 q07 q0a q08 q0b x2) (z18 q00 q03 q02 q05 q01 q04 q06 q09 q07 q0a q08 q0b x2) (z1w q00 q03 q02 q05 q01 q04 q06 q09 q07 q0a q08 q0b x2) (z1a q00 q03 q02 q05 q01 q04 q06 q09 q07 q0a q08 q0b x2) (z1u q00 q03 q02 q05 q01 q04 q06 q09 q07 q0a q08 q0b x2) (z10 q00 q03 q02 q05 q01 q04 q06 q09 q07 q0a q08 q0b x2) (z1y q00 q03 q02 q05 q01 q04 q06 q09 q07 q0a q08 q0b x2) (z19 q00 q03 q02 q05 q01 q04 q06 q09 q07 q0a q08 q0b x2) (z1v q00 q03 q02 q05 q01 q04 q06 q09 q07 q0a q08 q0b x2) x2)
noncomputable def z8o (q00 : Nat) (q03 : List Nat) (q02 : Nat) (q05 : List Nat) (q01 : Nat) (q04 : List Nat) (q06 : Nat) (q09 : List Nat) (q07 : Nat) (q0a : List Nat) (q08 : Nat) (q0b : List Nat) (x2 : Nat) := (muN (z4a q00 q03 q02 q05 q01 q04 q06 q09 q07 q0a q08 q0b x2) 1)
noncomputable def z8r (q00 : Nat) (q03 : List Nat) (q02 : Nat) (q05 : List Nat) (q01 : Nat) (q04 : List Nat) (q06 : Nat) (q09 : List Nat) (q07 : Nat) (q0a : List Nat) (q08 : Nat) (q0b : List Nat) (x2 : Nat) := (muN (z49 q00 q03 q02 q05 q01 q04 q06 q09 q07 q0a q08 q0b x2) 1)
noncomputable def z91 (q00 : Nat) (q03 : List Nat) (q02 : Nat) (q05 : List Nat) (q01 : Nat) (q04 : List Nat) (q06 : Nat) (q09 : List Nat) (q07 : Nat) (q0a : List Nat) (q08 : Nat) (q0b : List Nat) (x2 : Nat) := (muN (z48 q00 q03 q02 q05 q01 q04 q06 q09 q07 q0a q08 q0b x2) 1)
noncomputable def z7y (q00 : Nat) (q03 : List Nat) (q02 : Nat) (q05 : List Nat) (q01 : Nat) (q04 : List Nat) (q06 : Nat) (q09 : List Nat) (q07 : Nat) (q0a : List Nat) (q08 : Nat) (q0b : List Nat) (x2 : Nat) := (bnot (beqB (zcd (z17 q00 q03 q02 q05 q01 q04 q06 q09 q07 q0a q08 q0b x2) (z1x q00 q03 q02 q05 q01 q04 q06 q09 q07 q0a q08 q0b x2) (z11 q00 q03 q02 q05 q01 q04 q06 q09 q07 q0a q08 q0b x2) (z1t q00 q03 q02 q05 q01 q04 q06 q09 q07 q0a q08 q0b x2) (z18 q00 q03 q02 q05 q01 q04 q06 q09 q07 q0a q08 q0b x2) (z1w q00 q03 q02 q05 q01 q04 q06 q09 q07 q0a q08 q0b x2) (z1a q00 q03 q02 q05 q01 q04 q06 q09 q07 q0a q08 q0b x2) (z1u q00 q03 q02 q05 q01 q04 q06 q09 q07 q0a q08 q0b x2) (z10 q00 q03 q02 q05 q01 q04 q06 q09 q07 q0a q08 q0b x2) (z1y q00 q03 q02 q05 q01 q04 q06 q09 q07 q0a q08 q0b x2) (z19 q00 q03 q02 q05 q01 q04 q06 q09 q07 q0a q08 q0b x2) (z1v q00 q03 q02 q05 q01 q04 q06 q09 q07 q0a q08 q0b x2) x2) (zcg (z17 q00 q03 q02 q05 q01 q04 q06 q09 q07 q0a q08 q0b x2) (z1x q00 q03 q02 q05 q01 q04 q06 q09 q07 q0a q08 q0b x2) (z11 q00 q03 q02 q05 q01 q04 q06 q09 q07 q0a q08 q0b x2) (z1t q00 q03 q02 q05 q01 q04 q06 q09 q07 q0a q08 q0b x2) (z18 q00 q03 q02 q05 q01 q04 q06 q09 q07 q0a q08 q0b x2) (z1w q00 q03 q02 q05 q01 q04 q06 q09 q07 q0a q08 q0b x2) (z1a q00 q03 q02 q05 q01 q04 q06 q09 q07 q0a q08 q0b x2) (z1u q00 q03 q02 q05 q01 q04 q06 q09 q07 q0a q08 q0b x2) (z10 q00 q03 q02 q05 q01 q04 q06 q09 q07 q0a q08 q0b x2) (z1y q00 q03 q02 q05 q01 q04 q06 q09 q07 q0a q08 q0b x2) (z19 q00 q03 q02 q05 q01 q04 q06 q09 q07 q0a q08 q0b x2) (z1v q00 q03 q02 q05 q01 q04 q06 q09 q07 q0a q08 q0b x2) x2)))
noncomputable def z7v (q00 : Nat) (q03 : List Nat) (q02 : Nat) (q05 : List Nat) (q01 : Nat) (q04 : List Nat) (q06 : Nat) (q09 : List Nat) (q07 : Nat) (q0a : List Nat) (q08 : Nat) (q0b : List Nat) (x2 : Nat) := (z4u (z48 q00 q03 q02 q05 q01 q04 q06 q09 q07 q0a q08 q0b x2) 1 0 (z6g q00 q03 q02 q05 q01 q04 q06 q09 q07 q0a q08 q0b x2))
noncomputable def z8m (q00 : Nat) (q03 : List Nat) (q02 : Nat) (q05 : List Nat) (q01 : Nat) (q04 : List Nat) (q06 : Nat) (q09 : List Nat) (q07 : Nat) (q0a : List Nat) (q08 : Nat) (q0b : List Nat) (x2 : Nat) := (pF (zcn (z17 q00 q03 q02 q05 q01 q04 q06 q09 q07 q0a q08 q0b x2) (z1x q00 q03 q02 q05 q01 q04 q06 q09 q07 q0a q08 q0b x2) (z11 q00 q03 q02 q05 q01 q04 q06 q09 q07 q0a q08 q0b x2) (z1t q00 q03 q02 q05 q01 q04 q06 q09 q07 q0a q08 q0b x2) (z18 q00 q03 q02 q05 q01 q04 q06 q09 q07 q0a q08 q0b x2) (z1w q00 q03 q02 q05 q01 q04 q06 q09 q07 q0a q08 q0b x2) (z1a q00 q03 q02 q05 q01 q04 q06 q09 q07 q0a q08 q0b x2) (z1u q00 q03 q02 q05 q01 q04 q06 q09 q07 q0a q08 q0b x2) (z10 q00 q03 q02 q05 q01 q04 q06 q09 q07 q0a q08 q0b x2) (z1y q00 q03 q02 q05 q01 q04 q06 q09 q07 q0a q08 q0b x2) (z19 q00 q03 q02 q05 q01 q04 q06 q09 q07 q0a q08 q0b x2) (z1v q00 q03 q02 q05 q01 q04 q06 q09 q07 q0a q08 q0b x2) x2) 0 (muN (z7x q00 q03 q02 q05 q01 q04 q06 q09 q07 q0a q08 q0b x2) 1))
noncomputable def z8w (q00 : Nat) (q03 : List Nat) (q02 : Nat) (q05 : List Nat) (q01 : Nat) (q04 : List Nat) (q06 : Nat) (q09 : List Nat) (q07 : Nat) (q0a : List Nat) (q08 : Nat) (q0b : List Nat) (x2 : Nat) := (pF (zcr (z17 q00 q03 q02 q05 q01 q04 q06 q09 q07 q0a q08 q0b x2) (z1x q00 q03 q02 q05 q01 q04 q06 q09 q07 q0a q08 q0b x2) (z11 q00 q03 q02 q05 q01 q04 q06 q09 q07 q0a q08 q0b x2) (z1t q00 q03 q02 q05 q01 q04 q06 q09 q07 q0a q08 q0b x2) (z18 q00 q03 q02 q05 q01 q04 q06 q09 q07 q0a q08 q0b x2) (z1w q00 q03 q02 q05 q01 q04 q06 q09 q07 q0a q08 q0b x2) (z1a q00 q03 q02 q05 q01 q04 q06 q09 q07 q0a q08 q0b x2) (z1u q00 q03 q02 q05 q01 q04 q06 q09 q07 q0a q08 q0b x2) (z10 q00 q03 q02 q05 q01 q04 q06 q09 q07 q0a q08 q0b x2) (z1y q00 q03 q02 q05 q01 q04 q06 q09 q07 q0a q08 q0b x2) (z19 q00 q03 q02 q05 q01 q04 q06 q09 q07 q0a q08 q0b x2) (z1v q00 q03 q02 q05 q01 q04 q06 q09 q07 q0a q08 q0b x2) x2) 0 (muN (z80 q00 q03 q02 q05 q01 q04 q06 q09 q07 q0a q08 q0b x2) 1))
noncomputable def z8z (q00 : Nat) (q03 : List Nat) (q02 : Nat) (q05 : List Nat) (q01 : Nat) (q04 : List Nat) (q06 : Nat) (q09 : List Nat) (q07 : Nat) (q0a : List Nat) (q08 : Nat) (q0b : List Nat) (x2 : Nat) := (pF (z6g q00 q03 q02 q05 q01 q04 q06 q09 q07 q0a q08 q0b x2) 0 (z91 q00 q03 q02 q05 q01 q04 q06 q09 q07 q0a q08 q0b x2))
noncomputable def z8p (q00 : Nat) (q03 : List Nat) (q02 : Nat) (q05 : List Nat) (q01 : Nat) (q04 : List Nat) (q06 : Nat) (q09 : List Nat) (q07 : Nat) (q0a : List Nat) (q08 : Nat) (q0b : List Nat) (x2 : Nat) := (pF (z6i q00 q03 q02 q05 q01 q04 q06 q09 q07 q0a q08 q0b x2) 0 (z8o q00 q03 q02 q05 q01 q04 q06 q09 q07 q0a q08 q0b x2))
noncomputable def z8n (q00 : Nat) (q03 : List Nat) (q02 : Nat) (q05 : List Nat) (q01 : Nat) (q04 : List Nat) (q06 : Nat) (q09 : List Nat) (q07 : Nat) (q0a : List Nat) (q08 : Nat) (q0b : List Nat) (x2 : Nat) := (pF (zci (z17 q00 q03 q02 q05 q01 q04 q06 q09 q07 q0a q08 q0b x2) (z1x q00 q03 q02 q05 q01 q04 q06 q09 q07 q0a q08 q0b x2) (z11 q00 q03 q02 q05 q01 q04 q06 q09 q07 q0a q08 q0b x2) (z1t q00 q03 q02 q05 q01 q04 q06 q09 q07 q0a q08 q0b x2) (z18 q00 q03 q02 q05 q01 q04 q06 q09 q07 q0a q08 q0b x2) (z1w q00 q03 q02 q05 q01 q04 q06 q09 q07 q0a q08 q0b x2) (z1a q00 q03 q02 q05 q01 q04 q06 q09 q07 q0a q08 q0b x2) (z1u q00 q03 q02 q05 q01 q04 q06 q09 q07 q0a q08 q0b x2) (z10 q00 q03 q02 q05 q01 q04 q06 q09 q07 q0a q08 q0b x2) (z1y q00 q03 q02 q05 q01 q04 q06 q09 q07 q0a q08 q0b x2) (z19 q00 q03 q02 q05 q01 q04 q06 q09 q07 q0a q08 q0b x2) (z1v q00 q03 q02 q05 q01 q04 q06 q09 q07 q0a q08 q0b x2) x2) 0 (muN (z7z q00 q03 q02 q05 q01 q04 q06 q09 q07 q0a q08 q0b x2) 1))
noncomputable def z8u (q00 : Nat) (q03 : List Nat) (q02 : Nat) (q05 : List Nat) (q01 : Nat) (q04 : List Nat) (q06 : Nat) (q09 : List Nat) (q07 : Nat) (q0a : List Nat) (q08 : Nat) (q0b : List Nat) (x2 : Nat) := (pF (z6h q00 q03 q02 q05 q01 q04 q06 q09 q07 q0a q08 q0b x2) 0 (z8r q00 q03 q02 q05 q01 q04 q06 q09 q07 q0a q08 q0b x2))
noncomputable def z97 (q00 : Nat) (q03 : List Nat) (q02 : Nat) (q05 : List Nat) (q01 : Nat) (q04 : List Nat) (q06 : Nat) (q09 : List Nat) (q07 : Nat) (q0a : List Nat) (q08 : Nat) (q0b : List Nat) (x2 : Nat) := (pF (z4w (z48 q00 q03 q02 q05 q01 q04 q06 q09 q07 q0a q08 q0b x2) 1 0 (z6g q00 q03 q02 q05 q01 q04 q06 q09 q07 q0a q08 q0b x2)) 0 (z91 q00 q03 q02 q05 q01 q04 q06 q09 q07 q0a q08 q0b x2))
noncomputable def z7q (q00 : Nat) (q03 : List Nat) (q02 : Nat) (q05 : List Nat) (q01 : Nat) (q04 : List Nat) (q06 : Nat) (q09 : List Nat) (q07 : Nat) (q0a : List Nat) (q08 : Nat) (q0b : List Nat) (x2 : Nat) := (z54 (z4a q00 q03 q02 q05 q01 q04 q06 q09 q07 q0a q08 q0b x2) (z7v q00 q03 q02 q05 q01 q04 q06 q09 q07 q0a q08 q0b x2) 0 (z6i q00 q03 q02 q05 q01 q04 q06 q09 q07 q0a q08 q0b x2))
noncomputable def z96 (q00 : Nat) (q03 : List Nat) (q02 : Nat) (q05 : List Nat) (q01 : Nat) (q04 : List Nat) (q06 : Nat) (q09 : List Nat) (q07 : Nat) (q0a : List Nat) (q08 : Nat) (q0b : List Nat) (x2 : Nat) := (pF (z4x (z4a q00 q03 q02 q05 q01 q04 q06 q09 q07 q0a q08 q0b x2) (z7v q00 q03 q02 q05 q01 q04 q06 q09 q07 q0a q08 q0b x2) 0 (z6i q00 q03 q02 q05 q01 q04 q06 q09 q07 q0a q08 q0b x2)) 0 (z8o q00 q03 q02 q05 q01 q04 q06 q09 q07 q0a q08 q0b x2))
noncomputable def z8y (q00 : Nat) (q03 : List Nat) (q02 : Nat) (q05 : List Nat) (q01 : Nat) (q04 : List Nat) (q06 : Nat) (q09 : List Nat) (q07 : Nat) (q0a : List Nat) (q08 : Nat) (q0b : List Nat) (x2 : Nat) := (pF (z4y (z49 q00 q03 q02 q05 q01 q04 q06 q09 q07 q0a q08 q0b x2) (z7q q00 q03 q02 q05 q01 q04 q06 q09 q07 q0a q08 q0b x2) 0 (z6h q00 q03 q02 q05 q01 q04 q06 q09 q07 q0a q08 q0b x2)) 0 (z8r q00 q03 q02 q05 q01 q04 q06 q09 q07 q0a q08 q0b x2))
noncomputable def z7t (q00 : Nat) (q03 : List Nat) (q02 : Nat) (q05 : List Nat) (q01 : Nat) (q04 : List Nat) (q06 : Nat) (q09 : List Nat) (q07 : Nat) (q0a : List Nat) (q08 : Nat) (q0b : List Nat) (x2 : Nat) := (zar (z48 q00 q03 q02 q05 q01 q04 q06 q09 q07 q0a q08 q0b x2) (z8z q00 q03 q02 q05 q01 q04 q06 q09 q07 q0a q08 q0b x2) (z4a q00 q03 q02 q05 q01 q04 q06 q09 q07 q0a q08 q0b x2) (z8p q00 q03 q02 q05 q01 q04 q06 q09 q07 q0a q08 q0b x2) (z49 q00 q03 q02 q05 q01 q04 q06 q09 q07 q0a q08 q0b x2) (z8u q00 q03 q02 q05 q01 q04 q06 q09 q07 q0a q08 q0b x2) (z80 q00 q03 q02 q05 q01 q04 q06 q09 q07 q0a q08 q0b x2) (z8w q00 q03 q02 q05 q01 q04 q06 q09 q07 q0a q08 q0b x2) (z7z q00 q03 q02 q05 q01 q04 q06 q09 q07 q0a q08 q0b x2) (z8n q00 q03 q02 q05 q01 q04 q06 q09 q07 q0a q08 q0b x2) (z7x q00 q03 q02 q05 q01 q04 q06 q09 q07 q0a q08 q0b x2) (z8m q00 q03 q02 q05 q01 q04 q06 q09 q07 q0a q08 q0b x2))
noncomputable def z7u (q00 : Nat) (q03 : List Nat) (q02 : Nat) (q05 : List Nat) (q01 : Nat) (q04 : List Nat) (q06 : Nat) (q09 : List Nat) (q07 : Nat) (q0a : List Nat) (q08 : Nat) (q0b : List Nat) (x2 : Nat) := (bnot (zaa (z48 q00 q03 q02 q05 q01 q04 q06 q09 q07 q0a q08 q0b x2) (z8z q00 q03 q02 q05 q01 q04 q06 q09 q07 q0a q08 q0b x2) (z4a q00 q03 q02 q05 q01 q04 q06 q09 q07 q0a q08 q0b x2) (z8p q00 q03 q02 q05 q01 q04 q06 q09 q07 q0a q08 q0b x2) (z49 q00 q03 q02 q05 q01 q04 q06 q09 q07 q0a q08 q0b x2) (z8u q00 q03 q02 q05 q01 q04 q06 q09 q07 q0a q08 q0b x2) (z80 q00 q03 q02 q05 q01 q04 q06 q09 q07 q0a q08 q0b x2) (z8w q00 q03 q02 q05 q01 q04 q06 q09 q07 q0a q08 q0b x2) (z7z q00 q03 q02 q05 q01 q04 q06 q09 q07 q0a q08 q0b x2) (z8n q00 q03 q02 q05 q01 q04 q06 q09 q07 q0a q08 q0b x2) (z7x q00 q03 q02 q05 q01 q04 q06 q09 q07 q0a q08 q0b x2) (z8m q00 q03 q02 q05 q01 q04 q06 q09 q07 q0a q08 q0b x2)))
noncomputable def z92 (q00 : Nat) (q03 : List Nat) (q02 : Nat) (q05 : List Nat) (q01 : Nat) (q04 : List Nat) (q06 : Nat) (q09 : List Nat) (q07 : Nat) (q0a : List Nat) (q08 : Nat) (q0b : List Nat) (x2 : Nat) := (zcc (z48 q00 q03 q02 q05 q01 q04 q06 q09 q07 q0a q08 q0b x2) (z97 q00 q03 q02 q05 q01 q04 q06 q09 q07 q0a q08 q0b x2) (z4a q00 q03 q02 q05 q01 q04 q06 q09 q07 q0a q08 q0b x2) (z96 q00 q03 q02 q05 q01 q04 q06 q09 q07 q0a q08 q0b x2) (z49 q00 q03 q02 q05 q01 q04 q06 q09 q07 q0a q08 q0b x2) (z8y q00 q03 q02 q05 q01 q04 q06 q09 q07 q0a q08 q0b x2) 1)
noncomputable def z8s (q00 : Nat) (q03 : List Nat) (q02 : Nat) (q05 : List Nat) (q01 : Nat) (q04 : List Nat) (q06 : Nat) (q09 : List Nat) (q07 : Nat) (q0a : List Nat) (q08 : Nat) (q0b : List Nat) (x2 : Nat) := (zds (z48 q00 q03 q02 q05 q01 q04 q06 q09 q07 q0a q08 q0b x2) (z97 q00 q03 q02 q05 q01 q04 q06 q09 q07 q0a q08 q0b x2) (z4a q00 q03 q02 q05 q01 q04 q06 q09 q07 q0a q08 q0b x2) (z96 q00 q03 q02 q05 q01 q04 q06 q09 q07 q0a q08 q0b x2) (z49 q00 q03 q02 q05 q01 q04 q06 q09 q07 q0a q08 q0b x2) (z8y q00 q03 q02 q05 q01 q04 q06 q09 q07 q0a q08 q0b x2) 1)
noncomputable def z8q (q00 : Nat) (q03 : List Nat) (q02 : Nat) (q05 : List Nat) (q01 : Nat) (q04 : List Nat) (q06 : Nat) (q09 : List Nat) (q07 : Nat) (q0a : List Nat) (q08 : Nat) (q0b : List Nat) (x2 : Nat) := (ltI (z92 q00 q03 q02 q05 q01 q04 q06 q09 q07 q0a q08 q0b x2) 0)
noncomputable def z95 (q00 : Nat) (q03 : List Nat) (q02 : Nat) (q05 : List Nat) (q01 : Nat) (q04 : List Nat) (q06 : Nat) (q09 : List Nat) (q07 : Nat) (q0a : List Nat) (q08 : Nat) (q0b : List Nat) (x2 : Nat) := (neI (z92 q00 q03 q02 q05 q01 q04 q06 q09 q07 q0a q08 q0b x2) (z50 (z49 q00 q03 q02 q05 q01 q04 q06 q09 q07 q0a q08 q0b x2) (z7q q00 q03 q02 q05 q01 q04 q06 q09 q07 q0a q08 q0b x2) 0 (z6h q00 q03 q02 q05 q01 q04 q06 q09 q07 q0a q08 q0b x2)))
noncomputable def z7g {R : Type} (q00 : Nat) (q03 : List Nat) (q02 : Nat) (q05 : List Nat) (q01 : Nat) (q04 : List Nat) (q06 : Nat) (q09 : List Nat) (q07 : Nat) (q0a : List Nat) (q08 : Nat) (q0b : List Nat) (x2 : Nat) (k_ : Bool → Option R) : Option R := (grd (zby q00 (pF q03 0 (muN q00 1)) q02 (pF q05 0 (muN q02 1)) q01 (pF q04 0 (muN q01 1)) 1048576) (br (ltI (z7r q00 q03 q02 q05 q01 q04 q06 q09 q07 q0a q08 q0b x2) 0) (k_ Bool.true) (grd (zby q06 (pF q09 0 (muN q06 1)) q07 (pF q0a 0 (muN q07 1)) q08 (pF q0b 0 (muN q08 1)) (z7r q00 q03 q02 q05 q01 q04 q06 q09 q07 q0a q08 q0b x2)) (br (ltI (zbc q06 (pF q09 0 (muN q06 1)) q07 (pF q0a 0 (muN q07 1)) q08 (pF q0b 0 (muN q08 1)) (z7r q00 q03 q02 q05 q01 q04 q06 q09 q07 q0a q08 q0b x2)) 0) (k_ Bool.true) (grd (z77 q00 q03 q02 q05 q01 q04 q06 q09 q07 q0a q08 q0b x2) (grd (z76 q00 q03 q02 q05 q01 q04 q06 q09 q07 q0a q08 q0b x2) (grd (zdb (z17 q00 q03 q02 q05 q01 q04 q06 q09 q07 q0a q08 q0b x2) (z1x q00 q03 q02 q05 q01 q04 q06 q09 q07 q0a q08 q0b x2) (z11 q00 q03 q02 q05 q01 q04 q06 q09 q07 q0a q08 q0b x2) (z1t q00 q03 q02 q05 q01 q04 q06 q09 q07 q0a q08 q0b x2) (z18 q00 q03 q02 q05 q01 q04 q06 q09 q07 q0a q08 q0b x2) (z1w q00 q03 q02 q05 q01 q04 q06 q09 q07 q0a q08 q0b x2) (z1a q00 q03 q02 q05 q01 q04 q06 q09 q07 q0a q08 q0b x2) (z1u q00 q03 q02 q05 q01 q04 q06 q09 q07 q0a q08 q0b x2) (z10 q00 q03 q02 q05 q01 q04 q06 q09 q07 q0a q08 q0b x2) (z1y q00 q03 q02 q05 q01 q04 q06 q09 q07 q0a q08 q0b x2) (z19 q00 q03 q02 q05 q01 q04 q06 q09 q07 q0a q08 q0b x2) (z1v q00 q03 q02 q05 q01 q04 q06 q09 q07 q0a q08 q0b x2) x2) (grd (z77 q00 q03 q02 q05 q01 q04 q06 q09 q07 q0a q08 q0b x2) (grd (z76 q00 q03 q02 q05 q01 q04 q06 q09 q07 q0a q08 q0b x2) (grd (z8t q00 q03 q02 q05 q01 q04 q06 q09 q07 q0a q08 q0b x2) (grd (z7t q00 q03 q02 q05 q01 q04 q06 q09 q07 q0a q08 q0b x2) (br (z7u q00 q03 q02 q05 q01 q04 q06 q09 q07 q0a q08 q0b x2) (k_ Bool.false) (br (z7y q00 q03 q02 q05 q01 q04 q06 q09 q07 q0a q08 q0b x2) (k_ Bool.false) (grd (z77 q00 q03 q02 q05 q01 q04 q06 q09 q07 q0a q08 q0b x2) (grd (zar (z17 q00 q03 q02 q05 q01 q04 q06 q09 q07 q0a q08 q0b x2) (z1x q00 q03 q02 q05 q01 q04 q06 q09 q07 q0a q08 q0b x2) (z11 q00 q03 q02 q05 q01 q04 q06 q09 q07 q0a q08 q0b x2) (z1t q00 q03 q02 q05 q01 q04 q06 q09 q07 q0a q08 q0b x2) (z18 q00 q03 q02 q05 q01 q04 q06 q09 q07 q0a q08 q0b x2) (z1w q00 q03 q02 q05 q01 q04 q06 q09 q07 q0a q08 q0b x2) (z17 q00 q03 q02 q05 q01 q04 q06 q09 q07 q0a q08 q0b x2) (z1x q00 q03 q02 q05 q01 q04 q06 q09 q07 q0a q08 q0b x2) (z11 q00 q03 q02 q05 q01 q04 q06 q09 q07 q0a q08 q0b x2) (z1t q00 q03 q02 q05 q01 q04 q06 q09 q07 q0a q08 q0b x2) (z18 q00 q03 q02 q05 q01 q04 q06 q09 q07 q0a q08 q0b x2) (z1w q00 q03 q02 q05 q01 q04 q06 q09 q07 q0a q08 q0b x2)) (br (bnot (zaa (z17 q00 q03 q02 q05 q01 q04 q06 q09 q07 q0a q08 q0b x2) (z1x q00 q03 q02 q05 q01 q04 q06 q09 q07 q0a q08 q0b x2) (z11 q00 q03 q02 q05 q01 q04 q06 q09 q07 q0a q08 q0b x2) (z1t q00 q03 q02 q05 q01 q04 q06 q09 q07 q0a q08 q0b x2) (z18 q00 q03 q02 q05 q01 q04 q06 q09 q07 q0a q08 q0b x2) (z1w q00 q03 q02 q05 q01 q04 q06 q09 q07 q0a q08 q0b x2) (z17 q00 q03 q02 q05 q01 q04 q06 q09 q07 q0a q08 q0b x2) (z1x q00 q03 q02 q05 q01 q04 q06 q09 q07 q0a q08 q0b x2) (z11 q00 q03 q02 q05 q01 q04 q06 q09 q07 q0a q08 q0b x2) (z1t q00 q03 q02 q05 q01 q04 q06 q09 q07 q0a q08 q0b x2) (z18 q00 q03 q02 q05 q01 q04 q06 q09 q07 q0a q08 q0b x2) (z1w q00 q03 q02 q05 q01 q04 q06 q09 q07 q0a q08 q0b x2))) (k_ Bool.false) (grd (z76 q00 q03 q02 q05 q01 q04 q06 q09 q07 q0a q08 q0b x2) (grd (zar (z1a q00 q03 q02 q05 q01 q04 q06 q09 q07 q0a q08 q0b x2) (z1u q00 q03 q02 q05 q01 q04 q06 q09 q07 q0a q08 q0b x2) (z10 q00 q03 q02 q05 q01 q04 q06 q09 q07 q0a q08 q0b x2) (z1y q00 q03 q02 q05 q01 q04 q06 q09 q07 q0a q08 q0b x2) (z19 q00 q03 q02 q05 q01 q04 q06 q09 q07 q0a q08 q0b x2) (z1v q00 q03 q02 q05 q01 q04 q06 q09 q07 q0a q08 q0b x2) (z1a q00 q03 q02 q05 q01 q04 q06 q09 q07 q0a q08 q0b x2) (z1u q00 q03 q02 q05 q01 q04 q06 q09 q07 q0a q08 q0b x2) (z10 q00 q03 q02 q05 q01 q04 q06 q09 q07 q0a q08 q0b x2) (z1y q00 q03 q02 q05 q01 q04 q06 q09 q07 q0a q08 q0b x2) (z19 q00 q03 q02 q05 q01 q04 q06 q09 q07 q0a q08 q0b x2) (z1v q00 q03 q02 q05 q01 q04 q06 q09 q07 q0a q08 q0b x2)) (br (bnot (zaa (z1a q00 q03 q02 q05 q01 q04 q06 q09 q07 q0a q08 q0b x2) (z1u q00 q03 q02 q05 q01 q04 q06 q09 q07 q0a q08 q0b x2) (z10 q00 q03 q02 q05 q01 q04 q06 q09 q07 q0a q08 q0b x2) (z1y q00 q03 q02 q05 q01 q04 q06 q09 q07 q0a q08 q0b x2) (z19 q00 q03 q02 q05 q01 q04 q06 q09 q07 q0a q08 q0b x2) (z1v q00 q03 q02 q05 q01 q04 q06 q09 q07 q0a q08 q0b x2) (z1a q00 q03 q02 q05 q01 q04 q06 q09 q07 q0a q08 q0b x2) (z1u q00 q03 q02 q05 q01 q04 q06 q09 q07 q0a q08 q0b x2) (z10 q00 q03 q02 q05 q01 q04 q06 q09 q07 q0a q08 q0b x2) (z1y q00 q03 q02 q05 q01 q04 q06 q09 q07 q0a q08 q0b x2) (z19 q00 q03 q02 q05 q01 q04 q06 q09 q07 q0a q08 q0b x2) (z1v q00 q03 q02 q05 q01 q04 q06 q09 q07 q0a q08 q0b x2))) (k_ Bool.false) (grd (z61 (z17 q00 q03 q02 q05 q01 q04 q06 q09 q07 q0a q08 q0b x2) 1 0 (z8a q00 q03 q02 q05 q01 q04 q06 q09 q07 q0a q08 q0b x2)) (grd (z5c (z11 q00 q03 q02 q05 q01 q04 q06 q09 q07 q0a q08 q0b x2) (z93 q00 q03 q02 q05 q01 q04 q06 q09 q07 q0a q08 q0b x2) 0 (z89 q00 q03 q02 q05 q01 q04 q06 q09 q07 q0a q08 q0b x2)) (grd (z5i (z18 q00 q03 q02 q05 q01 q04 q06 q09 q07 q0a q08 q0b x2) (z98 q00 q03 q02 q05 q01 q04 q06 q09 q07 q0a q08 q0b x2) 0 (z87 q00 q03 q02 q05 q01 q04 q06 q09 q07 q0a q08 q0b x2)) (grd (z5l (z1a q00 q03 q02 q05 q01 q04 q06 q09 q07 q0a q08 q0b x2) (z94 q00 q03 q02 q05 q01 q04 q06 q09 q07 q0a q08 q0b x2) 0 (z7s q00 q03 q02 q05 q01 q04 q06 q09 q07 q0a q08 q0b x2)) (grd (z5m (z10 q00 q03 q02 q05 q01 q04 q06 q09 q07 q0a q08 q0b x2) (z90 q00 q03 q02 q05 q01 q04 q06 q09 q07 q0a q08 q0b x2) 0 (z86 q00 q03 q02 q05 q01 q04 q06 q09 q07 q0a q08 q0b x2)) (grd (z5j (z19 q00 q03 q02 q05 q01 q04 q06 q09 q07 q0a q08 q0b x2) (z8x q00 q03 q02 q05 q01 q04 q06 q09 q07 q0a q08 q0b x2) 0 (z7w q00 q03 q02 q05 q01 q04 q06 q09 q07 q0a q08 q0b x2)) (br (ltI (z51 (z19 q00 q03 q02 q05 q01 q04 q06 q09 q07 q0a q08 q0b x2) (z8x q00 q03 q02 q05 q01 q04 q06 q09 q07 q0a q08 q0b x2) 0 (z7w q00 q03 q02 q05 q01 q04 q06 q09 q07 q0a q08 q0b x2)) 0) (k_ Bool.false) (grd (z7t q00 q03 q02 q05 q01 q04 q06 q09 q07 q0a q08 q0b x2) (br (z7u q00 q03 q02 q05 q01 q04 q06 q09 q07 q0a q08 q0b x2) (k_ Bool.false) (br (z7y q00 q03 q02 q05 q01 q04 q06 q09 q07 q0a q08 q0b x2) (k_ Bool.false) (grd (z5o (z48 q00 q03 q02 q05 q01 q04 q06 q09 q07 q0a q08 q0b x2) 1 0 (z6g q00 q03 q02 q05 q01 q04 q06 q09 q07 q0a q08 q0b x2)) (grd (z5e (z4a q00 q03 q02 q05 q01 q04 q06 q09 q07 q0a q08 q0b x2) (z7v q00 q03 q02 q05 q01 q04 q06 q09 q07 q0a q08 q0b x2) 0 (z6i q00 q03 q02 q05 q01 q04 q06 q09 q07 q0a q08 q0b x2)) (grd (z5s (z49 q00 q03 q02 q05 q01 q04 q06 q09 q07 q0a q08 q0b x2) (z7q q00 q03 q02 q05 q01 q04 q06 q09 q07 q0a q08 q0b x2) 0 (z6h q00 q03 q02 q05 q01 q04 q06 q09 q07 q0a q08 q0b x2)) (grd (z8s q00 q03 q02 q05 q01 q04 q06 q09 q07 q0a q08 q0b x2) (br (z8q q00 q03 q02 q05 q01 q04 q06 q09 q07 q0a q08 q0b x2) (k_ Bool.false) (br (z95 q00 q03 q02 q05 q01 q04 q06 q09 q07 q0a q08 q0b x2) (k_ Bool.false) (grd (z77 q00 q03 q02 q05 q01 q04 q06 q09 q07 q0a q08 q0b x2) (grd (z76 q00 q03 q02 q05 q01 q04 q06 q09 q07 q0a q08 q0b x2) (grd (z8t q00 q03 q02 q05 q01 q04 q06 q09 q07 q0a q08 q0b x2) (grd (z7t q00 q03 q02 q05 q01 q04 q06 q09 q07 q0a q08 q0b x2) (br (z7u q00 q03 q02 q05 q01 q04 q06 q09 q07 q0a q08 q0b x2) (k_ Bool.false) (br (z7y q00 q03 q02 q05 q01 q04 q06 q09 q07 q0a q08 q0b x2) (k_ Bool.false) (grd (z8s q00 q03 q02 q05 q01 q04 q06 q09 q07 q0a q08 q0b x2) (br (z8q q00 q03 q02 q05 q01 q04 q06 q09 q07 q0a q08 q0b x2) (k_ Bool.false) (br (z95 q00 q03 q02 q05 q01 q04 q06 q09 q07 q0a q08 q0b x2) (k_ Bool.false) (k_ Bool.true)))))))))))))))))))))))))))))))))))))))))))))
noncomputable def z7h (q00 : Nat) (q03 : List Nat) (q02 : Nat) (q05 : List Nat) (q01 : Nat) (q04 : List Nat) (q06 : Nat) (q09 : List Nat) (q07 : Nat) (q0a : List Nat) (q08 : Nat) (q0b : List Nat) (x2 : Nat) : Option (Bool) := z7g q00 q03 q02 q05 q01 q04 q06 q09 q07 q0a q08 q0b x2 (fun c0_ => some c0_)
theorem zgd {R R' : Type} (o : Option R → Option R') (h0 : o none = none) (q00 : Nat) (q03 : List Nat) (q02 : Nat) (q05 : List Nat) (q01 : Nat) (q04 : List Nat) (q06 : Nat) (q09 : List Nat) (q07 : Nat) (q0a : List Nat) (q08 : Nat) (q0b : List Nat) (x2 : Nat) (k_ : Bool → Option R) : z7g q00 q03 q02 q05 q01 q04 q06 q09 q07 q0a q08 q0b x2 (fun c0_ => o (k_ c0_)) = o (z7g q00 q03 q02 q05 q01 q04 q06 q09 q07 q0a q08 q0b x2 k_) := by
  unfold z7g
  repeat (first | refine grd_out h0 ?_ | refine br_out ?_ ?_ | rfl | exact h0.symm)
noncomputable def zbg (q00 : Nat) (q03 : List Nat) (q02 : Nat) (q05 : List Nat) (q01 : Nat) (q04 : List Nat) (q06 : Nat) (q09 : List Nat) (q07 : Nat) (q0a : List Nat) (q08 : Nat) (q0b : List Nat) (x2 : Nat) : Bool := (z7h q00 q03 q02 q05 q01 q04 q06 q09 q07 q0a q08 q0b x2).isSome
noncomputable def zb6 (q00 : Nat) (q03 : List Nat) (q02 : Nat) (q05 : List Nat) (q01 : Nat) (q04 : List Nat) (q06 : Nat) (q09 : List Nat) (q07 : Nat) (q0a : List Nat) (q08 : Nat) (q0b : List Nat) (x2 : Nat) : Bool := ((z7h q00 q03 q02 q05 q01 q04 q06 q09 q07 q0a q08 q0b x2).getD default)
theorem zgr {q00 : Nat} {q03 : List Nat} {q02 : Nat} {q05 : List Nat} {q01 : Nat} {q04 : List Nat} {q06 : Nat} {q09 : List Nat} {q07 : Nat} {q0a : List Nat} {q08 : Nat} {q0b : List Nat} {x2 : Nat} {r : Bool} (h : z7h q00 q03 q02 q05 q01 q04 q06 q09 q07 q0a q08 q0b x2 = some r) : zbg q00 q03 q02 q05 q01 q04 q06 q09 q07 q0a q08 q0b x2 = true ∧ zb6 q00 q03 q02 q05 q01 q04 q06 q09 q07 q0a q08 q0b x2 = r := by
  unfold zbg zb6
  rw [h]
  exact ⟨rfl, rfl⟩
end Go.Rf
