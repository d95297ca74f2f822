import Derived.Test.YtdmbbllcgpicbaaB
set_option linter.unusedVariables false
set_option linter.unusedSimpArgs false
set_option maxRecDepth 100000
set_option maxHeartbeats 4000000
namespace Go.Rf
open Go
noncomputable def z88 {R : Type} (a : Nat) (b : Nat) (k_ : Bool → Option R) : Option R := (br (fcmp BinOp.neq FloatKind.f64 a a) (br (fcmp BinOp.neq FloatKind.f64 a a) (k_ (fcmp BinOp.neq FloatKind.f64 b b)) (k_ Bool.false)) (br (fcmp BinOp.neq FloatKind.f64 b b) (br (fcmp BinOp.neq FloatKind.f64 a a) (k_ (fcmp BinOp.neq FloatKind.f64 b b)) (k_ Bool.false)) (br (fcmp BinOp.eql FloatKind.f64 a 0) (br (fcmp BinOp.eql FloatKind.f64 b 0) (k_ (beqB (fcmp BinOp.gtr FloatKind.f64 (fop BinOp.quo FloatKind.f64 4607182418800017408 a) 0) (fcmp BinOp.gtr FloatKind.f64 (fop BinOp.quo FloatKind.f64 4607182418800017408 b) 0))) (k_ (fcmp BinOp.eql FloatKind.f64 a b))) (k_ (fcmp BinOp.eql FloatKind.f64 a b)))))
noncomputable def z83 (a : Nat) (b : Nat) : Option (Bool) := z88 a b (fun c0_ => some c0_)
theorem zfv {R R' : Type} (o : Option R → Option R') (h0 : o none = none) (a : Nat) (b : Nat) (k_ : Bool → Option R) : z88 a b (fun c0_ => o (k_ c0_)) = o (z88 a b k_) := by
  unfold z88
  repeat (first | refine grd_out h0 ?_ | refine br_out ?_ ?_ | rfl | exact h0.symm)
noncomputable def z5l (a : Nat) (b : Nat) : Bool := (z83 a b).isSome
noncomputable def z5h (a : Nat) (b : Nat) : Bool := ((z83 a b).getD default)
theorem z6d {a : Nat} {b : Nat} {r : Bool} (h : z83 a b = some r) : z5l a b = true ∧ z5h a b = r := by
  unfold z5l z5h
  rw [h]
  exact ⟨rfl, rfl⟩
noncomputable def zbu {R : Type} (n_ : Int) (low : Int) (q23 : Int) (k_ : Bool → Option R) : Option R := (br (leI low n_) (k_ (leI n_ q23)) (k_ Bool.false))
noncomputable def zbr (n_ : Int) (low : Int) (q23 : Int) : Option (Bool) := zbu n_ low q23 (fun c0_ => some c0_)
theorem zi7 {R R' : Type} (o : Option R → Option R') (h0 : o none = none) (n_ : Int) (low : Int) (q23 : Int) (k_ : Bool → Option R) : zbu n_ low q23 (fun c0_ => o (k_ c0_)) = o (zbu n_ low q23 k_) := by
  unfold zbu
  repeat (first | refine grd_out h0 ?_ | refine br_out ?_ ?_ | rfl | exact h0.symm)
noncomputable def zcu (n_ : Int) (low : Int) (q23 : Int) : Bool := (zbr n_ low q23).isSome
noncomputable def zcf (n_ : Int) (low : Int) (q23 : Int) : Bool := ((zbr n_ low q23).getD default)
theorem zgk {n_ : Int} {low : Int} {q23 : Int} {r : Bool} (h : zbr n_ low q23 = some r) : zcu n_ low q23 = true ∧ zcf n_ low q23 = r := by
  unfold zcu zcf
  rw [h]
  exact ⟨rfl, rfl⟩
noncomputable def z9g {R : Type} (x : Nat) (k_ : Bool → Option R) : Option R := (k_ (fcmp BinOp.eql FloatKind.f32 (fop BinOp.sub FloatKind.f32 x x) 0))
noncomputable def z9e (x : Nat) : Option (Bool) := z9g x (fun c0_ => some c0_)
theorem zgg {R R' : Type} (o : Option R → Option R') (h0 : o none = none) (x : Nat) (k_ : Bool → Option R) : z9g x (fun c0_ => o (k_ c0_)) = o (z9g x k_) := by
  unfold z9g
  repeat (first | refine grd_out h0 ?_ | refine br_out ?_ ?_ | rfl | exact h0.symm)
noncomputable def z51 (x : Nat) : Bool := (z9e x).isSome
noncomputable def z4s (x : Nat) : Bool := ((z9e x).getD default)
theorem z7m {x : Nat} {r : Bool} (h : z9e x = some r) : z51 x = true ∧ z4s x = r := by
  unfold z51 z4s
  rw [h]
  exact ⟨rfl, rfl⟩
noncomputable def z9z {R : Type} (n_ : Int) (low : Int) (q23 : Int) (k_ : Bool → Option R) : Option R := (br (leI low n_) (k_ (leI n_ q23)) (k_ Bool.false))
noncomputable def z9y (n_ : Int) (low : Int) (q23 : Int) : Option (Bool) := z9z n_ low q23 (fun c0_ => some c0_)
theorem zhq {R R' : Type} (o : Option R → Option R') (h0 : o none = none) (n_ : Int) (low : Int) (q23 : Int) (k_ : Bool → Option R) : z9z n_ low q23 (fun c0_ => o (k_ c0_)) = o (z9z n_ low q23 k_) := by
  unfold z9z
  repeat (first | refine grd_out h0 ?_ | refine br_out ?_ ?_ | rfl | exact h0.symm)
noncomputable def zcg (n_ : Int) (low : Int) (q23 : Int) : Bool := (z9y n_ low q23).isSome
noncomputable def zbh (n_ : Int) (low : Int) (q23 : Int) : Bool := ((z9y n_ low q23).getD default)
theorem zf5 {n_ : Int} {low : Int} {q23 : Int} {r : Bool} (h : z9y n_ low q23 = some r) : zcg n_ low q23 = true ∧ zbh n_ low q23 = r := by
  unfold zcg zbh
  rw [h]
  exact ⟨rfl, rfl⟩
noncomputable def z8n {R : Type} (x : Nat) (low : Nat) (q23 : Nat) (k_ : Bool → Option R) : Option R := (br (fcmp BinOp.geq FloatKind.f32 x low) (k_ (fcmp BinOp.leq FloatKind.f32 x q23)) (k_ Bool.false))
noncomputable def z8r (x : Nat) (low : Nat) (q23 : Nat) : Option (Bool) := z8n x low q23 (fun c0_ => some c0_)
theorem zgm {R R' : Type} (o : Option R → Option R') (h0 : o none = none) (x : Nat) (low : Nat) (q23 : Nat) (k_ : Bool → Option R) : z8n x low q23 (fun c0_ => o (k_ c0_)) = o (z8n x low q23 k_) := by
  unfold z8n
  repeat (first | refine grd_out h0 ?_ | refine br_out ?_ ?_ | rfl | exact h0.symm)
noncomputable def zcr (x : Nat) (low : Nat) (q23 : Nat) : Bool := (z8r x low q23).isSome
noncomputable def zc8 (x : Nat) (low : Nat) (q23 : Nat) : Bool := ((z8r x low q23).getD default)
theorem zif {x : Nat} {low : Nat} {q23 : Nat} {r : Bool} (h : z8r x low q23 = some r) : zcr x low q23 = true ∧ zc8 x low q23 = r := by
  unfold zcr zc8
  rw [h]
  exact ⟨rfl, rfl⟩
noncomputable def z7b {R : Type} (a_n : Nat) (a : List Nat) (q1q : Int) (k_ : Int → Option R) : Option R := (br (ltI (subI IntKind.i64 q1q (Int.ofNat a_n)) 0) (k_ (Int.negSucc 0)) (k_ (subI IntKind.i64 q1q (Int.ofNat a_n))))
noncomputable def z7g (a_n : Nat) (a : List Nat) (q1q : Int) : Option (Int) := z7b a_n a q1q (fun c0_ => some c0_)
theorem zfq {R R' : Type} (o : Option R → Option R') (h0 : o none = none) (a_n : Nat) (a : List Nat) (q1q : Int) (k_ : Int → Option R) : z7b a_n a q1q (fun c0_ => o (k_ c0_)) = o (z7b a_n a q1q k_) := by
  unfold z7b
  repeat (first | refine grd_out h0 ?_ | refine br_out ?_ ?_ | rfl | exact h0.symm)
noncomputable def z7o (a_n : Nat) (a : List Nat) (q1q : Int) : Bool := (z7g a_n a q1q).isSome
noncomputable def z44 (a_n : Nat) (a : List Nat) (q1q : Int) : Int := ((z7g a_n a q1q).getD default)
theorem zcz {a_n : Nat} {a : List Nat} {q1q : Int} {r : Int} (h : z7g a_n a q1q = some r) : z7o a_n a q1q = true ∧ z44 a_n a q1q = r := by
  unfold z7o z44
  rw [h]
  exact ⟨rfl, rfl⟩
noncomputable def zag {R : Type} (x : Nat) (k_ : Bool → Option R) : Option R := (k_ (fcmp BinOp.eql FloatKind.f32 (fop BinOp.sub FloatKind.f32 x x) 0))
noncomputable def zab (x : Nat) : Option (Bool) := zag x (fun c0_ => some c0_)
theorem zgo {R R' : Type} (o : Option R → Option R') (h0 : o none = none) (x : Nat) (k_ : Bool → Option R) : zag x (fun c0_ => o (k_ c0_)) = o (zag x k_) := by
  unfold zag
  repeat (first | refine grd_out h0 ?_ | refine br_out ?_ ?_ | rfl | exact h0.symm)
noncomputable def z5t (x : Nat) : Bool := (zab x).isSome
noncomputable def z5m (x : Nat) : Bool := ((zab x).getD default)
theorem z8b {x : Nat} {r : Bool} (h : zab x = some r) : z5t x = true ∧ z5m x = r := by
  unfold z5t z5m
  rw [h]
  exact ⟨rfl, rfl⟩
noncomputable def z7d {R : Type} (a_n : Nat) (a : List Nat) (q1q : Int) (k_ : Int → Option R) : Option R := (br (ltI (subI IntKind.i64 q1q (Int.ofNat a_n)) 0) (k_ (Int.negSucc 0)) (k_ (subI IntKind.i64 q1q (Int.ofNat a_n))))
noncomputable def z7s (a_n : Nat) (a : List Nat) (q1q : Int) : Option (Int) := z7d a_n a q1q (fun c0_ => some c0_)
theorem zfo {R R' : Type} (o : Option R → Option R') (h0 : o none = none) (a_n : Nat) (a : List Nat) (q1q : Int) (k_ : Int → Option R) : z7d a_n a q1q (fun c0_ => o (k_ c0_)) = o (z7d a_n a q1q k_) := by
  unfold z7d
  repeat (first | refine grd_out h0 ?_ | refine br_out ?_ ?_ | rfl | exact h0.symm)
noncomputable def zb5 (a_n : Nat) (a : List Nat) (q1q : Int) : Bool := (z7s a_n a q1q).isSome
noncomputable def z8h (a_n : Nat) (a : List Nat) (q1q : Int) : Int := ((z7s a_n a q1q).getD default)
theorem zh1 {a_n : Nat} {a : List Nat} {q1q : Int} {r : Int} (h : z7s a_n a q1q = some r) : zb5 a_n a q1q = true ∧ z8h a_n a q1q = r := by
  unfold zb5 z8h
  rw [h]
  exact ⟨rfl, rfl⟩
noncomputable def z6z {R : Type} (q04 : Nat) (q07 : List Nat) (q05 : Nat) (q09 : List Nat) (q06 : Nat) (q0a : List Nat) (q0d : Nat) (q0i : List Nat) (q0r : Int) (q15 : Nat) (q16 : Nat) (i : Int) (k_ : Nat → Option R) : Option R := (grd (okIx i q0d) (k_ (fop BinOp.quo FloatKind.f32 (fop BinOp.mul FloatKind.f32 (fOI FloatKind.f32 q0r) (gF q0i (Nat.succ (ixO 0 i 3)))) (fop BinOp.mul FloatKind.f32 1086918619 (gF q0i (ixO 0 i 3))))))
noncomputable def z6v (q04 : Nat) (q07 : List Nat) (q05 : Nat) (q09 : List Nat) (q06 : Nat) (q0a : List Nat) (q0d : Nat) (q0i : List Nat) (q0r : Int) (q15 : Nat) (q16 : Nat) (i : Int) : Option (Nat) := z6z q04 q07 q05 q09 q06 q0a q0d q0i q0r q15 q16 i (fun c0_ => some c0_)
theorem zer {R R' : Type} (o : Option R → Option R') (h0 : o none = none) (q04 : Nat) (q07 : List Nat) (q05 : Nat) (q09 : List Nat) (q06 : Nat) (q0a : List Nat) (q0d : Nat) (q0i : List Nat) (q0r : Int) (q15 : Nat) (q16 : Nat) (i : Int) (k_ : Nat → Option R) : z6z q04 q07 q05 q09 q06 q0a q0d q0i q0r q15 q16 i (fun c0_ => o (k_ c0_)) = o (z6z q04 q07 q05 q09 q06 q0a q0d q0i q0r q15 q16 i k_) := by
  unfold z6z
  repeat (first | refine grd_out h0 ?_ | refine br_out ?_ ?_ | rfl | exact h0.symm)
noncomputable def za4 (q04 : Nat) (q07 : List Nat) (q05 : Nat) (q09 : List Nat) (q06 : Nat) (q0a : List Nat) (q0d : Nat) (q0i : List Nat) (q0r : Int) (q15 : Nat) (q16 : Nat) (i : Int) : Bool := (z6v q04 q07 q05 q09 q06 q0a q0d q0i q0r q15 q16 i).isSome
noncomputable def z6k (q04 : Nat) (q07 : List Nat) (q05 : Nat) (q09 : List Nat) (q06 : Nat) (q0a : List Nat) (q0d : Nat) (q0i : List Nat) (q0r : Int) (q15 : Nat) (q16 : Nat) (i : Int) : Nat := ((z6v q04 q07 q05 q09 q06 q0a q0d q0i q0r q15 q16 i).getD default)
theorem zgu {q04 : Nat} {q07 : List Nat} {q05 : Nat} {q09 : List Nat} {q06 : Nat} {q0a : List Nat} {q0d : Nat} {q0i : List Nat} {q0r : Int} {q15 : Nat} {q16 : Nat} {i : Int} {r : Nat} (h : z6v q04 q07 q05 q09 q06 q0a q0d q0i q0r q15 q16 i = some r) : za4 q04 q07 q05 q09 q06 q0a q0d q0i q0r q15 q16 i = true ∧ z6k q04 q07 q05 q09 q06 q0a q0d q0i q0r q15 q16 i = r := by
  unfold za4 z6k
  rw [h]
  exact ⟨rfl, rfl⟩
noncomputable def z60 {R : Type} (q04 : Nat) (q07 : List Nat) (q05 : Nat) (q09 : List Nat) (q06 : Nat) (q0a : List Nat) (q0d : Nat) (q0i : List Nat) (q0r : Int) (q15 : Nat) (q16 : Nat) (i : Int) (k_ : Nat → Option R) : Option R := (grd (okIx i q0d) (grd (okIx i q0d) (k_ (fop BinOp.quo FloatKind.f32 (fop BinOp.mul FloatKind.f32 (fOI FloatKind.f32 q0r) (gF q0i (Nat.succ (ixO 0 i 3)))) (fop BinOp.mul FloatKind.f32 1086918619 (gF q0i (ixO 0 i 3)))))))
noncomputable def z61 (q04 : Nat) (q07 : List Nat) (q05 : Nat) (q09 : List Nat) (q06 : Nat) (q0a : List Nat) (q0d : Nat) (q0i : List Nat) (q0r : Int) (q15 : Nat) (q16 : Nat) (i : Int) : Option (Nat) := z60 q04 q07 q05 q09 q06 q0a q0d q0i q0r q15 q16 i (fun c0_ => some c0_)
theorem zdx {R R' : Type} (o : Option R → Option R') (h0 : o none = none) (q04 : Nat) (q07 : List Nat) (q05 : Nat) (q09 : List Nat) (q06 : Nat) (q0a : List Nat) (q0d : Nat) (q0i : List Nat) (q0r : Int) (q15 : Nat) (q16 : Nat) (i : Int) (k_ : Nat → Option R) : z60 q04 q07 q05 q09 q06 q0a q0d q0i q0r q15 q16 i (fun c0_ => o (k_ c0_)) = o (z60 q04 q07 q05 q09 q06 q0a q0d q0i q0r q15 q16 i k_) := by
  unfold z60
  repeat (first | refine grd_out h0 ?_ | refine br_out ?_ ?_ | rfl | exact h0.symm)
noncomputable def z8o (q04 : Nat) (q07 : List Nat) (q05 : Nat) (q09 : List Nat) (q06 : Nat) (q0a : List Nat) (q0d : Nat) (q0i : List Nat) (q0r : Int) (q15 : Nat) (q16 : Nat) (i : Int) : Bool := (z61 q04 q07 q05 q09 q06 q0a q0d q0i q0r q15 q16 i).isSome
noncomputable def z5v (q04 : Nat) (q07 : List Nat) (q05 : Nat) (q09 : List Nat) (q06 : Nat) (q0a : List Nat) (q0d : Nat) (q0i : List Nat) (q0r : Int) (q15 : Nat) (q16 : Nat) (i : Int) : Nat := ((z61 q04 q07 q05 q09 q06 q0a q0d q0i q0r q15 q16 i).getD default)
theorem zez {q04 : Nat} {q07 : List Nat} {q05 : Nat} {q09 : List Nat} {q06 : Nat} {q0a : List Nat} {q0d : Nat} {q0i : List Nat} {q0r : Int} {q15 : Nat} {q16 : Nat} {i : Int} {r : Nat} (h : z61 q04 q07 q05 q09 q06 q0a q0d q0i q0r q15 q16 i = some r) : z8o q04 q07 q05 q09 q06 q0a q0d q0i q0r q15 q16 i = true ∧ z5v q04 q07 q05 q09 q06 q0a q0d q0i q0r q15 q16 i = r := by
  unfold z8o z5v
  rw [h]
  exact ⟨rfl, rfl⟩
noncomputable def z9b {R : Type} (q1y : Nat) (q1z : Nat) (q20 : Nat) (k_ : Unit → Option R) : Option R := (k_ ())
noncomputable def ze0 (q1y : Nat) (q1z : Nat) (q20 : Nat) : Option (Unit) := z9b q1y q1z q20 (fun _ => some ())
theorem zgi {R R' : Type} (o : Option R → Option R') (h0 : o none = none) (q1y : Nat) (q1z : Nat) (q20 : Nat) (k_ : Unit → Option R) : z9b q1y q1z q20 (fun _ => o (k_ ())) = o (z9b q1y q1z q20 k_) := by
  unfold z9b
  repeat (first | refine grd_out h0 ?_ | refine br_out ?_ ?_ | rfl | exact h0.symm)
noncomputable def zd7 (q1y : Nat) (q1z : Nat) (q20 : Nat) : Bool := (ze0 q1y q1z q20).isSome
noncomputable def z8d {R : Type} (q0t : Nat) (q18 : List Nat) (q0z : Nat) (q1b : List Nat) (q12 : Nat) (q1f : List Nat) (q1q : Int) (k_ : Int → Option R) : Option R := (grd (z7o q0t (pF q18 0 (muN q0t 1)) q1q) (br (ltI (z44 q0t (pF q18 0 (muN q0t 1)) q1q) 0) (k_ (Int.negSucc 0)) (grd (z7o q0z (pF q1b 0 (muN q0z 1)) (z44 q0t (pF q18 0 (muN q0t 1)) q1q)) (br (ltI (z44 q0z (pF q1b 0 (muN q0z 1)) (z44 q0t (pF q18 0 (muN q0t 1)) q1q)) 0) (k_ (Int.negSucc 0)) (grd (z7o q12 (pF q1f 0 (muN q12 1)) (z44 q0z (pF q1b 0 (muN q0z 1)) (z44 q0t (pF q18 0 (muN q0t 1)) q1q))) (br (ltI (z44 q12 (pF q1f 0 (muN q12 1)) (z44 q0z (pF q1b 0 (muN q0z 1)) (z44 q0t (pF q18 0 (muN q0t 1)) q1q))) 0) (k_ (Int.negSucc 0)) (k_ (z44 q12 (pF q1f 0 (muN q12 1)) (z44 q0z (pF q1b 0 (muN q0z 1)) (z44 q0t (pF q18 0 (muN q0t 1)) q1q))))))))))
noncomputable def z89 (q0t : Nat) (q18 : List Nat) (q0z : Nat) (q1b : List Nat) (q12 : Nat) (q1f : List Nat) (q1q : Int) : Option (Int) := z8d q0t q18 q0z q1b q12 q1f q1q (fun c0_ => some c0_)
theorem zg2 {R R' : Type} (o : Option R → Option R') (h0 : o none = none) (q0t : Nat) (q18 : List Nat) (q0z : Nat) (q1b : List Nat) (q12 : Nat) (q1f : List Nat) (q1q : Int) (k_ : Int → Option R) : z8d q0t q18 q0z q1b q12 q1f q1q (fun c0_ => o (k_ c0_)) = o (z8d q0t q18 q0z q1b q12 q1f q1q k_) := by
  unfold z8d
  repeat (first | refine grd_out h0 ?_ | refine br_out ?_ ?_ | rfl | exact h0.symm)
noncomputable def zc7 (q0t : Nat) (q18 : List Nat) (q0z : Nat) (q1b : List Nat) (q12 : Nat) (q1f : List Nat) (q1q : Int) : Bool := (z89 q0t q18 q0z q1b q12 q1f q1q).isSome
noncomputable def z6h (q0t : Nat) (q18 : List Nat) (q0z : Nat) (q1b : List Nat) (q12 : Nat) (q1f : List Nat) (q1q : Int) : Int := ((z89 q0t q18 q0z q1b q12 q1f q1q).getD default)
theorem zho {q0t : Nat} {q18 : List Nat} {q0z : Nat} {q1b : List Nat} {q12 : Nat} {q1f : List Nat} {q1q : Int} {r : Int} (h : z89 q0t q18 q0z q1b q12 q1f q1q = some r) : zc7 q0t q18 q0z q1b q12 q1f q1q = true ∧ z6h q0t q18 q0z q1b q12 q1f q1q = r := by
  unfold zc7 z6h
  rw [h]
  exact ⟨rfl, rfl⟩
noncomputable def z8t {R : Type} (x : Nat) (k_ : Bool → Option R) : Option R := (grd (z51 x) (br (z4s x) (k_ (fcmp BinOp.geq FloatKind.f32 x 0)) (k_ Bool.false)))
noncomputable def z8k (x : Nat) : Option (Bool) := z8t x (fun c0_ => some c0_)
theorem zgq {R R' : Type} (o : Option R → Option R') (h0 : o none = none) (x : Nat) (k_ : Bool → Option R) : z8t x (fun c0_ => o (k_ c0_)) = o (z8t x k_) := by
  unfold z8t
  repeat (first | refine grd_out h0 ?_ | refine br_out ?_ ?_ | rfl | exact h0.symm)
noncomputable def z6i (x : Nat) : Bool := (z8k x).isSome
noncomputable def z65 (x : Nat) : Bool := ((z8k x).getD default)
theorem ze2 {x : Nat} {r : Bool} (h : z8k x = some r) : z6i x = true ∧ z65 x = r := by
  unfold z6i z65
  rw [h]
  exact ⟨rfl, rfl⟩
noncomputable def z99 {R : Type} (x : Nat) (k_ : Bool → Option R) : Option R := (grd (z5t x) (br (z5m x) (k_ (fcmp BinOp.geq FloatKind.f32 x 0)) (k_ Bool.false)))
noncomputable def z96 (x : Nat) : Option (Bool) := z99 x (fun c0_ => some c0_)
theorem zha {R R' : Type} (o : Option R → Option R') (h0 : o none = none) (x : Nat) (k_ : Bool → Option R) : z99 x (fun c0_ => o (k_ c0_)) = o (z99 x k_) := by
  unfold z99
  repeat (first | refine grd_out h0 ?_ | refine br_out ?_ ?_ | rfl | exact h0.symm)
noncomputable def zbj (x : Nat) : Bool := (z96 x).isSome
noncomputable def zae (x : Nat) : Bool := ((z96 x).getD default)
theorem zep {x : Nat} {r : Bool} (h : z96 x = some r) : zbj x = true ∧ zae x = r := by
  unfold zbj zae
  rw [h]
  exact ⟨rfl, rfl⟩
noncomputable def z93 {R : Type} (x : Nat) (k_ : Nat → Bool → Option R) : Option R := (grd (z5t x) (br (bnot (z5m x)) (k_ 0 Bool.false) (k_ x Bool.true)))
noncomputable def z87 (x : Nat) : Option (Nat × Bool) := z93 x (fun c0_ c1_ => some (c0_, c1_))
theorem zh8 {R R' : Type} (o : Option R → Option R') (h0 : o none = none) (x : Nat) (k_ : Nat → Bool → Option R) : z93 x (fun c0_ c1_ => o (k_ c0_ c1_)) = o (z93 x k_) := by
  unfold z93
  repeat (first | refine grd_out h0 ?_ | refine br_out ?_ ?_ | rfl | exact h0.symm)
noncomputable def zd3 (x : Nat) : Bool := (z87 x).isSome
noncomputable def zcq (x : Nat) : Nat := ((z87 x).getD default).1
noncomputable def zcp (x : Nat) : Bool := ((z87 x).getD default).2
theorem ziu {x : Nat} {r : Nat × Bool} (h : z87 x = some r) : zd3 x = true ∧ zcq x = r.1 ∧ zcp x = r.2 := by
  unfold zd3 zcq zcp
  rw [h]
  exact ⟨rfl, rfl, rfl⟩
noncomputable def z8s {R : Type} (x : Nat) (k_ : Bool → Option R) : Option R := (grd (z51 x) (br (z4s x) (k_ (fcmp BinOp.gtr FloatKind.f32 x 0)) (k_ Bool.false)))
noncomputable def z8p (x : Nat) : Option (Bool) := z8s x (fun c0_ => some c0_)
theorem zgv {R R' : Type} (o : Option R → Option R') (h0 : o none = none) (x : Nat) (k_ : Bool → Option R) : z8s x (fun c0_ => o (k_ c0_)) = o (z8s x k_) := by
  unfold z8s
  repeat (first | refine grd_out h0 ?_ | refine br_out ?_ ?_ | rfl | exact h0.symm)
noncomputable def zcj (x : Nat) : Bool := (z8p x).isSome
noncomputable def zcc (x : Nat) : Bool := ((z8p x).getD default)
theorem zi4 {x : Nat} {r : Bool} (h : z8p x = some r) : zcj x = true ∧ zcc x = r := by
  unfold zcj zcc
  rw [h]
  exact ⟨rfl, rfl⟩
noncomputable def z8c {R : Type} (x : Nat) (k_ : Nat → Bool → Option R) : Option R := (grd (z51 x) (br (bnot (z4s x)) (k_ 0 Bool.false) (k_ x Bool.true)))
noncomputable def z6q (x : Nat) : Option (Nat × Bool) := z8c x (fun c0_ c1_ => some (c0_, c1_))
theorem zfy {R R' : Type} (o : Option R → Option R') (h0 : o none = none) (x : Nat) (k_ : Nat → Bool → Option R) : z8c x (fun c0_ c1_ => o (k_ c0_ c1_)) = o (z8c x k_) := by
  unfold z8c
  repeat (first | refine grd_out h0 ?_ | refine br_out ?_ ?_ | rfl | exact h0.symm)
noncomputable def zcd (x : Nat) : Bool := (z6q x).isSome
noncomputable def zbc (x : Nat) : Nat := ((z6q x).getD default).1
noncomputable def zb7 (x : Nat) : Bool := ((z6q x).getD default).2
theorem zhs {x : Nat} {r : Nat × Bool} (h : z6q x = some r) : zcd x = true ∧ zbc x = r.1 ∧ zb7 x = r.2 := by
  unfold zcd zbc zb7
  rw [h]
  exact ⟨rfl, rfl, rfl⟩
noncomputable def z5w {R : Type} (q04 : Nat) (q07 : List Nat) (q05 : Nat) (q09 : List Nat) (q06 : Nat) (q0a : List Nat) (q0d : Nat) (q0i : List Nat) (q0r : Int) (q15 : Nat) (q16 : Nat) (i : Int) (k_ : Bool → Option R) : Option R := (grd (zcg i 0 (subI IntKind.i64 (Int.ofNat q0d) 1)) (k_ (zbh i 0 (subI IntKind.i64 (Int.ofNat q0d) 1))))
noncomputable def z5x (q04 : Nat) (q07 : List Nat) (q05 : Nat) (q09 : List Nat) (q06 : Nat) (q0a : List Nat) (q0d : Nat) (q0i : List Nat) (q0r : Int) (q15 : Nat) (q16 : Nat) (i : Int) : Option (Bool) := z5w q04 q07 q05 q09 q06 q0a q0d q0i q0r q15 q16 i (fun c0_ => some c0_)
theorem zdk {R R' : Type} (o : Option R → Option R') (h0 : o none = none) (q04 : Nat) (q07 : List Nat) (q05 : Nat) (q09 : List Nat) (q06 : Nat) (q0a : List Nat) (q0d : Nat) (q0i : List Nat) (q0r : Int) (q15 : Nat) (q16 : Nat) (i : Int) (k_ : Bool → Option R) : z5w q04 q07 q05 q09 q06 q0a q0d q0i q0r q15 q16 i (fun c0_ => o (k_ c0_)) = o (z5w q04 q07 q05 q09 q06 q0a q0d q0i q0r q15 q16 i k_) := by
  unfold z5w
  repeat (first | refine grd_out h0 ?_ | refine br_out ?_ ?_ | rfl | exact h0.symm)
noncomputable def z8f (q04 : Nat) (q07 : List Nat) (q05 : Nat) (q09 : List Nat) (q06 : Nat) (q0a : List Nat) (q0d : Nat) (q0i : List Nat) (q0r : Int) (q15 : Nat) (q16 : Nat) (i : Int) : Bool := (z5x q04 q07 q05 q09 q06 q0a q0d q0i q0r q15 q16 i).isSome
noncomputable def z7x (q04 : Nat) (q07 : List Nat) (q05 : Nat) (q09 : List Nat) (q06 : Nat) (q0a : List Nat) (q0d : Nat) (q0i : List Nat) (q0r : Int) (q15 : Nat) (q16 : Nat) (i : Int) : Bool := ((z5x q04 q07 q05 q09 q06 q0a q0d q0i q0r q15 q16 i).getD default)
theorem zej {q04 : Nat} {q07 : List Nat} {q05 : Nat} {q09 : List Nat} {q06 : Nat} {q0a : List Nat} {q0d : Nat} {q0i : List Nat} {q0r : Int} {q15 : Nat} {q16 : Nat} {i : Int} {r : Bool} (h : z5x q04 q07 q05 q09 q06 q0a q0d q0i q0r q15 q16 i = some r) : z8f q04 q07 q05 q09 q06 q0a q0d q0i q0r q15 q16 i = true ∧ z7x q04 q07 q05 q09 q06 q0a q0d q0i q0r q15 q16 i = r := by
  unfold z8f z7x
  rw [h]
  exact ⟨rfl, rfl⟩
noncomputable def z70 {R : Type} (x : Nat) (k_ : Bool → Option R) : Option R := (grd (z5t x) (k_ (bnot (z5m x))))
noncomputable def z6t (x : Nat) : Option (Bool) := z70 x (fun c0_ => some c0_)
theorem zf2 {R R' : Type} (o : Option R → Option R') (h0 : o none = none) (x : Nat) (k_ : Bool → Option R) : z70 x (fun c0_ => o (k_ c0_)) = o (z70 x k_) := by
  unfold z70
  repeat (first | refine grd_out h0 ?_ | refine br_out ?_ ?_ | rfl | exact h0.symm)
noncomputable def zaf (x : Nat) : Bool := (z6t x).isSome
noncomputable def z9i (x : Nat) : Bool := ((z6t x).getD default)
theorem zgp {x : Nat} {r : Bool} (h : z6t x = some r) : zaf x = true ∧ z9i x = r := by
  unfold zaf z9i
  rw [h]
  exact ⟨rfl, rfl⟩
noncomputable def z8e {R : Type} (q1y : Nat) (q1z : Nat) (q20 : Nat) (q2d : Nat) (q2i : Nat) (q2f : Nat) (k_ : Bool → Option R) : Option R := (grd (z5l (fcvV FloatKind.f32 FloatKind.f64 q1y) (fcvV FloatKind.f32 FloatKind.f64 q2d)) (br (bnot (z5h (fcvV FloatKind.f32 FloatKind.f64 q1y) (fcvV FloatKind.f32 FloatKind.f64 q2d))) (k_ Bool.false) (grd (z5l (fcvV FloatKind.f32 FloatKind.f64 q1z) (fcvV FloatKind.f32 FloatKind.f64 q2i)) (br (bnot (z5h (fcvV FloatKind.f32 FloatKind.f64 q1z) (fcvV FloatKind.f32 FloatKind.f64 q2i))) (k_ Bool.false) (grd (z5l (fcvV FloatKind.f32 FloatKind.f64 q20) (fcvV FloatKind.f32 FloatKind.f64 q2f)) (br (bnot (z5h (fcvV FloatKind.f32 FloatKind.f64 q20) (fcvV FloatKind.f32 FloatKind.f64 q2f))) (k_ Bool.false) (k_ Bool.true)))))))
noncomputable def z8a (q1y : Nat) (q1z : Nat) (q20 : Nat) (q2d : Nat) (q2i : Nat) (q2f : Nat) : Option (Bool) := z8e q1y q1z q20 q2d q2i q2f (fun c0_ => some c0_)
theorem zgh {R R' : Type} (o : Option R → Option R') (h0 : o none = none) (q1y : Nat) (q1z : Nat) (q20 : Nat) (q2d : Nat) (q2i : Nat) (q2f : Nat) (k_ : Bool → Option R) : z8e q1y q1z q20 q2d q2i q2f (fun c0_ => o (k_ c0_)) = o (z8e q1y q1z q20 q2d q2i q2f k_) := by
  unfold z8e
  repeat (first | refine grd_out h0 ?_ | refine br_out ?_ ?_ | rfl | exact h0.symm)
noncomputable def zc4 (q1y : Nat) (q1z : Nat) (q20 : Nat) (q2d : Nat) (q2i : Nat) (q2f : Nat) : Bool := (z8a q1y q1z q20 q2d q2i q2f).isSome
noncomputable def zba (q1y : Nat) (q1z : Nat) (q20 : Nat) (q2d : Nat) (q2i : Nat) (q2f : Nat) : Bool := ((z8a q1y q1z q20 q2d q2i q2f).getD default)
theorem zhw {q1y : Nat} {q1z : Nat} {q20 : Nat} {q2d : Nat} {q2i : Nat} {q2f : Nat} {r : Bool} (h : z8a q1y q1z q20 q2d q2i q2f = some r) : zc4 q1y q1z q20 q2d q2i q2f = true ∧ zba q1y q1z q20 q2d q2i q2f = r := by
  unfold zc4 zba
  rw [h]
  exact ⟨rfl, rfl⟩
noncomputable def z67 {R : Type} (x : Nat) (k_ : Bool → Option R) : Option R := (grd (z5t x) (br (bnot (z5m x)) (k_ Bool.true) (k_ (fcmp BinOp.leq FloatKind.f32 x 0))))
noncomputable def z68 (x : Nat) : Option (Bool) := z67 x (fun c0_ => some c0_)
theorem zec {R R' : Type} (o : Option R → Option R') (h0 : o none = none) (x : Nat) (k_ : Bool → Option R) : z67 x (fun c0_ => o (k_ c0_)) = o (z67 x k_) := by
  unfold z67
  repeat (first | refine grd_out h0 ?_ | refine br_out ?_ ?_ | rfl | exact h0.symm)
noncomputable def z92 (x : Nat) : Bool := (z68 x).isSome
noncomputable def z8m (x : Nat) : Bool := ((z68 x).getD default)
theorem zfm {x : Nat} {r : Bool} (h : z68 x = some r) : z92 x = true ∧ z8m x = r := by
  unfold z92 z8m
  rw [h]
  exact ⟨rfl, rfl⟩
noncomputable def z55 {R : Type} (an : Nat) (q1x : Nat) (b0 : List Nat) (i : Int) (b1 : List Nat) (kn_ : Int → (List Nat) → Option R) (k0_ : Int → Bool → (List Nat) → Option R) : Option R := (br (ltI i (Int.ofNat an)) (grd (okIx i an) (grd (okIx i q1x) (kn_ (addI IntKind.i64 i 1) (sF b1 (ixO 0 i 1) (gF b0 (ixO 0 i 1)))))) (k0_ i (ltI i (Int.ofNat an)) b1))
theorem zdy {R R' : Type} (o : Option R → Option R') (h0 : o none = none) (an : Nat) (q1x : Nat) (b0 : List Nat) (i : Int) (b1 : List Nat) (kn_ : Int → (List Nat) → Option R) (k0_ : Int → Bool → (List Nat) → Option R) : z55 an q1x b0 i b1 (fun i' b1' => o (kn_ i' b1')) (fun c0_ c1_ c2_ => o (k0_ c0_ c1_ c2_)) = o (z55 an q1x b0 i b1 kn_ k0_) := by
  unfold z55
  repeat (first | refine grd_out h0 ?_ | refine br_out ?_ ?_ | rfl | exact h0.symm)
noncomputable def z4g (an : Nat) (q1x : Nat) (b0 : List Nat) : Nat → Int → (List Nat) → Option ((Int × Bool × (List Nat)))
  | 0, _, _ => none
  | n + 1, i, b1 => z55 an q1x b0  i b1  (fun i' b1' => z4g an q1x b0 n i' b1') (fun c0_ c1_ c2_ => some (c0_, c1_, c2_))
theorem zcl (an : Nat) (q1x : Nat) (b0 : List Nat) (n : Nat) (i : Int) (b1 : List Nat) : z4g an q1x b0 (n + 1) i b1 = z55 an q1x b0  i b1  (fun i' b1' => z4g an q1x b0 n i' b1') (fun c0_ c1_ c2_ => some (c0_, c1_, c2_)) := rfl
noncomputable def z79 (an : Nat) (q1x : Nat) (b0 : List Nat) (i : Int) (b1 : List Nat) : Bool := (z4g an q1x b0 big i b1).isSome
noncomputable def z9x (an : Nat) (q1x : Nat) (b0 : List Nat) (i : Int) (b1 : List Nat) : Int := ((z4g an q1x b0 big i b1).getD default).1
noncomputable def z9s (an : Nat) (q1x : Nat) (b0 : List Nat) (i : Int) (b1 : List Nat) : Bool := ((z4g an q1x b0 big i b1).getD default).2.1
noncomputable def z69 (an : Nat) (q1x : Nat) (b0 : List Nat) (i : Int) (b1 : List Nat) : List Nat := ((z4g an q1x b0 big i b1).getD default).2.2
theorem zf3 {an : Nat} {q1x : Nat} {b0 : List Nat} {i : Int} {b1 : List Nat} {m : Nat} {r : Int × Bool × (List Nat)} (hm : m = big) (h : z4g an q1x b0 m i b1 = some r) : z79 an q1x b0 i b1 = true ∧ z9x an q1x b0 i b1 = r.1 ∧ z9s an q1x b0 i b1 = r.2.1 ∧ z69 an q1x b0 i b1 = r.2.2 := by
  subst hm
  unfold z79 z9x z9s z69
  rw [h]
  exact ⟨rfl, rfl, rfl, rfl⟩
noncomputable def z98 {R : Type} (q0e : Nat) (q0h : List Nat) (q0g : Nat) (q0l : List Nat) (q0f : Nat) (q0k : List Nat) (q0n : Nat) (q0x : List Nat) (q1a : Int) (q1k : Nat) (q1j : Nat) (q1q : Int) (k_ : Int → Option R) : Option R := (grd (zc7 q0e (pF q0h 0 (muN q0e 1)) q0g (pF q0l 0 (muN q0g 1)) q0f (pF q0k 0 (muN q0f 1)) q1q) (br (ltI (z6h q0e (pF q0h 0 (muN q0e 1)) q0g (pF q0l 0 (muN q0g 1)) q0f (pF q0k 0 (muN q0f 1)) q1q) 0) (k_ (Int.negSucc 0)) (grd (zb5 q0n (pF q0x 0 (muN q0n 3)) (z6h q0e (pF q0h 0 (muN q0e 1)) q0g (pF q0l 0 (muN q0g 1)) q0f (pF q0k 0 (muN q0f 1)) q1q)) (br (ltI (z8h q0n (pF q0x 0 (muN q0n 3)) (z6h q0e (pF q0h 0 (muN q0e 1)) q0g (pF q0l 0 (muN q0g 1)) q0f (pF q0k 0 (muN q0f 1)) q1q)) 0) (k_ (Int.negSucc 0)) (k_ (z8h q0n (pF q0x 0 (muN q0n 3)) (z6h q0e (pF q0h 0 (muN q0e 1)) q0g (pF q0l 0 (muN q0g 1)) q0f (pF q0k 0 (muN q0f 1)) q1q)))))))
noncomputable def z9a (q0e : Nat) (q0h : List Nat) (q0g : Nat) (q0l : List Nat) (q0f : Nat) (q0k : List Nat) (q0n : Nat) (q0x : List Nat) (q1a : Int) (q1k : Nat) (q1j : Nat) (q1q : Int) : Option (Int) := z98 q0e q0h q0g q0l q0f q0k q0n q0x q1a q1k q1j q1q (fun c0_ => some c0_)
theorem zh9 {R R' : Type} (o : Option R → Option R') (h0 : o none = none) (q0e : Nat) (q0h : List Nat) (q0g : Nat) (q0l : List Nat) (q0f : Nat) (q0k : List Nat) (q0n : Nat) (q0x : List Nat) (q1a : Int) (q1k : Nat) (q1j : Nat) (q1q : Int) (k_ : Int → Option R) : z98 q0e q0h q0g q0l q0f q0k q0n q0x q1a q1k q1j q1q (fun c0_ => o (k_ c0_)) = o (z98 q0e q0h q0g q0l q0f q0k q0n q0x q1a q1k q1j q1q k_) := by
  unfold z98
  repeat (first | refine grd_out h0 ?_ | refine br_out ?_ ?_ | rfl | exact h0.symm)
noncomputable def zbx (q0e : Nat) (q0h : List Nat) (q0g : Nat) (q0l : List Nat) (q0f : Nat) (q0k : List Nat) (q0n : Nat) (q0x : List Nat) (q1a : Int) (q1k : Nat) (q1j : Nat) (q1q : Int) : Bool := (z9a q0e q0h q0g q0l q0f q0k q0n q0x q1a q1k q1j q1q).isSome
noncomputable def za6 (q0e : Nat) (q0h : List Nat) (q0g : Nat) (q0l : List Nat) (q0f : Nat) (q0k : List Nat) (q0n : Nat) (q0x : List Nat) (q1a : Int) (q1k : Nat) (q1j : Nat) (q1q : Int) : Int := ((z9a q0e q0h q0g q0l q0f q0k q0n q0x q1a q1k q1j q1q).getD default)
theorem zim {q0e : Nat} {q0h : List Nat} {q0g : Nat} {q0l : List Nat} {q0f : Nat} {q0k : List Nat} {q0n : Nat} {q0x : List Nat} {q1a : Int} {q1k : Nat} {q1j : Nat} {q1q : Int} {r : Int} (h : z9a q0e q0h q0g q0l q0f q0k q0n q0x q1a q1k q1j q1q = some r) : zbx q0e q0h q0g q0l q0f q0k q0n q0x q1a q1k q1j q1q = true ∧ za6 q0e q0h q0g q0l q0f q0k q0n q0x q1a q1k q1j q1q = r := by
  unfold zbx za6
  rw [h]
  exact ⟨rfl, rfl⟩
noncomputable def z7r {R : Type} (a_n : Nat) (a : List Nat) (k_ : Nat → (List Nat) → Option R) : Option R := (grd (okMk (Int.ofNat a_n) (Int.ofNat a_n) 4) (grd (z79 a_n (toN (Int.ofNat a_n)) a 0 (rF (muN (toN (Int.ofNat a_n)) 1))) (k_ (toN (Int.ofNat a_n)) (z69 a_n (toN (Int.ofNat a_n)) a 0 (rF (muN (toN (Int.ofNat a_n)) 1))))))
noncomputable def z6e (a_n : Nat) (a : List Nat) : Option (Nat × (List Nat)) := z7r a_n a (fun c0_ c1_ => some (c0_, c1_))
theorem zfj {R R' : Type} (o : Option R → Option R') (h0 : o none = none) (a_n : Nat) (a : List Nat) (k_ : Nat → (List Nat) → Option R) : z7r a_n a (fun c0_ c1_ => o (k_ c0_ c1_)) = o (z7r a_n a k_) := by
  unfold z7r
  repeat (first | refine grd_out h0 ?_ | refine br_out ?_ ?_ | rfl | exact h0.symm)
noncomputable def z7k (a_n : Nat) (a : List Nat) : Bool := (z6e a_n a).isSome
noncomputable def z6s (a_n : Nat) (a : List Nat) : Nat := ((z6e a_n a).getD default).1
noncomputable def z6x (a_n : Nat) (a : List Nat) : List Nat := ((z6e a_n a).getD default).2
theorem zcy {a_n : Nat} {a : List Nat} {r : Nat × (List Nat)} (h : z6e a_n a = some r) : z7k a_n a = true ∧ z6s a_n a = r.1 ∧ z6x a_n a = r.2 := by
  unfold z7k z6s z6x
  rw [h]
  exact ⟨rfl, rfl, rfl⟩
noncomputable def z7e {R : Type} (x : Nat) (k_ : Bool → Option R) : Option R := (grd (zbj x) (k_ (bnot (zae x))))
noncomputable def z7a (x : Nat) : Option (Bool) := z7e x (fun c0_ => some c0_)
theorem zf8 {R R' : Type} (o : Option R → Option R') (h0 : o none = none) (x : Nat) (k_ : Bool → Option R) : z7e x (fun c0_ => o (k_ c0_)) = o (z7e x k_) := by
  unfold z7e
  repeat (first | refine grd_out h0 ?_ | refine br_out ?_ ?_ | rfl | exact h0.symm)
noncomputable def zb8 (x : Nat) : Bool := (z7a x).isSome
noncomputable def za3 (x : Nat) : Bool := ((z7a x).getD default)
theorem zhc {x : Nat} {r : Bool} (h : z7a x = some r) : zb8 x = true ∧ za3 x = r := by
  unfold zb8 za3
  rw [h]
  exact ⟨rfl, rfl⟩
noncomputable def z59 {R : Type} (an : Nat) (bn : Nat) (b0 : List Nat) (b1 : List Nat) (i : Int) (kn_ : Int → Option R) (k0_ : Unit → Option R) (k1_ : Int → Bool → Option R) : Option R := (br (ltI i (Int.ofNat an)) (grd (okIx i an) (grd (okIx i bn) (grd (z5l (fcvV FloatKind.f32 FloatKind.f64 (gF b0 (ixO 0 i 1))) (fcvV FloatKind.f32 FloatKind.f64 (gF b1 (ixO 0 i 1)))) (br (bnot (z5h (fcvV FloatKind.f32 FloatKind.f64 (gF b0 (ixO 0 i 1))) (fcvV FloatKind.f32 FloatKind.f64 (gF b1 (ixO 0 i 1))))) (k0_ ()) (kn_ (addI IntKind.i64 i 1)))))) (k1_ i (ltI i (Int.ofNat an))))
theorem ze7 {R R' : Type} (o : Option R → Option R') (h0 : o none = none) (an : Nat) (bn : Nat) (b0 : List Nat) (b1 : List Nat) (i : Int) (kn_ : Int → Option R) (k0_ : Unit → Option R) (k1_ : Int → Bool → Option R) : z59 an bn b0 b1 i (fun i' => o (kn_ i')) (fun _ => o (k0_ ())) (fun c0_ c1_ => o (k1_ c0_ c1_)) = o (z59 an bn b0 b1 i kn_ k0_ k1_) := by
  unfold z59
  repeat (first | refine grd_out h0 ?_ | refine br_out ?_ ?_ | rfl | exact h0.symm)
noncomputable def z4h (an : Nat) (bn : Nat) (b0 : List Nat) (b1 : List Nat) : Nat → Int → Option ((Unit) ⊕ (Int × Bool))
  | 0, _ => none
  | n + 1, i => z59 an bn b0 b1  i  (fun i' => z4h an bn b0 b1 n i') (fun _ => some (Sum.inl ())) (fun c0_ c1_ => some (Sum.inr (c0_, c1_)))
theorem zcm (an : Nat) (bn : Nat) (b0 : List Nat) (b1 : List Nat) (n : Nat) (i : Int) : z4h an bn b0 b1 (n + 1) i = z59 an bn b0 b1  i  (fun i' => z4h an bn b0 b1 n i') (fun _ => some (Sum.inl ())) (fun c0_ c1_ => some (Sum.inr (c0_, c1_))) := rfl
noncomputable def z90 (an : Nat) (bn : Nat) (b0 : List Nat) (b1 : List Nat) (i : Int) : Bool := (z4h an bn b0 b1 big i).isSome
noncomputable def z8l (an : Nat) (bn : Nat) (b0 : List Nat) (b1 : List Nat) (i : Int) : Bool := oL (z4h an bn b0 b1 big i)
noncomputable def z9v (an : Nat) (bn : Nat) (b0 : List Nat) (b1 : List Nat) (i : Int) : Int := ((tR (z4h an bn b0 b1 big i)).getD default).1
noncomputable def z9q (an : Nat) (bn : Nat) (b0 : List Nat) (b1 : List Nat) (i : Int) : Bool := ((tR (z4h an bn b0 b1 big i)).getD default).2
theorem zex {an : Nat} {bn : Nat} {b0 : List Nat} {b1 : List Nat} {i : Int} {m : Nat} {r : Int × Bool} (hm : m = big) (h : z4h an bn b0 b1 m i = some (Sum.inr r)) : z90 an bn b0 b1 i = true ∧ z8l an bn b0 b1 i = false ∧ z9v an bn b0 b1 i = r.1 ∧ z9q an bn b0 b1 i = r.2 := by
  subst hm
  unfold z90 z8l z9v z9q
  rw [h]
  exact ⟨rfl, rfl, rfl, rfl⟩
noncomputable def z57 {R : Type} (an : Nat) (q1x : Nat) (b0 : List Nat) (i : Int) (b1 : List Nat) (kn_ : Int → (List Nat) → Option R) (k0_ : Int → Bool → (List Nat) → Option R) : Option R := (br (ltI i (Int.ofNat an)) (grd (okIx i an) (grd (zd7 (gF b0 (ixO 0 i 3)) (gF b0 (Nat.succ (ixO 0 i 3))) (gF b0 (Nat.succ (Nat.succ (ixO 0 i 3))))) (grd (okIx i q1x) (kn_ (addI IntKind.i64 i 1) (sF (sF (sF b1 (ixO 0 i 3) (gF b0 (ixO 0 i 3))) (Nat.succ (ixO 0 i 3)) (gF b0 (Nat.succ (ixO 0 i 3)))) (Nat.succ (Nat.succ (ixO 0 i 3))) (gF b0 (Nat.succ (Nat.succ (ixO 0 i 3))))))))) (k0_ i (ltI i (Int.ofNat an)) b1))
theorem zed {R R' : Type} (o : Option R → Option R') (h0 : o none = none) (an : Nat) (q1x : Nat) (b0 : List Nat) (i : Int) (b1 : List Nat) (kn_ : Int → (List Nat) → Option R) (k0_ : Int → Bool → (List Nat) → Option R) : z57 an q1x b0 i b1 (fun i' b1' => o (kn_ i' b1')) (fun c0_ c1_ c2_ => o (k0_ c0_ c1_ c2_)) = o (z57 an q1x b0 i b1 kn_ k0_) := by
  unfold z57
  repeat (first | refine grd_out h0 ?_ | refine br_out ?_ ?_ | rfl | exact h0.symm)
noncomputable def z3t (an : Nat) (q1x : Nat) (b0 : List Nat) : Nat → Int → (List Nat) → Option ((Int × Bool × (List Nat)))
  | 0, _, _ => none
  | n + 1, i, b1 => z57 an q1x b0  i b1  (fun i' b1' => z3t an q1x b0 n i' b1') (fun c0_ c1_ c2_ => some (c0_, c1_, c2_))
theorem zco (an : Nat) (q1x : Nat) (b0 : List Nat) (n : Nat) (i : Int) (b1 : List Nat) : z3t an q1x b0 (n + 1) i b1 = z57 an q1x b0  i b1  (fun i' b1' => z3t an q1x b0 n i' b1') (fun c0_ c1_ c2_ => some (c0_, c1_, c2_)) := rfl
noncomputable def z77 (an : Nat) (q1x : Nat) (b0 : List Nat) (i : Int) (b1 : List Nat) : Bool := (z3t an q1x b0 big i b1).isSome
noncomputable def z9w (an : Nat) (q1x : Nat) (b0 : List Nat) (i : Int) (b1 : List Nat) : Int := ((z3t an q1x b0 big i b1).getD default).1
noncomputable def z9u (an : Nat) (q1x : Nat) (b0 : List Nat) (i : Int) (b1 : List Nat) : Bool := ((z3t an q1x b0 big i b1).getD default).2.1
noncomputable def z6b (an : Nat) (q1x : Nat) (b0 : List Nat) (i : Int) (b1 : List Nat) : List Nat := ((z3t an q1x b0 big i b1).getD default).2.2
theorem zf1 {an : Nat} {q1x : Nat} {b0 : List Nat} {i : Int} {b1 : List Nat} {m : Nat} {r : Int × Bool × (List Nat)} (hm : m = big) (h : z3t an q1x b0 m i b1 = some r) : z77 an q1x b0 i b1 = true ∧ z9w an q1x b0 i b1 = r.1 ∧ z9u an q1x b0 i b1 = r.2.1 ∧ z6b an q1x b0 i b1 = r.2.2 := by
  subst hm
  unfold z77 z9w z9u z6b
  rw [h]
  exact ⟨rfl, rfl, rfl, rfl⟩
noncomputable def z7v {R : Type} (a_n : Nat) (a : List Nat) (b_n : Nat) (b : List Nat) (k_ : Bool → Option R) : Option R := (br (neI (Int.ofNat a_n) (Int.ofNat b_n)) (k_ Bool.false) (grd (z90 a_n b_n a b 0) (br (z8l a_n b_n a b 0) (k_ Bool.false) (k_ Bool.true))))
noncomputable def z7u (a_n : Nat) (a : List Nat) (b_n : Nat) (b : List Nat) : Option (Bool) := z7v a_n a b_n b (fun c0_ => some c0_)
theorem zff {R R' : Type} (o : Option R → Option R') (h0 : o none = none) (a_n : Nat) (a : List Nat) (b_n : Nat) (b : List Nat) (k_ : Bool → Option R) : z7v a_n a b_n b (fun c0_ => o (k_ c0_)) = o (z7v a_n a b_n b k_) := by
  unfold z7v
  repeat (first | refine grd_out h0 ?_ | refine br_out ?_ ?_ | rfl | exact h0.symm)
noncomputable def z7t (a_n : Nat) (a : List Nat) (b_n : Nat) (b : List Nat) : Bool := (z7u a_n a b_n b).isSome
noncomputable def z6u (a_n : Nat) (a : List Nat) (b_n : Nat) (b : List Nat) : Bool := ((z7u a_n a b_n b).getD default)
theorem zd2 {a_n : Nat} {a : List Nat} {b_n : Nat} {b : List Nat} {r : Bool} (h : z7u a_n a b_n b = some r) : z7t a_n a b_n b = true ∧ z6u a_n a b_n b = r := by
  unfold z7t z6u
  rw [h]
  exact ⟨rfl, rfl⟩
noncomputable def z82 {R : Type} (q0t : Nat) (q18 : List Nat) (q0z : Nat) (q1b : List Nat) (q12 : Nat) (q1f : List Nat) (k_ : Nat → Nat → Nat → (List Nat) → (List Nat) → (List Nat) → Option R) : Option R := (grd (z7k q0t (pF q18 0 (muN q0t 1))) (grd (z7k q0z (pF q1b 0 (muN q0z 1))) (grd (z7k q12 (pF q1f 0 (muN q12 1))) (k_ (z6s q0t (pF q18 0 (muN q0t 1))) (z6s q0z (pF q1b 0 (muN q0z 1))) (z6s q12 (pF q1f 0 (muN q12 1))) (z6x q0t (pF q18 0 (muN q0t 1))) (z6x q0z (pF q1b 0 (muN q0z 1))) (z6x q12 (pF q1f 0 (muN q12 1)))))))
noncomputable def z5d (q0t : Nat) (q18 : List Nat) (q0z : Nat) (q1b : List Nat) (q12 : Nat) (q1f : List Nat) : Option (Nat × Nat × Nat × (List Nat) × (List Nat) × (List Nat)) := z82 q0t q18 q0z q1b q12 q1f (fun c0_ c1_ c2_ c3_ c4_ c5_ => some (c0_, c1_, c2_, c3_, c4_, c5_))
theorem zge {R R' : Type} (o : Option R → Option R') (h0 : o none = none) (q0t : Nat) (q18 : List Nat) (q0z : Nat) (q1b : List Nat) (q12 : Nat) (q1f : List Nat) (k_ : Nat → Nat → Nat → (List Nat) → (List Nat) → (List Nat) → Option R) : z82 q0t q18 q0z q1b q12 q1f (fun c0_ c1_ c2_ c3_ c4_ c5_ => o (k_ c0_ c1_ c2_ c3_ c4_ c5_)) = o (z82 q0t q18 q0z q1b q12 q1f k_) := by
  unfold z82
  repeat (first | refine grd_out h0 ?_ | refine br_out ?_ ?_ | rfl | exact h0.symm)
noncomputable def zc9 (q0t : Nat) (q18 : List Nat) (q0z : Nat) (q1b : List Nat) (q12 : Nat) (q1f : List Nat) : Bool := (z5d q0t q18 q0z q1b q12 q1f).isSome
noncomputable def zbd (q0t : Nat) (q18 : List Nat) (q0z : Nat) (q1b : List Nat) (q12 : Nat) (q1f : List Nat) : Nat := ((z5d q0t q18 q0z q1b q12 q1f).getD default).1
noncomputable def zb6 (q0t : Nat) (q18 : List Nat) (q0z : Nat) (q1b : List Nat) (q12 : Nat) (q1f : List Nat) : Nat := ((z5d q0t q18 q0z q1b q12 q1f).getD default).2.1
noncomputable def zb9 (q0t : Nat) (q18 : List Nat) (q0z : Nat) (q1b : List Nat) (q12 : Nat) (q1f : List Nat) : Nat := ((z5d q0t q18 q0z q1b q12 q1f).getD default).2.2.1
noncomputable def zbe (q0t : Nat) (q18 : List Nat) (q0z : Nat) (q1b : List Nat) (q12 : Nat) (q1f : List Nat) : List Nat := ((z5d q0t q18 q0z q1b q12 q1f).getD default).2.2.2.1
noncomputable def zay (q0t : Nat) (q18 : List Nat) (q0z : Nat) (q1b : List Nat) (q12 : Nat) (q1f : List Nat) : List Nat := ((z5d q0t q18 q0z q1b q12 q1f).getD default).2.2.2.2.1
noncomputable def zbb (q0t : Nat) (q18 : List Nat) (q0z : Nat) (q1b : List Nat) (q12 : Nat) (q1f : List Nat) : List Nat := ((z5d q0t q18 q0z q1b q12 q1f).getD default).2.2.2.2.2
theorem zhf {q0t : Nat} {q18 : List Nat} {q0z : Nat} {q1b : List Nat} {q12 : Nat} {q1f : List Nat} {r : Nat × Nat × Nat × (List Nat) × (List Nat) × (List Nat)} (h : z5d q0t q18 q0z q1b q12 q1f = some r) : zc9 q0t q18 q0z q1b q12 q1f = true ∧ zbd q0t q18 q0z q1b q12 q1f = r.1 ∧ zb6 q0t q18 q0z q1b q12 q1f = r.2.1 ∧ zb9 q0t q18 q0z q1b q12 q1f = r.2.2.1 ∧ zbe q0t q18 q0z q1b q12 q1f = r.2.2.2.1 ∧ zay q0t q18 q0z q1b q12 q1f = r.2.2.2.2.1 ∧ zbb q0t q18 q0z q1b q12 q1f = r.2.2.2.2.2 := by
  unfold zc9 zbd zb6 zb9 zbe zay zbb
  rw [h]
  exact ⟨rfl, rfl, rfl, rfl, rfl, rfl, rfl⟩
noncomputable def z7q {R : Type} (a_n : Nat) (a : List Nat) (k_ : Nat → (List Nat) → Option R) : Option R := (grd (okMk (Int.ofNat a_n) (Int.ofNat a_n) 12) (grd (z77 a_n (toN (Int.ofNat a_n)) a 0 (rF (muN (toN (Int.ofNat a_n)) 3))) (k_ (toN (Int.ofNat a_n)) (z6b a_n (toN (Int.ofNat a_n)) a 0 (rF (muN (toN (Int.ofNat a_n)) 3))))))
noncomputable def z6f (a_n : Nat) (a : List Nat) : Option (Nat × (List Nat)) := z7q a_n a (fun c0_ c1_ => some (c0_, c1_))
theorem zfr {R R' : Type} (o : Option R → Option R') (h0 : o none = none) (a_n : Nat) (a : List Nat) (k_ : Nat → (List Nat) → Option R) : z7q a_n a (fun c0_ c1_ => o (k_ c0_ c1_)) = o (z7q a_n a k_) := by
  unfold z7q
  repeat (first | refine grd_out h0 ?_ | refine br_out ?_ ?_ | rfl | exact h0.symm)
noncomputable def zb3 (a_n : Nat) (a : List Nat) : Bool := (z6f a_n a).isSome
noncomputable def za9 (a_n : Nat) (a : List Nat) : Nat := ((z6f a_n a).getD default).1
noncomputable def za7 (a_n : Nat) (a : List Nat) : List Nat := ((z6f a_n a).getD default).2
theorem zhe {a_n : Nat} {a : List Nat} {r : Nat × (List Nat)} (h : z6f a_n a = some r) : zb3 a_n a = true ∧ za9 a_n a = r.1 ∧ za7 a_n a = r.2 := by
  unfold zb3 za9 za7
  rw [h]
  exact ⟨rfl, rfl, rfl⟩
noncomputable def z54 {R : Type} (an : Nat) (bn : Nat) (b0 : List Nat) (b1 : List Nat) (i : Int) (kn_ : Int → Option R) (k0_ : Unit → Option R) (k1_ : Int → Bool → Option R) : Option R := (br (ltI i (Int.ofNat an)) (grd (okIx i an) (grd (okIx i bn) (grd (zc4 (gF b0 (ixO 0 i 3)) (gF b0 (Nat.succ (ixO 0 i 3))) (gF b0 (Nat.succ (Nat.succ (ixO 0 i 3)))) (gF b1 (ixO 0 i 3)) (gF b1 (Nat.succ (ixO 0 i 3))) (gF b1 (Nat.succ (Nat.succ (ixO 0 i 3))))) (br (bnot (zba (gF b0 (ixO 0 i 3)) (gF b0 (Nat.succ (ixO 0 i 3))) (gF b0 (Nat.succ (Nat.succ (ixO 0 i 3)))) (gF b1 (ixO 0 i 3)) (gF b1 (Nat.succ (ixO 0 i 3))) (gF b1 (Nat.succ (Nat.succ (ixO 0 i 3)))))) (k0_ ()) (kn_ (addI IntKind.i64 i 1)))))) (k1_ i (ltI i (Int.ofNat an))))
theorem ze3 {R R' : Type} (o : Option R → Option R') (h0 : o none = none) (an : Nat) (bn : Nat) (b0 : List Nat) (b1 : List Nat) (i : Int) (kn_ : Int → Option R) (k0_ : Unit → Option R) (k1_ : Int → Bool → Option R) : z54 an bn b0 b1 i (fun i' => o (kn_ i')) (fun _ => o (k0_ ())) (fun c0_ c1_ => o (k1_ c0_ c1_)) = o (z54 an bn b0 b1 i kn_ k0_ k1_) := by
  unfold z54
  repeat (first | refine grd_out h0 ?_ | refine br_out ?_ ?_ | rfl | exact h0.symm)
noncomputable def z4i (an : Nat) (bn : Nat) (b0 : List Nat) (b1 : List Nat) : Nat → Int → Option ((Unit) ⊕ (Int × Bool))
  | 0, _ => none
  | n + 1, i => z54 an bn b0 b1  i  (fun i' => z4i an bn b0 b1 n i') (fun _ => some (Sum.inl ())) (fun c0_ c1_ => some (Sum.inr (c0_, c1_)))
theorem zck (an : Nat) (bn : Nat) (b0 : List Nat) (b1 : List Nat) (n : Nat) (i : Int) : z4i an bn b0 b1 (n + 1) i = z54 an bn b0 b1  i  (fun i' => z4i an bn b0 b1 n i') (fun _ => some (Sum.inl ())) (fun c0_ c1_ => some (Sum.inr (c0_, c1_))) := rfl
noncomputable def z73 (an : Nat) (bn : Nat) (b0 : List Nat) (b1 : List Nat) (i : Int) : Bool := (z4i an bn b0 b1 big i).isSome
noncomputable def z6r (an : Nat) (bn : Nat) (b0 : List Nat) (b1 : List Nat) (i : Int) : Bool := oL (z4i an bn b0 b1 big i)
noncomputable def z9t (an : Nat) (bn : Nat) (b0 : List Nat) (b1 : List Nat) (i : Int) : Int := ((tR (z4i an bn b0 b1 big i)).getD default).1
noncomputable def z9o (an : Nat) (bn : Nat) (b0 : List Nat) (b1 : List Nat) (i : Int) : Bool := ((tR (z4i an bn b0 b1 big i)).getD default).2
theorem zeu {an : Nat} {bn : Nat} {b0 : List Nat} {b1 : List Nat} {i : Int} {m : Nat} {r : Int × Bool} (hm : m = big) (h : z4i an bn b0 b1 m i = some (Sum.inr r)) : z73 an bn b0 b1 i = true ∧ z6r an bn b0 b1 i = false ∧ z9t an bn b0 b1 i = r.1 ∧ z9o an bn b0 b1 i = r.2 := by
  subst hm
  unfold z73 z6r z9t z9o
  rw [h]
  exact ⟨rfl, rfl, rfl, rfl⟩
noncomputable def z5y {R : Type} (t3 : Int) (b0 : List Nat) (b1 : List Nat) (b2 : List Nat) (q1i : Nat) (q1v : Nat) (q1t : Nat) (t4 : Int) (kn_ : Int → Option R) (k0_ : Unit → Option R) (k1_ : Int → Bool → Option R) : Option R := (br (ltI t4 t3) (grd (okIx t4 q1i) (br (fcmp BinOp.geq FloatKind.f32 (gF b0 (ixO 0 t4 1)) 3204448256) (grd (okIx t4 q1i) (br (bnot (fcmp BinOp.leq FloatKind.f32 (gF b0 (ixO 0 t4 1)) 1056964608)) (k0_ ()) (br (ltI 0 t4) (grd (okIx t4 q1i) (grd (okIx (subI IntKind.i64 t4 1) q1i) (br (fcmp BinOp.leq FloatKind.f32 (gF b0 (ixO 0 t4 1)) (gF b0 (ixO 0 (subI IntKind.i64 t4 1) 1))) (k0_ ()) (grd (okIx t4 q1v) (grd (z51 (gF b1 (ixO 0 t4 1))) (br (bnot (z4s (gF b1 (ixO 0 t4 1)))) (k0_ ()) (grd (okIx t4 q1t) (grd (z6i (gF b2 (ixO 0 t4 1))) (br (bnot (z65 (gF b2 (ixO 0 t4 1)))) (k0_ ()) (kn_ (addI IntKind.i64 t4 1))))))))))) (grd (okIx t4 q1v) (grd (z51 (gF b1 (ixO 0 t4 1))) (br (bnot (z4s (gF b1 (ixO 0 t4 1)))) (k0_ ()) (grd (okIx t4 q1t) (grd (z6i (gF b2 (ixO 0 t4 1))) (br (bnot (z65 (gF b2 (ixO 0 t4 1)))) (k0_ ()) (kn_ (addI IntKind.i64 t4 1))))))))))) (br (bnot Bool.false) (k0_ ()) (br (ltI 0 t4) (grd (okIx t4 q1i) (grd (okIx (subI IntKind.i64 t4 1) q1i) (br (fcmp BinOp.leq FloatKind.f32 (gF b0 (ixO 0 t4 1)) (gF b0 (ixO 0 (subI IntKind.i64 t4 1) 1))) (k0_ ()) (grd (okIx t4 q1v) (grd (z51 (gF b1 (ixO 0 t4 1))) (br (bnot (z4s (gF b1 (ixO 0 t4 1)))) (k0_ ()) (grd (okIx t4 q1t) (grd (z6i (gF b2 (ixO 0 t4 1))) (br (bnot (z65 (gF b2 (ixO 0 t4 1)))) (k0_ ()) (kn_ (addI IntKind.i64 t4 1))))))))))) (grd (okIx t4 q1v) (grd (z51 (gF b1 (ixO 0 t4 1))) (br (bnot (z4s (gF b1 (ixO 0 t4 1)))) (k0_ ()) (grd (okIx t4 q1t) (grd (z6i (gF b2 (ixO 0 t4 1))) (br (bnot (z65 (gF b2 (ixO 0 t4 1)))) (k0_ ()) (kn_ (addI IntKind.i64 t4 1)))))))))))) (k1_ t4 (ltI t4 t3)))
theorem zgl {R R' : Type} (o : Option R → Option R') (h0 : o none = none) (t3 : Int) (b0 : List Nat) (b1 : List Nat) (b2 : List Nat) (q1i : Nat) (q1v : Nat) (q1t : Nat) (t4 : Int) (kn_ : Int → Option R) (k0_ : Unit → Option R) (k1_ : Int → Bool → Option R) : z5y t3 b0 b1 b2 q1i q1v q1t t4 (fun t4' => o (kn_ t4')) (fun _ => o (k0_ ())) (fun c0_ c1_ => o (k1_ c0_ c1_)) = o (z5y t3 b0 b1 b2 q1i q1v q1t t4 kn_ k0_ k1_) := by
  unfold z5y
  repeat (first | refine grd_out h0 ?_ | refine br_out ?_ ?_ | rfl | exact h0.symm)
noncomputable def z50 (t3 : Int) (b0 : List Nat) (b1 : List Nat) (b2 : List Nat) (q1i : Nat) (q1v : Nat) (q1t : Nat) : Nat → Int → Option ((Unit) ⊕ (Int × Bool))
  | 0, _ => none
  | n + 1, t4 => z5y t3 b0 b1 b2 q1i q1v q1t  t4  (fun t4' => z50 t3 b0 b1 b2 q1i q1v q1t n t4') (fun _ => some (Sum.inl ())) (fun c0_ c1_ => some (Sum.inr (c0_, c1_)))
theorem zdd (t3 : Int) (b0 : List Nat) (b1 : List Nat) (b2 : List Nat) (q1i : Nat) (q1v : Nat) (q1t : Nat) (n : Nat) (t4 : Int) : z50 t3 b0 b1 b2 q1i q1v q1t (n + 1) t4 = z5y t3 b0 b1 b2 q1i q1v q1t  t4  (fun t4' => z50 t3 b0 b1 b2 q1i q1v q1t n t4') (fun _ => some (Sum.inl ())) (fun c0_ c1_ => some (Sum.inr (c0_, c1_))) := rfl
noncomputable def z6j (t3 : Int) (b0 : List Nat) (b1 : List Nat) (b2 : List Nat) (q1i : Nat) (q1v : Nat) (q1t : Nat) (t4 : Int) : Bool := (z50 t3 b0 b1 b2 q1i q1v q1t big t4).isSome
noncomputable def z64 (t3 : Int) (b0 : List Nat) (b1 : List Nat) (b2 : List Nat) (q1i : Nat) (q1v : Nat) (q1t : Nat) (t4 : Int) : Bool := oL (z50 t3 b0 b1 b2 q1i q1v q1t big t4)
noncomputable def zct (t3 : Int) (b0 : List Nat) (b1 : List Nat) (b2 : List Nat) (q1i : Nat) (q1v : Nat) (q1t : Nat) (t4 : Int) : Int := ((tR (z50 t3 b0 b1 b2 q1i q1v q1t big t4)).getD default).1
noncomputable def zcx (t3 : Int) (b0 : List Nat) (b1 : List Nat) (b2 : List Nat) (q1i : Nat) (q1v : Nat) (q1t : Nat) (t4 : Int) : Bool := ((tR (z50 t3 b0 b1 b2 q1i q1v q1t big t4)).getD default).2
theorem zhr {t3 : Int} {b0 : List Nat} {b1 : List Nat} {b2 : List Nat} {q1i : Nat} {q1v : Nat} {q1t : Nat} {t4 : Int} {m : Nat} {r : Unit} (hm : m = big) (h : z50 t3 b0 b1 b2 q1i q1v q1t m t4 = some (Sum.inl r)) : z6j t3 b0 b1 b2 q1i q1v q1t t4 = true ∧ z64 t3 b0 b1 b2 q1i q1v q1t t4 = true := by
  subst hm
  unfold z6j z64
  rw [h]
  exact ⟨rfl, rfl⟩
theorem zht {t3 : Int} {b0 : List Nat} {b1 : List Nat} {b2 : List Nat} {q1i : Nat} {q1v : Nat} {q1t : Nat} {t4 : Int} {m : Nat} {r : Int × Bool} (hm : m = big) (h : z50 t3 b0 b1 b2 q1i q1v q1t m t4 = some (Sum.inr r)) : z6j t3 b0 b1 b2 q1i q1v q1t t4 = true ∧ z64 t3 b0 b1 b2 q1i q1v q1t t4 = false ∧ zct t3 b0 b1 b2 q1i q1v q1t t4 = r.1 ∧ zcx t3 b0 b1 b2 q1i q1v q1t t4 = r.2 := by
  subst hm
  unfold z6j z64 zct zcx
  rw [h]
  exact ⟨rfl, rfl, rfl, rfl⟩
noncomputable def z3k {R : Type} (sn : Nat) (t7 : Int) (b0 : List Nat) (t8 : Int) (kn_ : Int → Option R) (k0_ : Int → Option R) (k1_ : Int → Bool → Option R) : Option R := (br (ltI t8 t7) (grd (okIx t8 sn) (grd (zaf (gF b0 (ixO 0 t8 1))) (br (z9i (gF b0 (ixO 0 t8 1))) (k0_ t8) (kn_ (addI IntKind.i64 t8 1))))) (k1_ t8 (ltI t8 t7)))
theorem z9m {R R' : Type} (o : Option R → Option R') (h0 : o none = none) (sn : Nat) (t7 : Int) (b0 : List Nat) (t8 : Int) (kn_ : Int → Option R) (k0_ : Int → Option R) (k1_ : Int → Bool → Option R) : z3k sn t7 b0 t8 (fun t8' => o (kn_ t8')) (fun c0_ => o (k0_ c0_)) (fun c0_ c1_ => o (k1_ c0_ c1_)) = o (z3k sn t7 b0 t8 kn_ k0_ k1_) := by
  unfold z3k
  repeat (first | refine grd_out h0 ?_ | refine br_out ?_ ?_ | rfl | exact h0.symm)
noncomputable def z1l (sn : Nat) (t7 : Int) (b0 : List Nat) : Nat → Int → Option ((Int) ⊕ (Int × Bool))
  | 0, _ => none
  | n + 1, t8 => z3k sn t7 b0  t8  (fun t8' => z1l sn t7 b0 n t8') (fun c0_ => some (Sum.inl c0_)) (fun c0_ c1_ => some (Sum.inr (c0_, c1_)))
theorem z66 (sn : Nat) (t7 : Int) (b0 : List Nat) (n : Nat) (t8 : Int) : z1l sn t7 b0 (n + 1) t8 = z3k sn t7 b0  t8  (fun t8' => z1l sn t7 b0 n t8') (fun c0_ => some (Sum.inl c0_)) (fun c0_ c1_ => some (Sum.inr (c0_, c1_))) := rfl
noncomputable def z43 (sn : Nat) (t7 : Int) (b0 : List Nat) (t8 : Int) : Bool := (z1l sn t7 b0 big t8).isSome
noncomputable def z3z (sn : Nat) (t7 : Int) (b0 : List Nat) (t8 : Int) : Bool := oL (z1l sn t7 b0 big t8)
noncomputable def z4r (sn : Nat) (t7 : Int) (b0 : List Nat) (t8 : Int) : Int := ((tL (z1l sn t7 b0 big t8)).getD default)
noncomputable def z5k (sn : Nat) (t7 : Int) (b0 : List Nat) (t8 : Int) : Int := ((tR (z1l sn t7 b0 big t8)).getD default).1
noncomputable def z5j (sn : Nat) (t7 : Int) (b0 : List Nat) (t8 : Int) : Bool := ((tR (z1l sn t7 b0 big t8)).getD default).2
theorem zan {sn : Nat} {t7 : Int} {b0 : List Nat} {t8 : Int} {m : Nat} {r : Int} (hm : m = big) (h : z1l sn t7 b0 m t8 = some (Sum.inl r)) : z43 sn t7 b0 t8 = true ∧ z3z sn t7 b0 t8 = true ∧ z4r sn t7 b0 t8 = r := by
  subst hm
  unfold z43 z3z z4r
  rw [h]
  exact ⟨rfl, rfl, rfl⟩
theorem zar {sn : Nat} {t7 : Int} {b0 : List Nat} {t8 : Int} {m : Nat} {r : Int × Bool} (hm : m = big) (h : z1l sn t7 b0 m t8 = some (Sum.inr r)) : z43 sn t7 b0 t8 = true ∧ z3z sn t7 b0 t8 = false ∧ z5k sn t7 b0 t8 = r.1 ∧ z5j sn t7 b0 t8 = r.2 := by
  subst hm
  unfold z43 z3z z5k z5j
  rw [h]
  exact ⟨rfl, rfl, rfl, rfl⟩
noncomputable def z3f {R : Type} (sn : Nat) (t7 : Int) (b0 : List Nat) (t8 : Int) (kn_ : Int → Option R) (k0_ : Int → Option R) (k1_ : Int → Bool → Option R) : Option R := (br (ltI t8 t7) (grd (okIx t8 sn) (grd (z92 (gF b0 (ixO 0 t8 1))) (br (z8m (gF b0 (ixO 0 t8 1))) (k0_ t8) (kn_ (addI IntKind.i64 t8 1))))) (k1_ t8 (ltI t8 t7)))
theorem z9f {R R' : Type} (o : Option R → Option R') (h0 : o none = none) (sn : Nat) (t7 : Int) (b0 : List Nat) (t8 : Int) (kn_ : Int → Option R) (k0_ : Int → Option R) (k1_ : Int → Bool → Option R) : z3f sn t7 b0 t8 (fun t8' => o (kn_ t8')) (fun c0_ => o (k0_ c0_)) (fun c0_ c1_ => o (k1_ c0_ c1_)) = o (z3f sn t7 b0 t8 kn_ k0_ k1_) := by
  unfold z3f
  repeat (first | refine grd_out h0 ?_ | refine br_out ?_ ?_ | rfl | exact h0.symm)
noncomputable def z1d (sn : Nat) (t7 : Int) (b0 : List Nat) : Nat → Int → Option ((Int) ⊕ (Int × Bool))
  | 0, _ => none
  | n + 1, t8 => z3f sn t7 b0  t8  (fun t8' => z1d sn t7 b0 n t8') (fun c0_ => some (Sum.inl c0_)) (fun c0_ c1_ => some (Sum.inr (c0_, c1_)))
theorem z62 (sn : Nat) (t7 : Int) (b0 : List Nat) (n : Nat) (t8 : Int) : z1d sn t7 b0 (n + 1) t8 = z3f sn t7 b0  t8  (fun t8' => z1d sn t7 b0 n t8') (fun c0_ => some (Sum.inl c0_)) (fun c0_ c1_ => some (Sum.inr (c0_, c1_))) := rfl
noncomputable def z3y (sn : Nat) (t7 : Int) (b0 : List Nat) (t8 : Int) : Bool := (z1d sn t7 b0 big t8).isSome
noncomputable def z3u (sn : Nat) (t7 : Int) (b0 : List Nat) (t8 : Int) : Bool := oL (z1d sn t7 b0 big t8)
noncomputable def z4p (sn : Nat) (t7 : Int) (b0 : List Nat) (t8 : Int) : Int := ((tL (z1d sn t7 b0 big t8)).getD default)
noncomputable def z5g (sn : Nat) (t7 : Int) (b0 : List Nat) (t8 : Int) : Int := ((tR (z1d sn t7 b0 big t8)).getD default).1
noncomputable def z5f (sn : Nat) (t7 : Int) (b0 : List Nat) (t8 : Int) : Bool := ((tR (z1d sn t7 b0 big t8)).getD default).2
theorem z9r {sn : Nat} {t7 : Int} {b0 : List Nat} {t8 : Int} {m : Nat} {r : Int} (hm : m = big) (h : z1d sn t7 b0 m t8 = some (Sum.inl r)) : z3y sn t7 b0 t8 = true ∧ z3u sn t7 b0 t8 = true ∧ z4p sn t7 b0 t8 = r := by
  subst hm
  unfold z3y z3u z4p
  rw [h]
  exact ⟨rfl, rfl, rfl⟩
theorem z9n {sn : Nat} {t7 : Int} {b0 : List Nat} {t8 : Int} {m : Nat} {r : Int × Bool} (hm : m = big) (h : z1d sn t7 b0 m t8 = some (Sum.inr r)) : z3y sn t7 b0 t8 = true ∧ z3u sn t7 b0 t8 = false ∧ z5g sn t7 b0 t8 = r.1 ∧ z5f sn t7 b0 t8 = r.2 := by
  subst hm
  unfold z3y z3u z5g z5f
  rw [h]
  exact ⟨rfl, rfl, rfl, rfl⟩
noncomputable def z97 {R : Type} (q0e : Nat) (q0h : List Nat) (q0g : Nat) (q0l : List Nat) (q0f : Nat) (q0k : List Nat) (q0n : Nat) (q0x : List Nat) (q1a : Int) (q1k : Nat) (q1j : Nat) (k_ : Nat → Nat → Nat → Nat → (List Nat) → (List Nat) → (List Nat) → (List Nat) → Option R) : Option R := (grd (zc9 q0e (pF q0h 0 (muN q0e 1)) q0g (pF q0l 0 (muN q0g 1)) q0f (pF q0k 0 (muN q0f 1))) (grd (zb3 q0n (pF q0x 0 (muN q0n 3))) (k_ (zbd q0e (pF q0h 0 (muN q0e 1)) q0g (pF q0l 0 (muN q0g 1)) q0f (pF q0k 0 (muN q0f 1))) (zb6 q0e (pF q0h 0 (muN q0e 1)) q0g (pF q0l 0 (muN q0g 1)) q0f (pF q0k 0 (muN q0f 1))) (zb9 q0e (pF q0h 0 (muN q0e 1)) q0g (pF q0l 0 (muN q0g 1)) q0f (pF q0k 0 (muN q0f 1))) (za9 q0n (pF q0x 0 (muN q0n 3))) (zbe q0e (pF q0h 0 (muN q0e 1)) q0g (pF q0l 0 (muN q0g 1)) q0f (pF q0k 0 (muN q0f 1))) (zay q0e (pF q0h 0 (muN q0e 1)) q0g (pF q0l 0 (muN q0g 1)) q0f (pF q0k 0 (muN q0f 1))) (zbb q0e (pF q0h 0 (muN q0e 1)) q0g (pF q0l 0 (muN q0g 1)) q0f (pF q0k 0 (muN q0f 1))) (za7 q0n (pF q0x 0 (muN q0n 3))))))
noncomputable def z5a (q0e : Nat) (q0h : List Nat) (q0g : Nat) (q0l : List Nat) (q0f : Nat) (q0k : List Nat) (q0n : Nat) (q0x : List Nat) (q1a : Int) (q1k : Nat) (q1j : Nat) : Option (Nat × Nat × Nat × Nat × (List Nat) × (List Nat) × (List Nat) × (List Nat)) := z97 q0e q0h q0g q0l q0f q0k q0n q0x q1a q1k q1j (fun c0_ c1_ c2_ c3_ c4_ c5_ c6_ c7_ => some (c0_, c1_, c2_, c3_, c4_, c5_, c6_, c7_))
theorem zh3 {R R' : Type} (o : Option R → Option R') (h0 : o none = none) (q0e : Nat) (q0h : List Nat) (q0g : Nat) (q0l : List Nat) (q0f : Nat) (q0k : List Nat) (q0n : Nat) (q0x : List Nat) (q1a : Int) (q1k : Nat) (q1j : Nat) (k_ : Nat → Nat → Nat → Nat → (List Nat) → (List Nat) → (List Nat) → (List Nat) → Option R) : z97 q0e q0h q0g q0l q0f q0k q0n q0x q1a q1k q1j (fun c0_ c1_ c2_ c3_ c4_ c5_ c6_ c7_ => o (k_ c0_ c1_ c2_ c3_ c4_ c5_ c6_ c7_)) = o (z97 q0e q0h q0g q0l q0f q0k q0n q0x q1a q1k q1j k_) := by
  unfold z97
  repeat (first | refine grd_out h0 ?_ | refine br_out ?_ ?_ | rfl | exact h0.symm)
noncomputable def z81 (q0e : Nat) (q0h : List Nat) (q0g : Nat) (q0l : List Nat) (q0f : Nat) (q0k : List Nat) (q0n : Nat) (q0x : List Nat) (q1a : Int) (q1k : Nat) (q1j : Nat) : Bool := (z5a q0e q0h q0g q0l q0f q0k q0n q0x q1a q1k q1j).isSome
noncomputable def z3g (q0e : Nat) (q0h : List Nat) (q0g : Nat) (q0l : List Nat) (q0f : Nat) (q0k : List Nat) (q0n : Nat) (q0x : List Nat) (q1a : Int) (q1k : Nat) (q1j : Nat) : Nat := ((z5a q0e q0h q0g q0l q0f q0k q0n q0x q1a q1k q1j).getD default).1
noncomputable def z3h (q0e : Nat) (q0h : List Nat) (q0g : Nat) (q0l : List Nat) (q0f : Nat) (q0k : List Nat) (q0n : Nat) (q0x : List Nat) (q1a : Int) (q1k : Nat) (q1j : Nat) : Nat := ((z5a q0e q0h q0g q0l q0f q0k q0n q0x q1a q1k q1j).getD default).2.1
noncomputable def z3j (q0e : Nat) (q0h : List Nat) (q0g : Nat) (q0l : List Nat) (q0f : Nat) (q0k : List Nat) (q0n : Nat) (q0x : List Nat) (q1a : Int) (q1k : Nat) (q1j : Nat) : Nat := ((z5a q0e q0h q0g q0l q0f q0k q0n q0x q1a q1k q1j).getD default).2.2.1
noncomputable def z3i (q0e : Nat) (q0h : List Nat) (q0g : Nat) (q0l : List Nat) (q0f : Nat) (q0k : List Nat) (q0n : Nat) (q0x : List Nat) (q1a : Int) (q1k : Nat) (q1j : Nat) : Nat := ((z5a q0e q0h q0g q0l q0f q0k q0n q0x q1a q1k q1j).getD default).2.2.2.1
noncomputable def z4j (q0e : Nat) (q0h : List Nat) (q0g : Nat) (q0l : List Nat) (q0f : Nat) (q0k : List Nat) (q0n : Nat) (q0x : List Nat) (q1a : Int) (q1k : Nat) (q1j : Nat) : List Nat := ((z5a q0e q0h q0g q0l q0f q0k q0n q0x q1a q1k q1j).getD default).2.2.2.2.1
noncomputable def z4m (q0e : Nat) (q0h : List Nat) (q0g : Nat) (q0l : List Nat) (q0f : Nat) (q0k : List Nat) (q0n : Nat) (q0x : List Nat) (q1a : Int) (q1k : Nat) (q1j : Nat) : List Nat := ((z5a q0e q0h q0g q0l q0f q0k q0n q0x q1a q1k q1j).getD default).2.2.2.2.2.1
noncomputable def z4k (q0e : Nat) (q0h : List Nat) (q0g : Nat) (q0l : List Nat) (q0f : Nat) (q0k : List Nat) (q0n : Nat) (q0x : List Nat) (q1a : Int) (q1k : Nat) (q1j : Nat) : List Nat := ((z5a q0e q0h q0g q0l q0f q0k q0n q0x q1a q1k q1j).getD default).2.2.2.2.2.2.1
noncomputable def z4l (q0e : Nat) (q0h : List Nat) (q0g : Nat) (q0l : List Nat) (q0f : Nat) (q0k : List Nat) (q0n : Nat) (q0x : List Nat) (q1a : Int) (q1k : Nat) (q1j : Nat) : List Nat := ((z5a q0e q0h q0g q0l q0f q0k q0n q0x q1a q1k q1j).getD default).2.2.2.2.2.2.2
theorem ziw {q0e : Nat} {q0h : List Nat} {q0g : Nat} {q0l : List Nat} {q0f : Nat} {q0k : List Nat} {q0n : Nat} {q0x : List Nat} {q1a : Int} {q1k : Nat} {q1j : Nat} {r : Nat × Nat × Nat × Nat × (List Nat) × (List Nat) × (List Nat) × (List Nat)} (h : z5a q0e q0h q0g q0l q0f q0k q0n q0x q1a q1k q1j = some r) : z81 q0e q0h q0g q0l q0f q0k q0n q0x q1a q1k q1j = true ∧ z3g q0e q0h q0g q0l q0f q0k q0n q0x q1a q1k q1j = r.1 ∧ z3h q0e q0h q0g q0l q0f q0k q0n q0x q1a q1k q1j = r.2.1 ∧ z3j q0e q0h q0g q0l q0f q0k q0n q0x q1a q1k q1j = r.2.2.1 ∧ z3i q0e q0h q0g q0l q0f q0k q0n q0x q1a q1k q1j = r.2.2.2.1 ∧ z4j q0e q0h q0g q0l q0f q0k q0n q0x q1a q1k q1j = r.2.2.2.2.1 ∧ z4m q0e q0h q0g q0l q0f q0k q0n q0x q1a q1k q1j = r.2.2.2.2.2.1 ∧ z4k q0e q0h q0g q0l q0f q0k q0n q0x q1a q1k q1j = r.2.2.2.2.2.2.1 ∧ z4l q0e q0h q0g q0l q0f q0k q0n q0x q1a q1k q1j = r.2.2.2.2.2.2.2 := by
  unfold z81 z3g z3h z3j z3i z4j z4m z4k z4l
  rw [h]
  exact ⟨rfl, rfl, rfl, rfl, rfl, rfl, rfl, rfl, rfl⟩
noncomputable def z84 {R : Type} (q0t : Nat) (q18 : List Nat) (q0z : Nat) (q1b : List Nat) (q12 : Nat) (q1f : List Nat) (q24 : Nat) (q2e : List Nat) (q26 : Nat) (q2h : List Nat) (q27 : Nat) (q2g : List Nat) (k_ : Bool → Option R) : Option R := (grd (z7t q0t (pF q18 0 (muN q0t 1)) q24 (pF q2e 0 (muN q24 1))) (br (bnot (z6u q0t (pF q18 0 (muN q0t 1)) q24 (pF q2e 0 (muN q24 1)))) (k_ Bool.false) (grd (z7t q0z (pF q1b 0 (muN q0z 1)) q26 (pF q2h 0 (muN q26 1))) (br (bnot (z6u q0z (pF q1b 0 (muN q0z 1)) q26 (pF q2h 0 (muN q26 1)))) (k_ Bool.false) (grd (z7t q12 (pF q1f 0 (muN q12 1)) q27 (pF q2g 0 (muN q27 1))) (br (bnot (z6u q12 (pF q1f 0 (muN q12 1)) q27 (pF q2g 0 (muN q27 1)))) (k_ Bool.false) (k_ Bool.true)))))))
noncomputable def z80 (q0t : Nat) (q18 : List Nat) (q0z : Nat) (q1b : List Nat) (q12 : Nat) (q1f : List Nat) (q24 : Nat) (q2e : List Nat) (q26 : Nat) (q2h : List Nat) (q27 : Nat) (q2g : List Nat) : Option (Bool) := z84 q0t q18 q0z q1b q12 q1f q24 q2e q26 q2h q27 q2g (fun c0_ => some c0_)
theorem zgf {R R' : Type} (o : Option R → Option R') (h0 : o none = none) (q0t : Nat) (q18 : List Nat) (q0z : Nat) (q1b : List Nat) (q12 : Nat) (q1f : List Nat) (q24 : Nat) (q2e : List Nat) (q26 : Nat) (q2h : List Nat) (q27 : Nat) (q2g : List Nat) (k_ : Bool → Option R) : z84 q0t q18 q0z q1b q12 q1f q24 q2e q26 q2h q27 q2g (fun c0_ => o (k_ c0_)) = o (z84 q0t q18 q0z q1b q12 q1f q24 q2e q26 q2h q27 q2g k_) := by
  unfold z84
  repeat (first | refine grd_out h0 ?_ | refine br_out ?_ ?_ | rfl | exact h0.symm)
noncomputable def zc5 (q0t : Nat) (q18 : List Nat) (q0z : Nat) (q1b : List Nat) (q12 : Nat) (q1f : List Nat) (q24 : Nat) (q2e : List Nat) (q26 : Nat) (q2h : List Nat) (q27 : Nat) (q2g : List Nat) : Bool := (z80 q0t q18 q0z q1b q12 q1f q24 q2e q26 q2h q27 q2g).isSome
noncomputable def zb1 (q0t : Nat) (q18 : List Nat) (q0z : Nat) (q1b : List Nat) (q12 : Nat) (q1f : List Nat) (q24 : Nat) (q2e : List Nat) (q26 : Nat) (q2h : List Nat) (q27 : Nat) (q2g : List Nat) : Bool := ((z80 q0t q18 q0z q1b q12 q1f q24 q2e q26 q2h q27 q2g).getD default)
theorem zhp {q0t : Nat} {q18 : List Nat} {q0z : Nat} {q1b : List Nat} {q12 : Nat} {q1f : List Nat} {q24 : Nat} {q2e : List Nat} {q26 : Nat} {q2h : List Nat} {q27 : Nat} {q2g : List Nat} {r : Bool} (h : z80 q0t q18 q0z q1b q12 q1f q24 q2e q26 q2h q27 q2g = some r) : zc5 q0t q18 q0z q1b q12 q1f q24 q2e q26 q2h q27 q2g = true ∧ zb1 q0t q18 q0z q1b q12 q1f q24 q2e q26 q2h q27 q2g = r := by
  unfold zc5 zb1
  rw [h]
  exact ⟨rfl, rfl⟩
noncomputable def z7l {R : Type} (a_n : Nat) (a : List Nat) (b_n : Nat) (b : List Nat) (k_ : Bool → Option R) : Option R := (br (neI (Int.ofNat a_n) (Int.ofNat b_n)) (k_ Bool.false) (grd (z73 a_n b_n a b 0) (br (z6r a_n b_n a b 0) (k_ Bool.false) (k_ Bool.true))))
noncomputable def z7c (a_n : Nat) (a : List Nat) (b_n : Nat) (b : List Nat) : Option (Bool) := z7l a_n a b_n b (fun c0_ => some c0_)
theorem zfc {R R' : Type} (o : Option R → Option R') (h0 : o none = none) (a_n : Nat) (a : List Nat) (b_n : Nat) (b : List Nat) (k_ : Bool → Option R) : z7l a_n a b_n b (fun c0_ => o (k_ c0_)) = o (z7l a_n a b_n b k_) := by
  unfold z7l
  repeat (first | refine grd_out h0 ?_ | refine br_out ?_ ?_ | rfl | exact h0.symm)
noncomputable def zb0 (a_n : Nat) (a : List Nat) (b_n : Nat) (b : List Nat) : Bool := (z7c a_n a b_n b).isSome
noncomputable def za0 (a_n : Nat) (a : List Nat) (b_n : Nat) (b : List Nat) : Bool := ((z7c a_n a b_n b).getD default)
theorem zhb {a_n : Nat} {a : List Nat} {b_n : Nat} {b : List Nat} {r : Bool} (h : z7c a_n a b_n b = some r) : zb0 a_n a b_n b = true ∧ za0 a_n a b_n b = r := by
  unfold zb0 za0
  rw [h]
  exact ⟨rfl, rfl⟩
noncomputable def zbl {R : Type} (q0y : Nat) (q19 : List Nat) (q17 : Nat) (q1c : List Nat) (q14 : Nat) (q1e : List Nat) (k_ : Bool → Option R) : Option R := (br (ltI (Int.ofNat q0y) 2) (k_ Bool.false) (br (ltI 24 (Int.ofNat q0y)) (k_ Bool.false) (br (neI (Int.ofNat q17) (Int.ofNat q0y)) (k_ Bool.false) (br (neI (Int.ofNat q14) (Int.ofNat q0y)) (k_ Bool.false) (grd (z6j (Int.ofNat q0y) q19 q1c q1e q0y q17 q14 0) (br (z64 (Int.ofNat q0y) q19 q1c q1e q0y q17 q14 0) (k_ Bool.false) (k_ Bool.true)))))))
noncomputable def zbi (q0y : Nat) (q19 : List Nat) (q17 : Nat) (q1c : List Nat) (q14 : Nat) (q1e : List Nat) : Option (Bool) := zbl q0y q19 q17 q1c q14 q1e (fun c0_ => some c0_)
theorem zih {R R' : Type} (o : Option R → Option R') (h0 : o none = none) (q0y : Nat) (q19 : List Nat) (q17 : Nat) (q1c : List Nat) (q14 : Nat) (q1e : List Nat) (k_ : Bool → Option R) : zbl q0y q19 q17 q1c q14 q1e (fun c0_ => o (k_ c0_)) = o (zbl q0y q19 q17 q1c q14 q1e k_) := by
  unfold zbl
  repeat (first | refine grd_out h0 ?_ | refine br_out ?_ ?_ | rfl | exact h0.symm)
noncomputable def zda (q0y : Nat) (q19 : List Nat) (q17 : Nat) (q1c : List Nat) (q14 : Nat) (q1e : List Nat) : Bool := (zbi q0y q19 q17 q1c q14 q1e).isSome
noncomputable def zd6 (q0y : Nat) (q19 : List Nat) (q17 : Nat) (q1c : List Nat) (q14 : Nat) (q1e : List Nat) : Bool := ((zbi q0y q19 q17 q1c q14 q1e).getD default)
theorem zj4 {q0y : Nat} {q19 : List Nat} {q17 : Nat} {q1c : List Nat} {q14 : Nat} {q1e : List Nat} {r : Bool} (h : zbi q0y q19 q17 q1c q14 q1e = some r) : zda q0y q19 q17 q1c q14 q1e = true ∧ zd6 q0y q19 q17 q1c q14 q1e = r := by
  unfold zda zd6
  rw [h]
  exact ⟨rfl, rfl⟩
noncomputable def z4b {R : Type} (s_n : Nat) (s : List Nat) (k_ : Int → Option R) : Option R := (grd (z43 s_n (Int.ofNat s_n) s 0) (br (z3z s_n (Int.ofNat s_n) s 0) (k_ (z4r s_n (Int.ofNat s_n) s 0)) (k_ (Int.negSucc 0))))
noncomputable def z4a (s_n : Nat) (s : List Nat) : Option (Int) := z4b s_n s (fun c0_ => some c0_)
theorem zaw {R R' : Type} (o : Option R → Option R') (h0 : o none = none) (s_n : Nat) (s : List Nat) (k_ : Int → Option R) : z4b s_n s (fun c0_ => o (k_ c0_)) = o (z4b s_n s k_) := by
  unfold z4b
  repeat (first | refine grd_out h0 ?_ | refine br_out ?_ ?_ | rfl | exact h0.symm)
noncomputable def z5b (s_n : Nat) (s : List Nat) : Bool := (z4a s_n s).isSome
noncomputable def z58 (s_n : Nat) (s : List Nat) : Int := ((z4a s_n s).getD default)
theorem zcb {s_n : Nat} {s : List Nat} {r : Int} (h : z4a s_n s = some r) : z5b s_n s = true ∧ z58 s_n s = r := by
  unfold z5b z58
  rw [h]
  exact ⟨rfl, rfl⟩
noncomputable def z45 {R : Type} (s_n : Nat) (s : List Nat) (k_ : Int → Option R) : Option R := (grd (z3y s_n (Int.ofNat s_n) s 0) (br (z3u s_n (Int.ofNat s_n) s 0) (k_ (z4p s_n (Int.ofNat s_n) s 0)) (k_ (Int.negSucc 0))))
noncomputable def z47 (s_n : Nat) (s : List Nat) : Option (Int) := z45 s_n s (fun c0_ => some c0_)
theorem za2 {R R' : Type} (o : Option R → Option R') (h0 : o none = none) (s_n : Nat) (s : List Nat) (k_ : Int → Option R) : z45 s_n s (fun c0_ => o (k_ c0_)) = o (z45 s_n s k_) := by
  unfold z45
  repeat (first | refine grd_out h0 ?_ | refine br_out ?_ ?_ | rfl | exact h0.symm)
noncomputable def z52 (s_n : Nat) (s : List Nat) : Bool := (z47 s_n s).isSome
noncomputable def z4y (s_n : Nat) (s : List Nat) : Int := ((z47 s_n s).getD default)
theorem zbp {s_n : Nat} {s : List Nat} {r : Int} (h : z47 s_n s = some r) : z52 s_n s = true ∧ z4y s_n s = r := by
  unfold z52 z4y
  rw [h]
  exact ⟨rfl, rfl⟩
noncomputable def z3n {R : Type} (sn : Nat) (t7 : Int) (b0 : List Nat) (t8 : Int) (kn_ : Int → Option R) (k0_ : Int → Option R) (k1_ : Int → Bool → Option R) : Option R := (br (ltI t8 t7) (grd (okIx t8 sn) (grd (zb8 (gF b0 (ixO 0 t8 1))) (br (za3 (gF b0 (ixO 0 t8 1))) (k0_ t8) (kn_ (addI IntKind.i64 t8 1))))) (k1_ t8 (ltI t8 t7)))
theorem zaa {R R' : Type} (o : Option R → Option R') (h0 : o none = none) (sn : Nat) (t7 : Int) (b0 : List Nat) (t8 : Int) (kn_ : Int → Option R) (k0_ : Int → Option R) (k1_ : Int → Bool → Option R) : z3n sn t7 b0 t8 (fun t8' => o (kn_ t8')) (fun c0_ => o (k0_ c0_)) (fun c0_ c1_ => o (k1_ c0_ c1_)) = o (z3n sn t7 b0 t8 kn_ k0_ k1_) := by
  unfold z3n
  repeat (first | refine grd_out h0 ?_ | refine br_out ?_ ?_ | rfl | exact h0.symm)
noncomputable def z1s (sn : Nat) (t7 : Int) (b0 : List Nat) : Nat → Int → Option ((Int) ⊕ (Int × Bool))
  | 0, _ => none
  | n + 1, t8 => z3n sn t7 b0  t8  (fun t8' => z1s sn t7 b0 n t8') (fun c0_ => some (Sum.inl c0_)) (fun c0_ c1_ => some (Sum.inr (c0_, c1_)))
theorem z6a (sn : Nat) (t7 : Int) (b0 : List Nat) (n : Nat) (t8 : Int) : z1s sn t7 b0 (n + 1) t8 = z3n sn t7 b0  t8  (fun t8' => z1s sn t7 b0 n t8') (fun c0_ => some (Sum.inl c0_)) (fun c0_ c1_ => some (Sum.inr (c0_, c1_))) := rfl
noncomputable def z48 (sn : Nat) (t7 : Int) (b0 : List Nat) (t8 : Int) : Bool := (z1s sn t7 b0 big t8).isSome
noncomputable def z41 (sn : Nat) (t7 : Int) (b0 : List Nat) (t8 : Int) : Bool := oL (z1s sn t7 b0 big t8)
noncomputable def z4v (sn : Nat) (t7 : Int) (b0 : List Nat) (t8 : Int) : Int := ((tL (z1s sn t7 b0 big t8)).getD default)
noncomputable def z5p (sn : Nat) (t7 : Int) (b0 : List Nat) (t8 : Int) : Int := ((tR (z1s sn t7 b0 big t8)).getD default).1
noncomputable def z5o (sn : Nat) (t7 : Int) (b0 : List Nat) (t8 : Int) : Bool := ((tR (z1s sn t7 b0 big t8)).getD default).2
theorem zav {sn : Nat} {t7 : Int} {b0 : List Nat} {t8 : Int} {m : Nat} {r : Int} (hm : m = big) (h : z1s sn t7 b0 m t8 = some (Sum.inl r)) : z48 sn t7 b0 t8 = true ∧ z41 sn t7 b0 t8 = true ∧ z4v sn t7 b0 t8 = r := by
  subst hm
  unfold z48 z41 z4v
  rw [h]
  exact ⟨rfl, rfl, rfl⟩
theorem zas {sn : Nat} {t7 : Int} {b0 : List Nat} {t8 : Int} {m : Nat} {r : Int × Bool} (hm : m = big) (h : z1s sn t7 b0 m t8 = some (Sum.inr r)) : z48 sn t7 b0 t8 = true ∧ z41 sn t7 b0 t8 = false ∧ z5p sn t7 b0 t8 = r.1 ∧ z5o sn t7 b0 t8 = r.2 := by
  subst hm
  unfold z48 z41 z5p z5o
  rw [h]
  exact ⟨rfl, rfl, rfl, rfl⟩
noncomputable def z94 {R : Type} (q0e : Nat) (q0h : List Nat) (q0g : Nat) (q0l : List Nat) (q0f : Nat) (q0k : List Nat) (q0n : Nat) (q0x : List Nat) (q1a : Int) (q1k : Nat) (q1j : Nat) (q1l : Nat) (q1r : List Nat) (q1o : Nat) (q1w : List Nat) (q1n : Nat) (q1u : List Nat) (q21 : Nat) (q25 : List Nat) (q2j : Int) (q2m : Nat) (q2n : Nat) (k_ : Bool → Option R) : Option R := (grd (zc5 q0e (pF q0h 0 (muN q0e 1)) q0g (pF q0l 0 (muN q0g 1)) q0f (pF q0k 0 (muN q0f 1)) q1l (pF q1r 0 (muN q1l 1)) q1o (pF q1w 0 (muN q1o 1)) q1n (pF q1u 0 (muN q1n 1))) (br (bnot (zb1 q0e (pF q0h 0 (muN q0e 1)) q0g (pF q0l 0 (muN q0g 1)) q0f (pF q0k 0 (muN q0f 1)) q1l (pF q1r 0 (muN q1l 1)) q1o (pF q1w 0 (muN q1o 1)) q1n (pF q1u 0 (muN q1n 1)))) (k_ Bool.false) (grd (zb0 q0n (pF q0x 0 (muN q0n 3)) q21 (pF q25 0 (muN q21 3))) (br (bnot (za0 q0n (pF q0x 0 (muN q0n 3)) q21 (pF q25 0 (muN q21 3)))) (k_ Bool.false) (br (neI q1a q2j) (k_ Bool.false) (grd (z5l (fcvV FloatKind.f32 FloatKind.f64 q1k) (fcvV FloatKind.f32 FloatKind.f64 q2m)) (br (bnot (z5h (fcvV FloatKind.f32 FloatKind.f64 q1k) (fcvV FloatKind.f32 FloatKind.f64 q2m))) (k_ Bool.false) (grd (z5l (fcvV FloatKind.f32 FloatKind.f64 q1j) (fcvV FloatKind.f32 FloatKind.f64 q2n)) (br (bnot (z5h (fcvV FloatKind.f32 FloatKind.f64 q1j) (fcvV FloatKind.f32 FloatKind.f64 q2n))) (k_ Bool.false) (k_ Bool.true))))))))))
noncomputable def z95 (q0e : Nat) (q0h : List Nat) (q0g : Nat) (q0l : List Nat) (q0f : Nat) (q0k : List Nat) (q0n : Nat) (q0x : List Nat) (q1a : Int) (q1k : Nat) (q1j : Nat) (q1l : Nat) (q1r : List Nat) (q1o : Nat) (q1w : List Nat) (q1n : Nat) (q1u : List Nat) (q21 : Nat) (q25 : List Nat) (q2j : Int) (q2m : Nat) (q2n : Nat) : Option (Bool) := z94 q0e q0h q0g q0l q0f q0k q0n q0x q1a q1k q1j q1l q1r q1o q1w q1n q1u q21 q25 q2j q2m q2n (fun c0_ => some c0_)
theorem zh0 {R R' : Type} (o : Option R → Option R') (h0 : o none = none) (q0e : Nat) (q0h : List Nat) (q0g : Nat) (q0l : List Nat) (q0f : Nat) (q0k : List Nat) (q0n : Nat) (q0x : List Nat) (q1a : Int) (q1k : Nat) (q1j : Nat) (q1l : Nat) (q1r : List Nat) (q1o : Nat) (q1w : List Nat) (q1n : Nat) (q1u : List Nat) (q21 : Nat) (q25 : List Nat) (q2j : Int) (q2m : Nat) (q2n : Nat) (k_ : Bool → Option R) : z94 q0e q0h q0g q0l q0f q0k q0n q0x q1a q1k q1j q1l q1r q1o q1w q1n q1u q21 q25 q2j q2m q2n (fun c0_ => o (k_ c0_)) = o (z94 q0e q0h q0g q0l q0f q0k q0n q0x q1a q1k q1j q1l q1r q1o q1w q1n q1u q21 q25 q2j q2m q2n k_) := by
  unfold z94
  repeat (first | refine grd_out h0 ?_ | refine br_out ?_ ?_ | rfl | exact h0.symm)
noncomputable def zbk (q0e : Nat) (q0h : List Nat) (q0g : Nat) (q0l : List Nat) (q0f : Nat) (q0k : List Nat) (q0n : Nat) (q0x : List Nat) (q1a : Int) (q1k : Nat) (q1j : Nat) (q1l : Nat) (q1r : List Nat) (q1o : Nat) (q1w : List Nat) (q1n : Nat) (q1u : List Nat) (q21 : Nat) (q25 : List Nat) (q2j : Int) (q2m : Nat) (q2n : Nat) : Bool := (z95 q0e q0h q0g q0l q0f q0k q0n q0x q1a q1k q1j q1l q1r q1o q1w q1n q1u q21 q25 q2j q2m q2n).isSome
noncomputable def zac (q0e : Nat) (q0h : List Nat) (q0g : Nat) (q0l : List Nat) (q0f : Nat) (q0k : List Nat) (q0n : Nat) (q0x : List Nat) (q1a : Int) (q1k : Nat) (q1j : Nat) (q1l : Nat) (q1r : List Nat) (q1o : Nat) (q1w : List Nat) (q1n : Nat) (q1u : List Nat) (q21 : Nat) (q25 : List Nat) (q2j : Int) (q2m : Nat) (q2n : Nat) : Bool := ((z95 q0e q0h q0g q0l q0f q0k q0n q0x q1a q1k q1j q1l q1r q1o q1w q1n q1u q21 q25 q2j q2m q2n).getD default)
theorem zio {q0e : Nat} {q0h : List Nat} {q0g : Nat} {q0l : List Nat} {q0f : Nat} {q0k : List Nat} {q0n : Nat} {q0x : List Nat} {q1a : Int} {q1k : Nat} {q1j : Nat} {q1l : Nat} {q1r : List Nat} {q1o : Nat} {q1w : List Nat} {q1n : Nat} {q1u : List Nat} {q21 : Nat} {q25 : List Nat} {q2j : Int} {q2m : Nat} {q2n : Nat} {r : Bool} (h : z95 q0e q0h q0g q0l q0f q0k q0n q0x q1a q1k q1j q1l q1r q1o q1w q1n q1u q21 q25 q2j q2m q2n = some r) : zbk q0e q0h q0g q0l q0f q0k q0n q0x q1a q1k q1j q1l q1r q1o q1w q1n q1u q21 q25 q2j q2m q2n = true ∧ zac q0e q0h q0g q0l q0f q0k q0n q0x q1a q1k q1j q1l q1r q1o q1w q1n q1u q21 q25 q2j q2m q2n = r := by
  unfold zbk zac
  rw [h]
  exact ⟨rfl, rfl⟩
noncomputable def z4d {R : Type} (s_n : Nat) (s : List Nat) (k_ : Int → Option R) : Option R := (grd (z48 s_n (Int.ofNat s_n) s 0) (br (z41 s_n (Int.ofNat s_n) s 0) (k_ (z4v s_n (Int.ofNat s_n) s 0)) (k_ (Int.negSucc 0))))
noncomputable def z4e (s_n : Nat) (s : List Nat) : Option (Int) := z4d s_n s (fun c0_ => some c0_)
theorem zbn {R R' : Type} (o : Option R → Option R') (h0 : o none = none) (s_n : Nat) (s : List Nat) (k_ : Int → Option R) : z4d s_n s (fun c0_ => o (k_ c0_)) = o (z4d s_n s k_) := by
  unfold z4d
  repeat (first | refine grd_out h0 ?_ | refine br_out ?_ ?_ | rfl | exact h0.symm)
noncomputable def z5e (s_n : Nat) (s : List Nat) : Bool := (z4e s_n s).isSome
noncomputable def z5c (s_n : Nat) (s : List Nat) : Int := ((z4e s_n s).getD default)
theorem zce {s_n : Nat} {s : List Nat} {r : Int} (h : z4e s_n s = some r) : z5e s_n s = true ∧ z5c s_n s = r := by
  unfold z5e z5c
  rw [h]
  exact ⟨rfl, rfl⟩
noncomputable def z40 {R : Type} (s_n : Nat) (s : List Nat) (k_ : Bool → Option R) : Option R := (grd (z5b s_n (pF s 0 (muN s_n 1))) (k_ (leI 0 (z58 s_n (pF s 0 (muN s_n 1))))))
noncomputable def z42 (s_n : Nat) (s : List Nat) : Option (Bool) := z40 s_n s (fun c0_ => some c0_)
theorem z9l {R R' : Type} (o : Option R → Option R') (h0 : o none = none) (s_n : Nat) (s : List Nat) (k_ : Bool → Option R) : z40 s_n s (fun c0_ => o (k_ c0_)) = o (z40 s_n s k_) := by
  unfold z40
  repeat (first | refine grd_out h0 ?_ | refine br_out ?_ ?_ | rfl | exact h0.symm)
noncomputable def z4z (s_n : Nat) (s : List Nat) : Bool := (z42 s_n s).isSome
noncomputable def z4w (s_n : Nat) (s : List Nat) : Bool := ((z42 s_n s).getD default)
theorem zau {s_n : Nat} {s : List Nat} {r : Bool} (h : z42 s_n s = some r) : z4z s_n s = true ∧ z4w s_n s = r := by
  unfold z4z z4w
  rw [h]
  exact ⟨rfl, rfl⟩
noncomputable def z3w {R : Type} (s_n : Nat) (s : List Nat) (k_ : Bool → Option R) : Option R := (grd (z52 s_n (pF s 0 (muN s_n 1))) (k_ (leI 0 (z4y s_n (pF s 0 (muN s_n 1))))))
noncomputable def z3x (s_n : Nat) (s : List Nat) : Option (Bool) := z3w s_n s (fun c0_ => some c0_)
theorem z9d {R R' : Type} (o : Option R → Option R') (h0 : o none = none) (s_n : Nat) (s : List Nat) (k_ : Bool → Option R) : z3w s_n s (fun c0_ => o (k_ c0_)) = o (z3w s_n s k_) := by
  unfold z3w
  repeat (first | refine grd_out h0 ?_ | refine br_out ?_ ?_ | rfl | exact h0.symm)
noncomputable def z4u (s_n : Nat) (s : List Nat) : Bool := (z3x s_n s).isSome
noncomputable def z4q (s_n : Nat) (s : List Nat) : Bool := ((z3x s_n s).getD default)
theorem zak {s_n : Nat} {s : List Nat} {r : Bool} (h : z3x s_n s = some r) : z4u s_n s = true ∧ z4q s_n s = r := by
  unfold z4u z4q
  rw [h]
  exact ⟨rfl, rfl⟩
noncomputable def z49 {R : Type} (s_n : Nat) (s : List Nat) (k_ : Bool → Option R) : Option R := (grd (z5e s_n (pF s 0 (muN s_n 1))) (k_ (leI 0 (z5c s_n (pF s 0 (muN s_n 1))))))
noncomputable def z46 (s_n : Nat) (s : List Nat) : Option (Bool) := z49 s_n s (fun c0_ => some c0_)
theorem za5 {R R' : Type} (o : Option R → Option R') (h0 : o none = none) (s_n : Nat) (s : List Nat) (k_ : Bool → Option R) : z49 s_n s (fun c0_ => o (k_ c0_)) = o (z49 s_n s k_) := by
  unfold z49
  repeat (first | refine grd_out h0 ?_ | refine br_out ?_ ?_ | rfl | exact h0.symm)
noncomputable def z53 (s_n : Nat) (s : List Nat) : Bool := (z46 s_n s).isSome
noncomputable def z4x (s_n : Nat) (s : List Nat) : Bool := ((z46 s_n s).getD default)
theorem zbg {s_n : Nat} {s : List Nat} {r : Bool} (h : z46 s_n s = some r) : z53 s_n s = true ∧ z4x s_n s = r := by
  unfold z53 z4x
  rw [h]
  exact ⟨rfl, rfl⟩
noncomputable def z5z {R : Type} (t57 : Int) (b3 : List Nat) (q1s : Nat) (q1p : Nat) (t4 : Nat) (t58 : Int) (kn_ : Nat → Int → Option R) (k0_ : Unit → Option R) (k1_ : Nat → Int → Bool → Option R) : Option R := (br (ltI t58 t57) (grd (okIx t58 q1s) (br (bnot (fcmp BinOp.gtr FloatKind.f32 (gF b3 (ixO 0 t58 3)) t4)) (k0_ ()) (br (bnot (fcmp BinOp.lss FloatKind.f32 (gF b3 (ixO 0 t58 3)) q1p)) (k0_ ()) (grd (zcj (gF b3 (Nat.succ (ixO 0 t58 3)))) (br (bnot (zcc (gF b3 (Nat.succ (ixO 0 t58 3))))) (k0_ ()) (grd (z51 (gF b3 (Nat.succ (Nat.succ (ixO 0 t58 3))))) (br (bnot (z4s (gF b3 (Nat.succ (Nat.succ (ixO 0 t58 3)))))) (k0_ ()) (kn_ (gF b3 (ixO 0 t58 3)) (addI IntKind.i64 t58 1))))))))) (k1_ t4 t58 (ltI t58 t57)))
theorem zgn {R R' : Type} (o : Option R → Option R') (h0 : o none = none) (t57 : Int) (b3 : List Nat) (q1s : Nat) (q1p : Nat) (t4 : Nat) (t58 : Int) (kn_ : Nat → Int → Option R) (k0_ : Unit → Option R) (k1_ : Nat → Int → Bool → Option R) : z5z t57 b3 q1s q1p t4 t58 (fun t4' t58' => o (kn_ t4' t58')) (fun _ => o (k0_ ())) (fun c0_ c1_ c2_ => o (k1_ c0_ c1_ c2_)) = o (z5z t57 b3 q1s q1p t4 t58 kn_ k0_ k1_) := by
  unfold z5z
  repeat (first | refine grd_out h0 ?_ | refine br_out ?_ ?_ | rfl | exact h0.symm)
noncomputable def z4c (t57 : Int) (b3 : List Nat) (q1s : Nat) (q1p : Nat) : Nat → Nat → Int → Option ((Unit) ⊕ (Nat × Int × Bool))
  | 0, _, _ => none
  | n + 1, t4, t58 => z5z t57 b3 q1s q1p  t4 t58  (fun t4' t58' => z4c t57 b3 q1s q1p n t4' t58') (fun _ => some (Sum.inl ())) (fun c0_ c1_ c2_ => some (Sum.inr (c0_, c1_, c2_)))
theorem zd9 (t57 : Int) (b3 : List Nat) (q1s : Nat) (q1p : Nat) (n : Nat) (t4 : Nat) (t58 : Int) : z4c t57 b3 q1s q1p (n + 1) t4 t58 = z5z t57 b3 q1s q1p  t4 t58  (fun t4' t58' => z4c t57 b3 q1s q1p n t4' t58') (fun _ => some (Sum.inl ())) (fun c0_ c1_ c2_ => some (Sum.inr (c0_, c1_, c2_))) := rfl
noncomputable def z75 (t57 : Int) (b3 : List Nat) (q1s : Nat) (q1p : Nat) (t4 : Nat) (t58 : Int) : Bool := (z4c t57 b3 q1s q1p big t4 t58).isSome
noncomputable def z6p (t57 : Int) (b3 : List Nat) (q1s : Nat) (q1p : Nat) (t4 : Nat) (t58 : Int) : Bool := oL (z4c t57 b3 q1s q1p big t4 t58)
noncomputable def zd1 (t57 : Int) (b3 : List Nat) (q1s : Nat) (q1p : Nat) (t4 : Nat) (t58 : Int) : Nat := ((tR (z4c t57 b3 q1s q1p big t4 t58)).getD default).1
noncomputable def zcw (t57 : Int) (b3 : List Nat) (q1s : Nat) (q1p : Nat) (t4 : Nat) (t58 : Int) : Int := ((tR (z4c t57 b3 q1s q1p big t4 t58)).getD default).2.1
noncomputable def zd0 (t57 : Int) (b3 : List Nat) (q1s : Nat) (q1p : Nat) (t4 : Nat) (t58 : Int) : Bool := ((tR (z4c t57 b3 q1s q1p big t4 t58)).getD default).2.2
theorem zhv {t57 : Int} {b3 : List Nat} {q1s : Nat} {q1p : Nat} {t4 : Nat} {t58 : Int} {m : Nat} {r : Unit} (hm : m = big) (h : z4c t57 b3 q1s q1p m t4 t58 = some (Sum.inl r)) : z75 t57 b3 q1s q1p t4 t58 = true ∧ z6p t57 b3 q1s q1p t4 t58 = true := by
  subst hm
  unfold z75 z6p
  rw [h]
  exact ⟨rfl, rfl⟩
theorem zhu {t57 : Int} {b3 : List Nat} {q1s : Nat} {q1p : Nat} {t4 : Nat} {t58 : Int} {m : Nat} {r : Nat × Int × Bool} (hm : m = big) (h : z4c t57 b3 q1s q1p m t4 t58 = some (Sum.inr r)) : z75 t57 b3 q1s q1p t4 t58 = true ∧ z6p t57 b3 q1s q1p t4 t58 = false ∧ zd1 t57 b3 q1s q1p t4 t58 = r.1 ∧ zcw t57 b3 q1s q1p t4 t58 = r.2.1 ∧ zd0 t57 b3 q1s q1p t4 t58 = r.2.2 := by
  subst hm
  unfold z75 z6p zd1 zcw zd0
  rw [h]
  exact ⟨rfl, rfl, rfl, rfl, rfl⟩
noncomputable def z85 {R : Type} (q1m : Nat) (q22 : List Nat) (k_ : Bool → Option R) : Option R := (grd (z4z q1m (pF q22 0 (muN q1m 1))) (k_ (bnot (z4w q1m (pF q22 0 (muN q1m 1))))))
noncomputable def z86 (q1m : Nat) (q22 : List Nat) : Option (Bool) := z85 q1m q22 (fun c0_ => some c0_)
theorem zgc {R R' : Type} (o : Option R → Option R') (h0 : o none = none) (q1m : Nat) (q22 : List Nat) (k_ : Bool → Option R) : z85 q1m q22 (fun c0_ => o (k_ c0_)) = o (z85 q1m q22 k_) := by
  unfold z85
  repeat (first | refine grd_out h0 ?_ | refine br_out ?_ ?_ | rfl | exact h0.symm)
noncomputable def zca (q1m : Nat) (q22 : List Nat) : Bool := (z86 q1m q22).isSome
noncomputable def zb2 (q1m : Nat) (q22 : List Nat) : Bool := ((z86 q1m q22).getD default)
theorem zhj {q1m : Nat} {q22 : List Nat} {r : Bool} (h : z86 q1m q22 = some r) : zca q1m q22 = true ∧ zb2 q1m q22 = r := by
  unfold zca zb2
  rw [h]
  exact ⟨rfl, rfl⟩
noncomputable def zbt {R : Type} (q0m : Nat) (q0s : List Nat) (q0p : Nat) (q0v : List Nat) (q0q : Nat) (q0u : List Nat) (q0w : Nat) (q13 : List Nat) (q1d : Int) (q1g : Nat) (q1h : Nat) (k_ : Bool → Option R) : Option R := (grd (zda q0m (pF q0s 0 (muN q0m 1)) q0p (pF q0v 0 (muN q0p 1)) q0q (pF q0u 0 (muN q0q 1))) (br (bnot (zd6 q0m (pF q0s 0 (muN q0m 1)) q0p (pF q0v 0 (muN q0p 1)) q0q (pF q0u 0 (muN q0q 1)))) (k_ Bool.false) (br (ltI (Int.ofNat q0w) 2) (k_ Bool.false) (br (ltI 12 (Int.ofNat q0w)) (k_ Bool.false) (grd (zcu q1d 1 6) (br (bnot (zcf q1d 1 6)) (k_ Bool.false) (grd (z6i q1g) (br (bnot (z65 q1g)) (k_ Bool.false) (grd (z51 q1h) (br (bnot (z4s q1h)) (k_ Bool.false) (grd (z75 (Int.ofNat q0w) q13 q0w q1h q1g 0) (br (z6p (Int.ofNat q0w) q13 q0w q1h q1g 0) (k_ Bool.false) (k_ Bool.true)))))))))))))
noncomputable def zbm (q0m : Nat) (q0s : List Nat) (q0p : Nat) (q0v : List Nat) (q0q : Nat) (q0u : List Nat) (q0w : Nat) (q13 : List Nat) (q1d : Int) (q1g : Nat) (q1h : Nat) : Option (Bool) := zbt q0m q0s q0p q0v q0q q0u q0w q13 q1d q1g q1h (fun c0_ => some c0_)
theorem zib {R R' : Type} (o : Option R → Option R') (h0 : o none = none) (q0m : Nat) (q0s : List Nat) (q0p : Nat) (q0v : List Nat) (q0q : Nat) (q0u : List Nat) (q0w : Nat) (q13 : List Nat) (q1d : Int) (q1g : Nat) (q1h : Nat) (k_ : Bool → Option R) : zbt q0m q0s q0p q0v q0q q0u q0w q13 q1d q1g q1h (fun c0_ => o (k_ c0_)) = o (zbt q0m q0s q0p q0v q0q q0u q0w q13 q1d q1g q1h k_) := by
  unfold zbt
  repeat (first | refine grd_out h0 ?_ | refine br_out ?_ ?_ | rfl | exact h0.symm)
noncomputable def zdc (q0m : Nat) (q0s : List Nat) (q0p : Nat) (q0v : List Nat) (q0q : Nat) (q0u : List Nat) (q0w : Nat) (q13 : List Nat) (q1d : Int) (q1g : Nat) (q1h : Nat) : Bool := (zbm q0m q0s q0p q0v q0q q0u q0w q13 q1d q1g q1h).isSome
noncomputable def zd5 (q0m : Nat) (q0s : List Nat) (q0p : Nat) (q0v : List Nat) (q0q : Nat) (q0u : List Nat) (q0w : Nat) (q13 : List Nat) (q1d : Int) (q1g : Nat) (q1h : Nat) : Bool := ((zbm q0m q0s q0p q0v q0q q0u q0w q13 q1d q1g q1h).getD default)
theorem zj3 {q0m : Nat} {q0s : List Nat} {q0p : Nat} {q0v : List Nat} {q0q : Nat} {q0u : List Nat} {q0w : Nat} {q13 : List Nat} {q1d : Int} {q1g : Nat} {q1h : Nat} {r : Bool} (h : zbm q0m q0s q0p q0v q0q q0u q0w q13 q1d q1g q1h = some r) : zdc q0m q0s q0p q0v q0q q0u q0w q13 q1d q1g q1h = true ∧ zd5 q0m q0s q0p q0v q0q q0u q0w q13 q1d q1g q1h = r := by
  unfold zdc zd5
  rw [h]
  exact ⟨rfl, rfl⟩
noncomputable def z6y {R : Type} (q1m : Nat) (q22 : List Nat) (k_ : Bool → Option R) : Option R := (grd (z4u q1m (pF q22 0 (muN q1m 1))) (k_ (bnot (z4q q1m (pF q22 0 (muN q1m 1))))))
noncomputable def z63 (q1m : Nat) (q22 : List Nat) : Option (Bool) := z6y q1m q22 (fun c0_ => some c0_)
theorem zew {R R' : Type} (o : Option R → Option R') (h0 : o none = none) (q1m : Nat) (q22 : List Nat) (k_ : Bool → Option R) : z6y q1m q22 (fun c0_ => o (k_ c0_)) = o (z6y q1m q22 k_) := by
  unfold z6y
  repeat (first | refine grd_out h0 ?_ | refine br_out ?_ ?_ | rfl | exact h0.symm)
noncomputable def z8g (q1m : Nat) (q22 : List Nat) : Bool := (z63 q1m q22).isSome
noncomputable def z7y (q1m : Nat) (q22 : List Nat) : Bool := ((z63 q1m q22).getD default)
theorem zgr {q1m : Nat} {q22 : List Nat} {r : Bool} (h : z63 q1m q22 = some r) : z8g q1m q22 = true ∧ z7y q1m q22 = r := by
  unfold z8g z7y
  rw [h]
  exact ⟨rfl, rfl⟩
noncomputable def z8u {R : Type} (q1m : Nat) (q22 : List Nat) (k_ : Bool → Option R) : Option R := (grd (z53 q1m (pF q22 0 (muN q1m 1))) (k_ (bnot (z4x q1m (pF q22 0 (muN q1m 1))))))
noncomputable def z8q (q1m : Nat) (q22 : List Nat) : Option (Bool) := z8u q1m q22 (fun c0_ => some c0_)
theorem zgt {R R' : Type} (o : Option R → Option R') (h0 : o none = none) (q1m : Nat) (q22 : List Nat) (k_ : Bool → Option R) : z8u q1m q22 (fun c0_ => o (k_ c0_)) = o (z8u q1m q22 k_) := by
  unfold z8u
  repeat (first | refine grd_out h0 ?_ | refine br_out ?_ ?_ | rfl | exact h0.symm)
noncomputable def zcs (q1m : Nat) (q22 : List Nat) : Bool := (z8q q1m q22).isSome
noncomputable def zc6 (q1m : Nat) (q22 : List Nat) : Bool := ((z8q q1m q22).getD default)
theorem zic {q1m : Nat} {q22 : List Nat} {r : Bool} (h : z8q q1m q22 = some r) : zcs q1m q22 = true ∧ zc6 q1m q22 = r := by
  unfold zcs zc6
  rw [h]
  exact ⟨rfl, rfl⟩
noncomputable def z7p {R : Type} (q04 : Nat) (q07 : List Nat) (q05 : Nat) (q09 : List Nat) (q06 : Nat) (q0a : List Nat) (q0d : Nat) (q0i : List Nat) (q0r : Int) (q15 : Nat) (q16 : Nat) (i : Int) (k_ : Bool → Option R) : Option R := (grd (zdc q04 (pF q07 0 (muN q04 1)) q05 (pF q09 0 (muN q05 1)) q06 (pF q0a 0 (muN q06 1)) q0d (pF q0i 0 (muN q0d 3)) q0r q15 q16) (br (zd5 q04 (pF q07 0 (muN q04 1)) q05 (pF q09 0 (muN q05 1)) q06 (pF q0a 0 (muN q06 1)) q0d (pF q0i 0 (muN q0d 3)) q0r q15 q16) (grd (zcu i 0 (subI IntKind.i64 (Int.ofNat q0d) 1)) (k_ (zcf i 0 (subI IntKind.i64 (Int.ofNat q0d) 1)))) (k_ Bool.false)))
noncomputable def z7j (q04 : Nat) (q07 : List Nat) (q05 : Nat) (q09 : List Nat) (q06 : Nat) (q0a : List Nat) (q0d : Nat) (q0i : List Nat) (q0r : Int) (q15 : Nat) (q16 : Nat) (i : Int) : Option (Bool) := z7p q04 q07 q05 q09 q06 q0a q0d q0i q0r q15 q16 i (fun c0_ => some c0_)
theorem zfs {R R' : Type} (o : Option R → Option R') (h0 : o none = none) (q04 : Nat) (q07 : List Nat) (q05 : Nat) (q09 : List Nat) (q06 : Nat) (q0a : List Nat) (q0d : Nat) (q0i : List Nat) (q0r : Int) (q15 : Nat) (q16 : Nat) (i : Int) (k_ : Bool → Option R) : z7p q04 q07 q05 q09 q06 q0a q0d q0i q0r q15 q16 i (fun c0_ => o (k_ c0_)) = o (z7p q04 q07 q05 q09 q06 q0a q0d q0i q0r q15 q16 i k_) := by
  unfold z7p
  repeat (first | refine grd_out h0 ?_ | refine br_out ?_ ?_ | rfl | exact h0.symm)
noncomputable def zax (q04 : Nat) (q07 : List Nat) (q05 : Nat) (q09 : List Nat) (q06 : Nat) (q0a : List Nat) (q0d : Nat) (q0i : List Nat) (q0r : Int) (q15 : Nat) (q16 : Nat) (i : Int) : Bool := (z7j q04 q07 q05 q09 q06 q0a q0d q0i q0r q15 q16 i).isSome
noncomputable def zai (q04 : Nat) (q07 : List Nat) (q05 : Nat) (q09 : List Nat) (q06 : Nat) (q0a : List Nat) (q0d : Nat) (q0i : List Nat) (q0r : Int) (q15 : Nat) (q16 : Nat) (i : Int) : Bool := ((z7j q04 q07 q05 q09 q06 q0a q0d q0i q0r q15 q16 i).getD default)
theorem zh4 {q04 : Nat} {q07 : List Nat} {q05 : Nat} {q09 : List Nat} {q06 : Nat} {q0a : List Nat} {q0d : Nat} {q0i : List Nat} {q0r : Int} {q15 : Nat} {q16 : Nat} {i : Int} {r : Bool} (h : z7j q04 q07 q05 q09 q06 q0a q0d q0i q0r q15 q16 i = some r) : zax q04 q07 q05 q09 q06 q0a q0d q0i q0r q15 q16 i = true ∧ zai q04 q07 q05 q09 q06 q0a q0d q0i q0r q15 q16 i = r := by
  unfold zax zai
  rw [h]
  exact ⟨rfl, rfl⟩
noncomputable def z7h {R : Type} (q04 : Nat) (q07 : List Nat) (q05 : Nat) (q09 : List Nat) (q06 : Nat) (q0a : List Nat) (q0d : Nat) (q0i : List Nat) (q0r : Int) (q15 : Nat) (q16 : Nat) (i : Int) (k_ : Nat → Bool → Option R) : Option R := (grd (zax q04 (pF q07 0 (muN q04 1)) q05 (pF q09 0 (muN q05 1)) q06 (pF q0a 0 (muN q06 1)) q0d (pF q0i 0 (muN q0d 3)) q0r q15 q16 i) (br (bnot (zai q04 (pF q07 0 (muN q04 1)) q05 (pF q09 0 (muN q05 1)) q06 (pF q0a 0 (muN q06 1)) q0d (pF q0i 0 (muN q0d 3)) q0r q15 q16 i)) (k_ 0 Bool.false) (grd (za4 q04 (pF q07 0 (muN q04 1)) q05 (pF q09 0 (muN q05 1)) q06 (pF q0a 0 (muN q06 1)) q0d (pF q0i 0 (muN q0d 3)) q0r q15 q16 i) (grd (zcd (z6k q04 (pF q07 0 (muN q04 1)) q05 (pF q09 0 (muN q05 1)) q06 (pF q0a 0 (muN q06 1)) q0d (pF q0i 0 (muN q0d 3)) q0r q15 q16 i)) (k_ (zbc (z6k q04 (pF q07 0 (muN q04 1)) q05 (pF q09 0 (muN q05 1)) q06 (pF q0a 0 (muN q06 1)) q0d (pF q0i 0 (muN q0d 3)) q0r q15 q16 i)) (zb7 (z6k q04 (pF q07 0 (muN q04 1)) q05 (pF q09 0 (muN q05 1)) q06 (pF q0a 0 (muN q06 1)) q0d (pF q0i 0 (muN q0d 3)) q0r q15 q16 i)))))))
noncomputable def z6g (q04 : Nat) (q07 : List Nat) (q05 : Nat) (q09 : List Nat) (q06 : Nat) (q0a : List Nat) (q0d : Nat) (q0i : List Nat) (q0r : Int) (q15 : Nat) (q16 : Nat) (i : Int) : Option (Nat × Bool) := z7h q04 q07 q05 q09 q06 q0a q0d q0i q0r q15 q16 i (fun c0_ c1_ => some (c0_, c1_))
theorem zfe {R R' : Type} (o : Option R → Option R') (h0 : o none = none) (q04 : Nat) (q07 : List Nat) (q05 : Nat) (q09 : List Nat) (q06 : Nat) (q0a : List Nat) (q0d : Nat) (q0i : List Nat) (q0r : Int) (q15 : Nat) (q16 : Nat) (i : Int) (k_ : Nat → Bool → Option R) : z7h q04 q07 q05 q09 q06 q0a q0d q0i q0r q15 q16 i (fun c0_ c1_ => o (k_ c0_ c1_)) = o (z7h q04 q07 q05 q09 q06 q0a q0d q0i q0r q15 q16 i k_) := by
  unfold z7h
  repeat (first | refine grd_out h0 ?_ | refine br_out ?_ ?_ | rfl | exact h0.symm)
noncomputable def zaz (q04 : Nat) (q07 : List Nat) (q05 : Nat) (q09 : List Nat) (q06 : Nat) (q0a : List Nat) (q0d : Nat) (q0i : List Nat) (q0r : Int) (q15 : Nat) (q16 : Nat) (i : Int) : Bool := (z6g q04 q07 q05 q09 q06 q0a q0d q0i q0r q15 q16 i).isSome
noncomputable def z8i (q04 : Nat) (q07 : List Nat) (q05 : Nat) (q09 : List Nat) (q06 : Nat) (q0a : List Nat) (q0d : Nat) (q0i : List Nat) (q0r : Int) (q15 : Nat) (q16 : Nat) (i : Int) : Nat := ((z6g q04 q07 q05 q09 q06 q0a q0d q0i q0r q15 q16 i).getD default).1
noncomputable def zal (q04 : Nat) (q07 : List Nat) (q05 : Nat) (q09 : List Nat) (q06 : Nat) (q0a : List Nat) (q0d : Nat) (q0i : List Nat) (q0r : Int) (q15 : Nat) (q16 : Nat) (i : Int) : Bool := ((z6g q04 q07 q05 q09 q06 q0a q0d q0i q0r q15 q16 i).getD default).2
theorem zh2 {q04 : Nat} {q07 : List Nat} {q05 : Nat} {q09 : List Nat} {q06 : Nat} {q0a : List Nat} {q0d : Nat} {q0i : List Nat} {q0r : Int} {q15 : Nat} {q16 : Nat} {i : Int} {r : Nat × Bool} (h : z6g q04 q07 q05 q09 q06 q0a q0d q0i q0r q15 q16 i = some r) : zaz q04 q07 q05 q09 q06 q0a q0d q0i q0r q15 q16 i = true ∧ z8i q04 q07 q05 q09 q06 q0a q0d q0i q0r q15 q16 i = r.1 ∧ zal q04 q07 q05 q09 q06 q0a q0d q0i q0r q15 q16 i = r.2 := by
  unfold zaz z8i zal
  rw [h]
  exact ⟨rfl, rfl, rfl⟩
noncomputable def z4t {R : Type} (q29 : Nat) (t43 : Int) (b0 : List Nat) (q1i : Nat) (t44 : Int) (kn_ : Int → Option R) (k0_ : Unit → Option R) (k1_ : Int → Bool → Option R) : Option R := (br (ltI t44 t43) (grd (okIx t44 q29) (grd (zcr (gF b0 (ixO 0 t44 1)) 3204448256 1056964608) (br (bnot (zc8 (gF b0 (ixO 0 t44 1)) 3204448256 1056964608)) (k0_ ()) (br (ltI 0 t44) (grd (okIx (subI IntKind.i64 t44 1) q1i) (br (fcmp BinOp.geq FloatKind.f32 (gF b0 (ixO 0 (subI IntKind.i64 t44 1) 1)) (gF b0 (ixO 0 t44 1))) (k0_ ()) (kn_ (addI IntKind.i64 t44 1)))) (kn_ (addI IntKind.i64 t44 1)))))) (k1_ t44 (ltI t44 t43)))
theorem zdj {R R' : Type} (o : Option R → Option R') (h0 : o none = none) (q29 : Nat) (t43 : Int) (b0 : List Nat) (q1i : Nat) (t44 : Int) (kn_ : Int → Option R) (k0_ : Unit → Option R) (k1_ : Int → Bool → Option R) : z4t q29 t43 b0 q1i t44 (fun t44' => o (kn_ t44')) (fun _ => o (k0_ ())) (fun c0_ c1_ => o (k1_ c0_ c1_)) = o (z4t q29 t43 b0 q1i t44 kn_ k0_ k1_) := by
  unfold z4t
  repeat (first | refine grd_out h0 ?_ | refine br_out ?_ ?_ | rfl | exact h0.symm)
noncomputable def z3v (q29 : Nat) (t43 : Int) (b0 : List Nat) (q1i : Nat) : Nat → Int → Option ((Unit) ⊕ (Int × Bool))
  | 0, _ => none
  | n + 1, t44 => z4t q29 t43 b0 q1i  t44  (fun t44' => z3v q29 t43 b0 q1i n t44') (fun _ => some (Sum.inl ())) (fun c0_ c1_ => some (Sum.inr (c0_, c1_)))
theorem zc3 (q29 : Nat) (t43 : Int) (b0 : List Nat) (q1i : Nat) (n : Nat) (t44 : Int) : z3v q29 t43 b0 q1i (n + 1) t44 = z4t q29 t43 b0 q1i  t44  (fun t44' => z3v q29 t43 b0 q1i n t44') (fun _ => some (Sum.inl ())) (fun c0_ c1_ => some (Sum.inr (c0_, c1_))) := rfl
noncomputable def z5n (q29 : Nat) (t43 : Int) (b0 : List Nat) (q1i : Nat) (t44 : Int) : Bool := (z3v q29 t43 b0 q1i big t44).isSome
noncomputable def z5i (q29 : Nat) (t43 : Int) (b0 : List Nat) (q1i : Nat) (t44 : Int) : Bool := oL (z3v q29 t43 b0 q1i big t44)
noncomputable def z91 (q29 : Nat) (t43 : Int) (b0 : List Nat) (q1i : Nat) (t44 : Int) : Int := ((tR (z3v q29 t43 b0 q1i big t44)).getD default).1
noncomputable def z8y (q29 : Nat) (t43 : Int) (b0 : List Nat) (q1i : Nat) (t44 : Int) : Bool := ((tR (z3v q29 t43 b0 q1i big t44)).getD default).2
theorem ze8 {q29 : Nat} {t43 : Int} {b0 : List Nat} {q1i : Nat} {t44 : Int} {m : Nat} {r : Unit} (hm : m = big) (h : z3v q29 t43 b0 q1i m t44 = some (Sum.inl r)) : z5n q29 t43 b0 q1i t44 = true ∧ z5i q29 t43 b0 q1i t44 = true := by
  subst hm
  unfold z5n z5i
  rw [h]
  exact ⟨rfl, rfl⟩
theorem zee {q29 : Nat} {t43 : Int} {b0 : List Nat} {q1i : Nat} {t44 : Int} {m : Nat} {r : Int × Bool} (hm : m = big) (h : z3v q29 t43 b0 q1i m t44 = some (Sum.inr r)) : z5n q29 t43 b0 q1i t44 = true ∧ z5i q29 t43 b0 q1i t44 = false ∧ z91 q29 t43 b0 q1i t44 = r.1 ∧ z8y q29 t43 b0 q1i t44 = r.2 := by
  subst hm
  unfold z5n z5i z91 z8y
  rw [h]
  exact ⟨rfl, rfl, rfl, rfl⟩
noncomputable def z6l {R : Type} (q0y : Nat) (q19 : List Nat) (q17 : Nat) (q1c : List Nat) (q14 : Nat) (q1e : List Nat) (k_ : Bool → Option R) : Option R := (br (ltI (Int.ofNat q0y) 2) (k_ Bool.false) (br (ltI 24 (Int.ofNat q0y)) (k_ Bool.false) (br (neI (Int.ofNat q17) (Int.ofNat q0y)) (k_ Bool.false) (br (neI (Int.ofNat q14) (Int.ofNat q0y)) (k_ Bool.false) (grd (zca q17 (pF q1c 0 (muN q17 1))) (br (bnot (zb2 q17 (pF q1c 0 (muN q17 1)))) (k_ Bool.false) (grd (zcs q14 (pF q1e 0 (muN q14 1))) (br (bnot (zc6 q14 (pF q1e 0 (muN q14 1)))) (k_ Bool.false) (grd (z5n q0y (Int.ofNat q0y) q19 q0y 0) (br (z5i q0y (Int.ofNat q0y) q19 q0y 0) (k_ Bool.false) (k_ Bool.true)))))))))))
noncomputable def z6m (q0y : Nat) (q19 : List Nat) (q17 : Nat) (q1c : List Nat) (q14 : Nat) (q1e : List Nat) : Option (Bool) := z6l q0y q19 q17 q1c q14 q1e (fun c0_ => some c0_)
theorem zek {R R' : Type} (o : Option R → Option R') (h0 : o none = none) (q0y : Nat) (q19 : List Nat) (q17 : Nat) (q1c : List Nat) (q14 : Nat) (q1e : List Nat) (k_ : Bool → Option R) : z6l q0y q19 q17 q1c q14 q1e (fun c0_ => o (k_ c0_)) = o (z6l q0y q19 q17 q1c q14 q1e k_) := by
  unfold z6l
  repeat (first | refine grd_out h0 ?_ | refine br_out ?_ ?_ | rfl | exact h0.symm)
noncomputable def z9h (q0y : Nat) (q19 : List Nat) (q17 : Nat) (q1c : List Nat) (q14 : Nat) (q1e : List Nat) : Bool := (z6m q0y q19 q17 q1c q14 q1e).isSome
noncomputable def z8w (q0y : Nat) (q19 : List Nat) (q17 : Nat) (q1c : List Nat) (q14 : Nat) (q1e : List Nat) : Bool := ((z6m q0y q19 q17 q1c q14 q1e).getD default)
theorem zg6 {q0y : Nat} {q19 : List Nat} {q17 : Nat} {q1c : List Nat} {q14 : Nat} {q1e : List Nat} {r : Bool} (h : z6m q0y q19 q17 q1c q14 q1e = some r) : z9h q0y q19 q17 q1c q14 q1e = true ∧ z8w q0y q19 q17 q1c q14 q1e = r := by
  unfold z9h z8w
  rw [h]
  exact ⟨rfl, rfl⟩
noncomputable def z56 {R : Type} (q28 : Nat) (t44 : Int) (b3 : List Nat) (q1p : Nat) (t4 : Nat) (t45 : Int) (kn_ : Nat → Int → Option R) (k0_ : Unit → Option R) (k1_ : Nat → Int → Bool → Option R) : Option R := (br (ltI t45 t44) (grd (okIx t45 q28) (br (fcmp BinOp.gtr FloatKind.f32 (gF b3 (ixO 0 t45 3)) t4) (br (bnot (fcmp BinOp.lss FloatKind.f32 (gF b3 (ixO 0 t45 3)) q1p)) (k0_ ()) (grd (z8g 1 (pF [(gF b3 (Nat.succ (ixO 0 t45 3)))] 0 (muN 1 1))) (br (bnot (z7y 1 (pF [(gF b3 (Nat.succ (ixO 0 t45 3)))] 0 (muN 1 1)))) (k0_ ()) (grd (z5t (gF b3 (Nat.succ (Nat.succ (ixO 0 t45 3))))) (br (bnot (z5m (gF b3 (Nat.succ (Nat.succ (ixO 0 t45 3)))))) (k0_ ()) (kn_ (gF b3 (ixO 0 t45 3)) (addI IntKind.i64 t45 1))))))) (br (bnot Bool.false) (k0_ ()) (grd (z8g 1 (pF [(gF b3 (Nat.succ (ixO 0 t45 3)))] 0 (muN 1 1))) (br (bnot (z7y 1 (pF [(gF b3 (Nat.succ (ixO 0 t45 3)))] 0 (muN 1 1)))) (k0_ ()) (grd (z5t (gF b3 (Nat.succ (Nat.succ (ixO 0 t45 3))))) (br (bnot (z5m (gF b3 (Nat.succ (Nat.succ (ixO 0 t45 3)))))) (k0_ ()) (kn_ (gF b3 (ixO 0 t45 3)) (addI IntKind.i64 t45 1))))))))) (k1_ t4 t45 (ltI t45 t44)))
theorem ze6 {R R' : Type} (o : Option R → Option R') (h0 : o none = none) (q28 : Nat) (t44 : Int) (b3 : List Nat) (q1p : Nat) (t4 : Nat) (t45 : Int) (kn_ : Nat → Int → Option R) (k0_ : Unit → Option R) (k1_ : Nat → Int → Bool → Option R) : z56 q28 t44 b3 q1p t4 t45 (fun t4' t45' => o (kn_ t4' t45')) (fun _ => o (k0_ ())) (fun c0_ c1_ c2_ => o (k1_ c0_ c1_ c2_)) = o (z56 q28 t44 b3 q1p t4 t45 kn_ k0_ k1_) := by
  unfold z56
  repeat (first | refine grd_out h0 ?_ | refine br_out ?_ ?_ | rfl | exact h0.symm)
noncomputable def z3s (q28 : Nat) (t44 : Int) (b3 : List Nat) (q1p : Nat) : Nat → Nat → Int → Option ((Unit) ⊕ (Nat × Int × Bool))
  | 0, _, _ => none
  | n + 1, t4, t45 => z56 q28 t44 b3 q1p  t4 t45  (fun t4' t45' => z3s q28 t44 b3 q1p n t4' t45') (fun _ => some (Sum.inl ())) (fun c0_ c1_ c2_ => some (Sum.inr (c0_, c1_, c2_)))
theorem zcn (q28 : Nat) (t44 : Int) (b3 : List Nat) (q1p : Nat) (n : Nat) (t4 : Nat) (t45 : Int) : z3s q28 t44 b3 q1p (n + 1) t4 t45 = z56 q28 t44 b3 q1p  t4 t45  (fun t4' t45' => z3s q28 t44 b3 q1p n t4' t45') (fun _ => some (Sum.inl ())) (fun c0_ c1_ c2_ => some (Sum.inr (c0_, c1_, c2_))) := rfl
noncomputable def z5u (q28 : Nat) (t44 : Int) (b3 : List Nat) (q1p : Nat) (t4 : Nat) (t45 : Int) : Bool := (z3s q28 t44 b3 q1p big t4 t45).isSome
noncomputable def z5r (q28 : Nat) (t44 : Int) (b3 : List Nat) (q1p : Nat) (t4 : Nat) (t45 : Int) : Bool := oL (z3s q28 t44 b3 q1p big t4 t45)
noncomputable def z9k (q28 : Nat) (t44 : Int) (b3 : List Nat) (q1p : Nat) (t4 : Nat) (t45 : Int) : Nat := ((tR (z3s q28 t44 b3 q1p big t4 t45)).getD default).1
noncomputable def z9p (q28 : Nat) (t44 : Int) (b3 : List Nat) (q1p : Nat) (t4 : Nat) (t45 : Int) : Int := ((tR (z3s q28 t44 b3 q1p big t4 t45)).getD default).2.1
noncomputable def z9j (q28 : Nat) (t44 : Int) (b3 : List Nat) (q1p : Nat) (t4 : Nat) (t45 : Int) : Bool := ((tR (z3s q28 t44 b3 q1p big t4 t45)).getD default).2.2
theorem zf4 {q28 : Nat} {t44 : Int} {b3 : List Nat} {q1p : Nat} {t4 : Nat} {t45 : Int} {m : Nat} {r : Unit} (hm : m = big) (h : z3s q28 t44 b3 q1p m t4 t45 = some (Sum.inl r)) : z5u q28 t44 b3 q1p t4 t45 = true ∧ z5r q28 t44 b3 q1p t4 t45 = true := by
  subst hm
  unfold z5u z5r
  rw [h]
  exact ⟨rfl, rfl⟩
theorem zet {q28 : Nat} {t44 : Int} {b3 : List Nat} {q1p : Nat} {t4 : Nat} {t45 : Int} {m : Nat} {r : Nat × Int × Bool} (hm : m = big) (h : z3s q28 t44 b3 q1p m t4 t45 = some (Sum.inr r)) : z5u q28 t44 b3 q1p t4 t45 = true ∧ z5r q28 t44 b3 q1p t4 t45 = false ∧ z9k q28 t44 b3 q1p t4 t45 = r.1 ∧ z9p q28 t44 b3 q1p t4 t45 = r.2.1 ∧ z9j q28 t44 b3 q1p t4 t45 = r.2.2 := by
  subst hm
  unfold z5u z5r z9k z9p z9j
  rw [h]
  exact ⟨rfl, rfl, rfl, rfl, rfl⟩
noncomputable def z7f {R : Type} (q0m : Nat) (q0s : List Nat) (q0p : Nat) (q0v : List Nat) (q0q : Nat) (q0u : List Nat) (q0w : Nat) (q13 : List Nat) (q1d : Int) (q1g : Nat) (q1h : Nat) (k_ : Bool → Option R) : Option R := (grd (z9h q0m (pF q0s 0 (muN q0m 1)) q0p (pF q0v 0 (muN q0p 1)) q0q (pF q0u 0 (muN q0q 1))) (br (bnot (z8w q0m (pF q0s 0 (muN q0m 1)) q0p (pF q0v 0 (muN q0p 1)) q0q (pF q0u 0 (muN q0q 1)))) (k_ Bool.false) (grd (zcg q1d 1 6) (br (bnot (zbh q1d 1 6)) (k_ Bool.false) (br (ltI (Int.ofNat q0w) 2) (k_ Bool.false) (br (ltI 12 (Int.ofNat q0w)) (k_ Bool.false) (grd (zbj q1g) (br (bnot (zae q1g)) (k_ Bool.false) (grd (z5t q1h) (br (bnot (z5m q1h)) (k_ Bool.false) (grd (z5u q0w (Int.ofNat q0w) q13 q1h q1g 0) (br (z5r q0w (Int.ofNat q0w) q13 q1h q1g 0) (k_ Bool.false) (k_ Bool.true)))))))))))))
noncomputable def z7n (q0m : Nat) (q0s : List Nat) (q0p : Nat) (q0v : List Nat) (q0q : Nat) (q0u : List Nat) (q0w : Nat) (q13 : List Nat) (q1d : Int) (q1g : Nat) (q1h : Nat) : Option (Bool) := z7f q0m q0s q0p q0v q0q q0u q0w q13 q1d q1g q1h (fun c0_ => some c0_)
theorem zfi {R R' : Type} (o : Option R → Option R') (h0 : o none = none) (q0m : Nat) (q0s : List Nat) (q0p : Nat) (q0v : List Nat) (q0q : Nat) (q0u : List Nat) (q0w : Nat) (q13 : List Nat) (q1d : Int) (q1g : Nat) (q1h : Nat) (k_ : Bool → Option R) : z7f q0m q0s q0p q0v q0q q0u q0w q13 q1d q1g q1h (fun c0_ => o (k_ c0_)) = o (z7f q0m q0s q0p q0v q0q q0u q0w q13 q1d q1g q1h k_) := by
  unfold z7f
  repeat (first | refine grd_out h0 ?_ | refine br_out ?_ ?_ | rfl | exact h0.symm)
noncomputable def zb4 (q0m : Nat) (q0s : List Nat) (q0p : Nat) (q0v : List Nat) (q0q : Nat) (q0u : List Nat) (q0w : Nat) (q13 : List Nat) (q1d : Int) (q1g : Nat) (q1h : Nat) : Bool := (z7n q0m q0s q0p q0v q0q q0u q0w q13 q1d q1g q1h).isSome
noncomputable def za8 (q0m : Nat) (q0s : List Nat) (q0p : Nat) (q0v : List Nat) (q0q : Nat) (q0u : List Nat) (q0w : Nat) (q13 : List Nat) (q1d : Int) (q1g : Nat) (q1h : Nat) : Bool := ((z7n q0m q0s q0p q0v q0q q0u q0w q13 q1d q1g q1h).getD default)
theorem zgy {q0m : Nat} {q0s : List Nat} {q0p : Nat} {q0v : List Nat} {q0q : Nat} {q0u : List Nat} {q0w : Nat} {q13 : List Nat} {q1d : Int} {q1g : Nat} {q1h : Nat} {r : Bool} (h : z7n q0m q0s q0p q0v q0q q0u q0w q13 q1d q1g q1h = some r) : zb4 q0m q0s q0p q0v q0q q0u q0w q13 q1d q1g q1h = true ∧ za8 q0m q0s q0p q0v q0q q0u q0w q13 q1d q1g q1h = r := by
  unfold zb4 za8
  rw [h]
  exact ⟨rfl, rfl⟩
noncomputable def z7i {R : Type} (q04 : Nat) (q07 : List Nat) (q05 : Nat) (q09 : List Nat) (q06 : Nat) (q0a : List Nat) (q0d : Nat) (q0i : List Nat) (q0r : Int) (q15 : Nat) (q16 : Nat) (i : Int) (k_ : Nat → Bool → Option R) : Option R := (grd (zb4 q04 (pF q07 0 (muN q04 1)) q05 (pF q09 0 (muN q05 1)) q06 (pF q0a 0 (muN q06 1)) q0d (pF q0i 0 (muN q0d 3)) q0r q15 q16) (br (bnot (za8 q04 (pF q07 0 (muN q04 1)) q05 (pF q09 0 (muN q05 1)) q06 (pF q0a 0 (muN q06 1)) q0d (pF q0i 0 (muN q0d 3)) q0r q15 q16)) (k_ 0 Bool.false) (grd (z8f q04 (pF q07 0 (muN q04 1)) q05 (pF q09 0 (muN q05 1)) q06 (pF q0a 0 (muN q06 1)) q0d (pF q0i 0 (muN q0d 3)) q0r q15 q16 i) (br (bnot (z7x q04 (pF q07 0 (muN q04 1)) q05 (pF q09 0 (muN q05 1)) q06 (pF q0a 0 (muN q06 1)) q0d (pF q0i 0 (muN q0d 3)) q0r q15 q16 i)) (k_ 0 Bool.false) (grd (z8o q04 (pF q07 0 (muN q04 1)) q05 (pF q09 0 (muN q05 1)) q06 (pF q0a 0 (muN q06 1)) q0d (pF q0i 0 (muN q0d 3)) q0r q15 q16 i) (grd (zd3 (z5v q04 (pF q07 0 (muN q04 1)) q05 (pF q09 0 (muN q05 1)) q06 (pF q0a 0 (muN q06 1)) q0d (pF q0i 0 (muN q0d 3)) q0r q15 q16 i)) (k_ (zcq (z5v q04 (pF q07 0 (muN q04 1)) q05 (pF q09 0 (muN q05 1)) q06 (pF q0a 0 (muN q06 1)) q0d (pF q0i 0 (muN q0d 3)) q0r q15 q16 i)) (zcp (z5v q04 (pF q07 0 (muN q04 1)) q05 (pF q09 0 (muN q05 1)) q06 (pF q0a 0 (muN q06 1)) q0d (pF q0i 0 (muN q0d 3)) q0r q15 q16 i)))))))))
noncomputable def z6c (q04 : Nat) (q07 : List Nat) (q05 : Nat) (q09 : List Nat) (q06 : Nat) (q0a : List Nat) (q0d : Nat) (q0i : List Nat) (q0r : Int) (q15 : Nat) (q16 : Nat) (i : Int) : Option (Nat × Bool) := z7i q04 q07 q05 q09 q06 q0a q0d q0i q0r q15 q16 i (fun c0_ c1_ => some (c0_, c1_))
theorem zf7 {R R' : Type} (o : Option R → Option R') (h0 : o none = none) (q04 : Nat) (q07 : List Nat) (q05 : Nat) (q09 : List Nat) (q06 : Nat) (q0a : List Nat) (q0d : Nat) (q0i : List Nat) (q0r : Int) (q15 : Nat) (q16 : Nat) (i : Int) (k_ : Nat → Bool → Option R) : z7i q04 q07 q05 q09 q06 q0a q0d q0i q0r q15 q16 i (fun c0_ c1_ => o (k_ c0_ c1_)) = o (z7i q04 q07 q05 q09 q06 q0a q0d q0i q0r q15 q16 i k_) := by
  unfold z7i
  repeat (first | refine grd_out h0 ?_ | refine br_out ?_ ?_ | rfl | exact h0.symm)
noncomputable def zbf (q04 : Nat) (q07 : List Nat) (q05 : Nat) (q09 : List Nat) (q06 : Nat) (q0a : List Nat) (q0d : Nat) (q0i : List Nat) (q0r : Int) (q15 : Nat) (q16 : Nat) (i : Int) : Bool := (z6c q04 q07 q05 q09 q06 q0a q0d q0i q0r q15 q16 i).isSome
noncomputable def z8j (q04 : Nat) (q07 : List Nat) (q05 : Nat) (q09 : List Nat) (q06 : Nat) (q0a : List Nat) (q0d : Nat) (q0i : List Nat) (q0r : Int) (q15 : Nat) (q16 : Nat) (i : Int) : Nat := ((z6c q04 q07 q05 q09 q06 q0a q0d q0i q0r q15 q16 i).getD default).1
noncomputable def zaj (q04 : Nat) (q07 : List Nat) (q05 : Nat) (q09 : List Nat) (q06 : Nat) (q0a : List Nat) (q0d : Nat) (q0i : List Nat) (q0r : Int) (q15 : Nat) (q16 : Nat) (i : Int) : Bool := ((z6c q04 q07 q05 q09 q06 q0a q0d q0i q0r q15 q16 i).getD default).2
theorem zh6 {q04 : Nat} {q07 : List Nat} {q05 : Nat} {q09 : List Nat} {q06 : Nat} {q0a : List Nat} {q0d : Nat} {q0i : List Nat} {q0r : Int} {q15 : Nat} {q16 : Nat} {i : Int} {r : Nat × Bool} (h : z6c q04 q07 q05 q09 q06 q0a q0d q0i q0r q15 q16 i = some r) : zbf q04 q07 q05 q09 q06 q0a q0d q0i q0r q15 q16 i = true ∧ z8j q04 q07 q05 q09 q06 q0a q0d q0i q0r q15 q16 i = r.1 ∧ zaj q04 q07 q05 q09 q06 q0a q0d q0i q0r q15 q16 i = r.2 := by
  unfold zbf z8j zaj
  rw [h]
  exact ⟨rfl, rfl, rfl⟩
noncomputable def z5s {R : Type} (q00 : Nat) (q08 : List Nat) (q02 : Nat) (q0b : List Nat) (q01 : Nat) (q0c : List Nat) (q03 : Nat) (q0j : List Nat) (q0o : Int) (q11 : Nat) (q10 : Nat) (aI : Int) (k_ : Bool → Option R) : Option R := (grd (zbx q00 (pF q08 0 (muN q00 1)) q02 (pF q0b 0 (muN q02 1)) q01 (pF q0c 0 (muN q01 1)) q03 (pF q0j 0 (muN q03 3)) q0o q11 q10 1048576) (br (ltI (za6 q00 (pF q08 0 (muN q00 1)) q02 (pF q0b 0 (muN q02 1)) q01 (pF q0c 0 (muN q01 1)) q03 (pF q0j 0 (muN q03 3)) q0o q11 q10 1048576) 0) (k_ Bool.true) (grd (z81 q00 (pF q08 0 (muN q00 1)) q02 (pF q0b 0 (muN q02 1)) q01 (pF q0c 0 (muN q01 1)) q03 (pF q0j 0 (muN q03 3)) q0o q11 q10) (grd (zaz (z3g q00 (pF q08 0 (muN q00 1)) q02 (pF q0b 0 (muN q02 1)) q01 (pF q0c 0 (muN q01 1)) q03 (pF q0j 0 (muN q03 3)) q0o q11 q10) (pF (z4j q00 (pF q08 0 (muN q00 1)) q02 (pF q0b 0 (muN q02 1)) q01 (pF q0c 0 (muN q01 1)) q03 (pF q0j 0 (muN q03 3)) q0o q11 q10) 0 (muN (z3g q00 (pF q08 0 (muN q00 1)) q02 (pF q0b 0 (muN q02 1)) q01 (pF q0c 0 (muN q01 1)) q03 (pF q0j 0 (muN q03 3)) q0o q11 q10) 1)) (z3h q00 (pF q08 0 (muN q00 1)) q02 (pF q0b 0 (muN q02 1)) q01 (pF q0c 0 (muN q01 1)) q03 (pF q0j 0 (muN q03 3)) q0o q11 q10) (pF (z4m q00 (pF q08 0 (muN q00 1)) q02 (pF q0b 0 (muN q02 1)) q01 (pF q0c 0 (muN q01 1)) q03 (pF q0j 0 (muN q03 3)) q0o q11 q10) 0 (muN (z3h q00 (pF q08 0 (muN q00 1)) q02 (pF q0b 0 (muN q02 1)) q01 (pF q0c 0 (muN q01 1)) q03 (pF q0j 0 (muN q03 3)) q0o q11 q10) 1)) (z3j q00 (pF q08 0 (muN q00 1)) q02 (pF q0b 0 (muN q02 1)) q01 (pF q0c 0 (muN q01 1)) q03 (pF q0j 0 (muN q03 3)) q0o q11 q10) (pF (z4k q00 (pF q08 0 (muN q00 1)) q02 (pF q0b 0 (muN q02 1)) q01 (pF q0c 0 (muN q01 1)) q03 (pF q0j 0 (muN q03 3)) q0o q11 q10) 0 (muN (z3j q00 (pF q08 0 (muN q00 1)) q02 (pF q0b 0 (muN q02 1)) q01 (pF q0c 0 (muN q01 1)) q03 (pF q0j 0 (muN q03 3)) q0o q11 q10) 1)) (z3i q00 (pF q08 0 (muN q00 1)) q02 (pF q0b 0 (muN q02 1)) q01 (pF q0c 0 (muN q01 1)) q03 (pF q0j 0 (muN q03 3)) q0o q11 q10) (pF (z4l q00 (pF q08 0 (muN q00 1)) q02 (pF q0b 0 (muN q02 1)) q01 (pF q0c 0 (muN q01 1)) q03 (pF q0j 0 (muN q03 3)) q0o q11 q10) 0 (muN (z3i q00 (pF q08 0 (muN q00 1)) q02 (pF q0b 0 (muN q02 1)) q01 (pF q0c 0 (muN q01 1)) q03 (pF q0j 0 (muN q03 3)) q0o q11 q10) 3)) q0o q11 q10 aI) (grd (z81 q00 (pF q08 0 (muN q00 1)) q02 (pF q0b 0 (muN q02 1)) q01 (pF q0c 0 (muN q01 1)) q03 (pF q0j 0 (muN q03 3)) q0o q11 q10) (grd (zbf (z3g q00 (pF q08 0 (muN q00 1)) q02 (pF q0b 0 (muN q02 1)) q01 (pF q0c 0 (muN q01 1)) q03 (pF q0j 0 (muN q03 3)) q0o q11 q10) (pF (z4j q00 (pF q08 0 (muN q00 1)) q02 (pF q0b 0 (muN q02 1)) q01 (pF q0c 0 (muN q01 1)) q03 (pF q0j 0 (muN q03 3)) q0o q11 q10) 0 (muN (z3g q00 (pF q08 0 (muN q00 1)) q02 (pF q0b 0 (muN q02 1)) q01 (pF q0c 0 (muN q01 1)) q03 (pF q0j 0 (muN q03 3)) q0o q11 q10) 1)) (z3h q00 (pF q08 0 (muN q00 1)) q02 (pF q0b 0 (muN q02 1)) q01 (pF q0c 0 (muN q01 1)) q03 (pF q0j 0 (muN q03 3)) q0o q11 q10) (pF (z4m q00 (pF q08 0 (muN q00 1)) q02 (pF q0b 0 (muN q02 1)) q01 (pF q0c 0 (muN q01 1)) q03 (pF q0j 0 (muN q03 3)) q0o q11 q10) 0 (muN (z3h q00 (pF q08 0 (muN q00 1)) q02 (pF q0b 0 (muN q02 1)) q01 (pF q0c 0 (muN q01 1)) q03 (pF q0j 0 (muN q03 3)) q0o q11 q10) 1)) (z3j q00 (pF q08 0 (muN q00 1)) q02 (pF q0b 0 (muN q02 1)) q01 (pF q0c 0 (muN q01 1)) q03 (pF q0j 0 (muN q03 3)) q0o q11 q10) (pF (z4k q00 (pF q08 0 (muN q00 1)) q02 (pF q0b 0 (muN q02 1)) q01 (pF q0c 0 (muN q01 1)) q03 (pF q0j 0 (muN q03 3)) q0o q11 q10) 0 (muN (z3j q00 (pF q08 0 (muN q00 1)) q02 (pF q0b 0 (muN q02 1)) q01 (pF q0c 0 (muN q01 1)) q03 (pF q0j 0 (muN q03 3)) q0o q11 q10) 1)) (z3i q00 (pF q08 0 (muN q00 1)) q02 (pF q0b 0 (muN q02 1)) q01 (pF q0c 0 (muN q01 1)) q03 (pF q0j 0 (muN q03 3)) q0o q11 q10) (pF (z4l q00 (pF q08 0 (muN q00 1)) q02 (pF q0b 0 (muN q02 1)) q01 (pF q0c 0 (muN q01 1)) q03 (pF q0j 0 (muN q03 3)) q0o q11 q10) 0 (muN (z3i q00 (pF q08 0 (muN q00 1)) q02 (pF q0b 0 (muN q02 1)) q01 (pF q0c 0 (muN q01 1)) q03 (pF q0j 0 (muN q03 3)) q0o q11 q10) 3)) q0o q11 q10 aI) (grd (z5l (fcvV FloatKind.f32 FloatKind.f64 (z8j (z3g q00 (pF q08 0 (muN q00 1)) q02 (pF q0b 0 (muN q02 1)) q01 (pF q0c 0 (muN q01 1)) q03 (pF q0j 0 (muN q03 3)) q0o q11 q10) (pF (z4j q00 (pF q08 0 (muN q00 1)) q02 (pF q0b 0 (muN q02 1)) q01 (pF q0c 0 (muN q01 1)) q03 (pF q0j 0 (muN q03 3)) q0o q11 q10) 0 (muN (z3g q00 (pF q08 0 (muN q00 1)) q02 (pF q0b 0 (muN q02 1)) q01 (pF q0c 0 (muN q01 1)) q03 (pF q0j 0 (muN q03 3)) q0o q11 q10) 1)) (z3h q00 (pF q08 0 (muN q00 1)) q02 (pF q0b 0 (muN q02 1)) q01 (pF q0c 0 (muN q01 1)) q03 (pF q0j 0 (muN q03 3)) q0o q11 q10) (pF (z4m q00 (pF q08 0 (muN q00 1)) q02 (pF q0b 0 (muN q02 1)) q01 (pF q0c 0 (muN q01 1)) q03 (pF q0j 0 (muN q03 3)) q0o q11 q10) 0 (muN (z3h q00 (pF q08 0 (muN q00 1)) q02 (pF q0b 0 (muN q02 1)) q01 (pF q0c 0 (muN q01 1)) q03 (pF q0j 0 (muN q03 3)) q0o q11 q10) 1)) (z3j q00 (pF q08 0 (muN q00 1)) q02 (pF q0b 0 (muN q02 1)) q01 (pF q0c 0 (muN q01 1)) q03 (pF q0j 0 (muN q03 3)) q0o q11 q10) (pF (z4k q00 (pF q08 0 (muN q00 1)) q02 (pF q0b 0 (muN q02 1)) q01 (pF q0c 0 (muN q01 1)) q03 (pF q0j 0 (muN q03 3)) q0o q11 q10) 0 (muN (z3j q00 (pF q08 0 (muN q00 1)) q02 (pF q0b 0 (muN q02 1)) q01 (pF q0c 0 (muN q01 1)) q03 (pF q0j 0 (muN q03 3)) q0o q11 q10) 1)) (z3i q00 (pF q08 0 (muN q00 1)) q02 (pF q0b 0 (muN q02 1)) q01 (pF q0c 0 (muN q01 1)) q03 (pF q0j 0 (muN q03 3)) q0o q11 q10) (pF (z4l q00 (pF q08 0 (muN q00 1)) q02 (pF q0b 0 (muN q02 1)) q01 (pF q0c 0 (muN q01 1)) q03 (pF q0j 0 (muN q03 3)) q0o q11 q10) 0 (muN (z3i q00 (pF q08 0 (muN q00 1)) q02 (pF q0b 0 (muN q02 1)) q01 (pF q0c 0 (muN q01 1)) q03 (pF q0j 0 (muN q03 3)) q0o q11 q10) 3)) q0o q11 q10 aI)) (fcvV FloatKind.f32 FloatKind.f64 (z8i (z3g q00 (pF q08 0 (muN q00 1)) q02 (pF q0b 0 (muN q02 1)) q01 (pF q0c 0 (muN q01 1)) q03 (pF q0j 0 (muN q03 3)) q0o q11 q10) (pF (z4j q00 (pF q08 0 (muN q00 1)) q02 (pF q0b 0 (muN q02 1)) q01 (pF q0c 0 (muN q01 1)) q03 (pF q0j 0 (muN q03 3)) q0o q11 q10) 0 (muN (z3g q00 (pF q08 0 (muN q00 1)) q02 (pF q0b 0 (muN q02 1)) q01 (pF q0c 0 (muN q01 1)) q03 (pF q0j 0 (muN q03 3)) q0o q11 q10) 1)) (z3h q00 (pF q08 0 (muN q00 1)) q02 (pF q0b 0 (muN q02 1)) q01 (pF q0c 0 (muN q01 1)) q03 (pF q0j 0 (muN q03 3)) q0o q11 q10) (pF (z4m q00 (pF q08 0 (muN q00 1)) q02 (pF q0b 0 (muN q02 1)) q01 (pF q0c 0 (muN q01 1)) q03 (pF q0j 0 (muN q03 3)) q0o q11 q10) 0 (muN (z3h q00 (pF q08 0 (muN q00 1)) q02 (pF q0b 0 (muN q02 1)) q01 (pF q0c 0 (muN q01 1)) q03 (pF q0j 0 (muN q03 3)) q0o q11 q10) 1)) (z3j q00 (pF q08 0 (muN q00 1)) q02 (pF q0b 0 (muN q02 1)) q01 (pF q0c 0 (muN q01 1)) q03 (pF q0j 0 (muN q03 3)) q0o q11 q10) (pF (z4k q00 (pF q08 0 (muN q00 1)) q02 (pF q0b 0 (muN q02 1)) q01 (pF q0c 0 (muN q01 1)) q03 (pF q0j 0 (muN q03 3)) q0o q11 q10) 0 (muN (z3j q00 (pF q08 0 (muN q00 1)) q02 (pF q0b 0 (muN q02 1)) q01 (pF q0c 0 (muN q01 1)) q03 (pF q0j 0 (muN q03 3)) q0o q11 q10) 1)) (z3i q00 (pF q08 0 (muN q00 1)) q02 (pF q0b 0 (muN q02 1)) q01 (pF q0c 0 (muN q01 1)) q03 (pF q0j 0 (muN q03 3)) q0o q11 q10) (pF (z4l q00 (pF q08 0 (muN q00 1)) q02 (pF q0b 0 (muN q02 1)) q01 (pF q0c 0 (muN q01 1)) q03 (pF q0j 0 (muN q03 3)) q0o q11 q10) 0 (muN (z3i q00 (pF q08 0 (muN q00 1)) q02 (pF q0b 0 (muN q02 1)) q01 (pF q0c 0 (muN q01 1)) q03 (pF q0j 0 (muN q03 3)) q0o q11 q10) 3)) q0o q11 q10 aI))) (br (bnot (z5h (fcvV FloatKind.f32 FloatKind.f64 (z8j (z3g q00 (pF q08 0 (muN q00 1)) q02 (pF q0b 0 (muN q02 1)) q01 (pF q0c 0 (muN q01 1)) q03 (pF q0j 0 (muN q03 3)) q0o q11 q10) (pF (z4j q00 (pF q08 0 (muN q00 1)) q02 (pF q0b 0 (muN q02 1)) q01 (pF q0c 0 (muN q01 1)) q03 (pF q0j 0 (muN q03 3)) q0o q11 q10) 0 (muN (z3g q00 (pF q08 0 (muN q00 1)) q02 (pF q0b 0 (muN q02 1)) q01 (pF q0c 0 (muN q01 1)) q03 (pF q0j 0 (muN q03 3)) q0o q11 q10) 1)) (z3h q00 (pF q08 0 (muN q00 1)) q02 (pF q0b 0 (muN q02 1)) q01 (pF q0c 0 (muN q01 1)) q03 (pF q0j 0 (muN q03 3)) q0o q11 q10) (pF (z4m q00 (pF q08 0 (muN q00 1)) q02 (pF q0b 0 (muN q02 1)) q01 (pF q0c 0 (muN q01 1)) q03 (pF q0j 0 (muN q03 3)) q0o q11 q10) 0 (muN (z3h q00 (pF q08 0 (muN q00 1)) q02 (pF q0b 0 (muN q02 1)) q01 (pF q0c 0 (muN q01 1)) q03 (pF q0j 0 (muN q03 3)) q0o q11 q10) 1)) (z3j q00 (pF q08 0 (muN q00 1)) q02 (pF q0b 0 (muN q02 1)) q01 (pF q0c 0 (muN q01 1)) q03 (pF q0j 0 (muN q03 3)) q0o q11 q10) (pF (z4k q00 (pF q08 0 (muN q00 1)) q02 (pF q0b 0 (muN q02 1)) q01 (pF q0c 0 (muN q01 1)) q03 (pF q0j 0 (muN q03 3)) q0o q11 q10) 0 (muN (z3j q00 (pF q08 0 (muN q00 1)) q02 (pF q0b 0 (muN q02 1)) q01 (pF q0c 0 (muN q01 1)) q03 (pF q0j 0 (muN q03 3)) q0o q11 q10) 1)) (z3i q00 (pF q08 0 (muN q00 1)) q02 (pF q0b 0 (muN q02 1)) q01 (pF q0c 0 (muN q01 1)) q03 (pF q0j 0 (muN q03 3)) q0o q11 q10) (pF (z4l q00 (pF q08 0 (muN q00 1)) q02 (pF q0b 0 (muN q02 1)) q01 (pF q0c 0 (muN q01 1)) q03 (pF q0j 0 (muN q03 3)) q0o q11 q10) 0 (muN (z3i q00 (pF q08 0 (muN q00 1)) q02 (pF q0b 0 (muN q02 1)) q01 (pF q0c 0 (muN q01 1)) q03 (pF q0j 0 (muN q03 3)) q0o q11 q10) 3)) q0o q11 q10 aI)) (fcvV FloatKind.f32 FloatKind.f64 (z8i (z3g q00 (pF q08 0 (muN q00 1)) q02 (pF q0b 0 (muN q02 1)) q01 (pF q0c 0 (muN q01 1)) q03 (pF q0j 0 (muN q03 3)) q0o q11 q10) (pF (z4j q00 (pF q08 0 (muN q00 1)) q02 (pF q0b 0 (muN q02 1)) q01 (pF q0c 0 (muN q01 1)) q03 (pF q0j 0 (muN q03 3)) q0o q11 q10) 0 (muN (z3g q00 (pF q08 0 (muN q00 1)) q02 (pF q0b 0 (muN q02 1)) q01 (pF q0c 0 (muN q01 1)) q03 (pF q0j 0 (muN q03 3)) q0o q11 q10) 1)) (z3h q00 (pF q08 0 (muN q00 1)) q02 (pF q0b 0 (muN q02 1)) q01 (pF q0c 0 (muN q01 1)) q03 (pF q0j 0 (muN q03 3)) q0o q11 q10) (pF (z4m q00 (pF q08 0 (muN q00 1)) q02 (pF q0b 0 (muN q02 1)) q01 (pF q0c 0 (muN q01 1)) q03 (pF q0j 0 (muN q03 3)) q0o q11 q10) 0 (muN (z3h q00 (pF q08 0 (muN q00 1)) q02 (pF q0b 0 (muN q02 1)) q01 (pF q0c 0 (muN q01 1)) q03 (pF q0j 0 (muN q03 3)) q0o q11 q10) 1)) (z3j q00 (pF q08 0 (muN q00 1)) q02 (pF q0b 0 (muN q02 1)) q01 (pF q0c 0 (muN q01 1)) q03 (pF q0j 0 (muN q03 3)) q0o q11 q10) (pF (z4k q00 (pF q08 0 (muN q00 1)) q02 (pF q0b 0 (muN q02 1)) q01 (pF q0c 0 (muN q01 1)) q03 (pF q0j 0 (muN q03 3)) q0o q11 q10) 0 (muN (z3j q00 (pF q08 0 (muN q00 1)) q02 (pF q0b 0 (muN q02 1)) q01 (pF q0c 0 (muN q01 1)) q03 (pF q0j 0 (muN q03 3)) q0o q11 q10) 1)) (z3i q00 (pF q08 0 (muN q00 1)) q02 (pF q0b 0 (muN q02 1)) q01 (pF q0c 0 (muN q01 1)) q03 (pF q0j 0 (muN q03 3)) q0o q11 q10) (pF (z4l q00 (pF q08 0 (muN q00 1)) q02 (pF q0b 0 (muN q02 1)) q01 (pF q0c 0 (muN q01 1)) q03 (pF q0j 0 (muN q03 3)) q0o q11 q10) 0 (muN (z3i q00 (pF q08 0 (muN q00 1)) q02 (pF q0b 0 (muN q02 1)) q01 (pF q0c 0 (muN q01 1)) q03 (pF q0j 0 (muN q03 3)) q0o q11 q10) 3)) q0o q11 q10 aI)))) (k_ Bool.false) (br (bnot (beqB (zaj (z3g q00 (pF q08 0 (muN q00 1)) q02 (pF q0b 0 (muN q02 1)) q01 (pF q0c 0 (muN q01 1)) q03 (pF q0j 0 (muN q03 3)) q0o q11 q10) (pF (z4j q00 (pF q08 0 (muN q00 1)) q02 (pF q0b 0 (muN q02 1)) q01 (pF q0c 0 (muN q01 1)) q03 (pF q0j 0 (muN q03 3)) q0o q11 q10) 0 (muN (z3g q00 (pF q08 0 (muN q00 1)) q02 (pF q0b 0 (muN q02 1)) q01 (pF q0c 0 (muN q01 1)) q03 (pF q0j 0 (muN q03 3)) q0o q11 q10) 1)) (z3h q00 (pF q08 0 (muN q00 1)) q02 (pF q0b 0 (muN q02 1)) q01 (pF q0c 0 (muN q01 1)) q03 (pF q0j 0 (muN q03 3)) q0o q11 q10) (pF (z4m q00 (pF q08 0 (muN q00 1)) q02 (pF q0b 0 (muN q02 1)) q01 (pF q0c 0 (muN q01 1)) q03 (pF q0j 0 (muN q03 3)) q0o q11 q10) 0 (muN (z3h q00 (pF q08 0 (muN q00 1)) q02 (pF q0b 0 (muN q02 1)) q01 (pF q0c 0 (muN q01 1)) q03 (pF q0j 0 (muN q03 3)) q0o q11 q10) 1)) (z3j q00 (pF q08 0 (muN q00 1)) q02 (pF q0b 0 (muN q02 1)) q01 (pF q0c 0 (muN q01 1)) q03 (pF q0j 0 (muN q03 3)) q0o q11 q10) (pF (z4k q00 (pF q08 0 (muN q00 1)) q02 (pF q0b 0 (muN q02 1)) q01 (pF q0c 0 (muN q01 1)) q03 (pF q0j 0 (muN q03 3)) q0o q11 q10) 0 (muN (z3j q00 (pF q08 0 (muN q00 1)) q02 (pF q0b 0 (muN q02 1)) q01 (pF q0c 0 (muN q01 1)) q03 (pF q0j 0 (muN q03 3)) q0o q11 q10) 1)) (z3i q00 (pF q08 0 (muN q00 1)) q02 (pF q0b 0 (muN q02 1)) q01 (pF q0c 0 (muN q01 1)) q03 (pF q0j 0 (muN q03 3)) q0o q11 q10) (pF (z4l q00 (pF q08 0 (muN q00 1)) q02 (pF q0b 0 (muN q02 1)) q01 (pF q0c 0 (muN q01 1)) q03 (pF q0j 0 (muN q03 3)) q0o q11 q10) 0 (muN (z3i q00 (pF q08 0 (muN q00 1)) q02 (pF q0b 0 (muN q02 1)) q01 (pF q0c 0 (muN q01 1)) q03 (pF q0j 0 (muN q03 3)) q0o q11 q10) 3)) q0o q11 q10 aI) (zal (z3g q00 (pF q08 0 (muN q00 1)) q02 (pF q0b 0 (muN q02 1)) q01 (pF q0c 0 (muN q01 1)) q03 (pF q0j 0 (muN q03 3)) q0o q11 q10) (pF (z4j q00 (pF q08 0 (muN q00 1)) q02 (pF q0b 0 (muN q02 1)) q01 (pF q0c 0 (muN q01 1)) q03 (pF q0j 0 (muN q03 3)) q0o q11 q10) 0 (muN (z3g q00 (pF q08 0 (muN q00 1)) q02 (pF q0b 0 (muN q02 1)) q01 (pF q0c 0 (muN q01 1)) q03 (pF q0j 0 (muN q03 3)) q0o q11 q10) 1)) (z3h q00 (pF q08 0 (muN q00 1)) q02 (pF q0b 0 (muN q02 1)) q01 (pF q0c 0 (muN q01 1)) q03 (pF q0j 0 (muN q03 3)) q0o q11 q10) (pF (z4m q00 (pF q08 0 (muN q00 1)) q02 (pF q0b 0 (muN q02 1)) q01 (pF q0c 0 (muN q01 1)) q03 (pF q0j 0 (muN q03 3)) q0o q11 q10) 0 (muN (z3h q00 (pF q08 0 (muN q00 1)) q02 (pF q0b 0 (muN q02 1)) q01 (pF q0c 0 (muN q01 1)) q03 (pF q0j 0 (muN q03 3)) q0o q11 q10) 1)) (z3j q00 (pF q08 0 (muN q00 1)) q02 (pF q0b 0 (muN q02 1)) q01 (pF q0c 0 (muN q01 1)) q03 (pF q0j 0 (muN q03 3)) q0o q11 q10) (pF (z4k q00 (pF q08 0 (muN q00 1)) q02 (pF q0b 0 (muN q02 1)) q01 (pF q0c 0 (muN q01 1)) q03 (pF q0j 0 (muN q03 3)) q0o q11 q10) 0 (muN (z3j q00 (pF q08 0 (muN q00 1)) q02 (pF q0b 0 (muN q02 1)) q01 (pF q0c 0 (muN q01 1)) q03 (pF q0j 0 (muN q03 3)) q0o q11 q10) 1)) (z3i q00 (pF q08 0 (muN q00 1)) q02 (pF q0b 0 (muN q02 1)) q01 (pF q0c 0 (muN q01 1)) q03 (pF q0j 0 (muN q03 3)) q0o q11 q10) (pF (z4l q00 (pF q08 0 (muN q00 1)) q02 (pF q0b 0 (muN q02 1)) q01 (pF q0c 0 (muN q01 1)) q03 (pF q0j 0 (muN q03 3)) q0o q11 q10) 0 (muN (z3i q00 (pF q08 0 (muN q00 1)) q02 (pF q0b 0 (muN q02 1)) q01 (pF q0c 0 (muN q01 1)) q03 (pF q0j 0 (muN q03 3)) q0o q11 q10) 3)) q0o q11 q10 aI))) (k_ Bool.false) (grd (z81 q00 (pF q08 0 (muN q00 1)) q02 (pF q0b 0 (muN q02 1)) q01 (pF q0c 0 (muN q01 1)) q03 (pF q0j 0 (muN q03 3)) q0o q11 q10) (grd (zbk (z3g q00 (pF q08 0 (muN q00 1)) q02 (pF q0b 0 (muN q02 1)) q01 (pF q0c 0 (muN q01 1)) q03 (pF q0j 0 (muN q03 3)) q0o q11 q10) (pF (z4j q00 (pF q08 0 (muN q00 1)) q02 (pF q0b 0 (muN q02 1)) q01 (pF q0c 0 (muN q01 1)) q03 (pF q0j 0 (muN q03 3)) q0o q11 q10) 0 (muN (z3g q00 (pF q08 0 (muN q00 1)) q02 (pF q0b 0 (muN q02 1)) q01 (pF q0c 0 (muN q01 1)) q03 (pF q0j 0 (muN q03 3)) q0o q11 q10) 1)) (z3h q00 (pF q08 0 (muN q00 1)) q02 (pF q0b 0 (muN q02 1)) q01 (pF q0c 0 (muN q01 1)) q03 (pF q0j 0 (muN q03 3)) q0o q11 q10) (pF (z4m q00 (pF q08 0 (muN q00 1)) q02 (pF q0b 0 (muN q02 1)) q01 (pF q0c 0 (muN q01 1)) q03 (pF q0j 0 (muN q03 3)) q0o q11 q10) 0 (muN (z3h q00 (pF q08 0 (muN q00 1)) q02 (pF q0b 0 (muN q02 1)) q01 (pF q0c 0 (muN q01 1)) q03 (pF q0j 0 (muN q03 3)) q0o q11 q10) 1)) (z3j q00 (pF q08 0 (muN q00 1)) q02 (pF q0b 0 (muN q02 1)) q01 (pF q0c 0 (muN q01 1)) q03 (pF q0j 0 (muN q03 3)) q0o q11 q10) (pF (z4k q00 (pF q08 0 (muN q00 1)) q02 (pF q0b 0 (muN q02 1)) q01 (pF q0c 0 (muN q01 1)) q03 (pF q0j 0 (muN q03 3)) q0o q11 q10) 0 (muN (z3j q00 (pF q08 0 (muN q00 1)) q02 (pF q0b 0 (muN q02 1)) q01 (pF q0c 0 (muN q01 1)) q03 (pF q0j 0 (muN q03 3)) q0o q11 q10) 1)) (z3i q00 (pF q08 0 (muN q00 1)) q02 (pF q0b 0 (muN q02 1)) q01 (pF q0c 0 (muN q01 1)) q03 (pF q0j 0 (muN q03 3)) q0o q11 q10) (pF (z4l q00 (pF q08 0 (muN q00 1)) q02 (pF q0b 0 (muN q02 1)) q01 (pF q0c 0 (muN q01 1)) q03 (pF q0j 0 (muN q03 3)) q0o q11 q10) 0 (muN (z3i q00 (pF q08 0 (muN q00 1)) q02 (pF q0b 0 (muN q02 1)) q01 (pF q0c 0 (muN q01 1)) q03 (pF q0j 0 (muN q03 3)) q0o q11 q10) 3)) q0o q11 q10 (z3g q00 (pF q08 0 (muN q00 1)) q02 (pF q0b 0 (muN q02 1)) q01 (pF q0c 0 (muN q01 1)) q03 (pF q0j 0 (muN q03 3)) q0o q11 q10) (pF (z4j q00 (pF q08 0 (muN q00 1)) q02 (pF q0b 0 (muN q02 1)) q01 (pF q0c 0 (muN q01 1)) q03 (pF q0j 0 (muN q03 3)) q0o q11 q10) 0 (muN (z3g q00 (pF q08 0 (muN q00 1)) q02 (pF q0b 0 (muN q02 1)) q01 (pF q0c 0 (muN q01 1)) q03 (pF q0j 0 (muN q03 3)) q0o q11 q10) 1)) (z3h q00 (pF q08 0 (muN q00 1)) q02 (pF q0b 0 (muN q02 1)) q01 (pF q0c 0 (muN q01 1)) q03 (pF q0j 0 (muN q03 3)) q0o q11 q10) (pF (z4m q00 (pF q08 0 (muN q00 1)) q02 (pF q0b 0 (muN q02 1)) q01 (pF q0c 0 (muN q01 1)) q03 (pF q0j 0 (muN q03 3)) q0o q11 q10) 0 (muN (z3h q00 (pF q08 0 (muN q00 1)) q02 (pF q0b 0 (muN q02 1)) q01 (pF q0c 0 (muN q01 1)) q03 (pF q0j 0 (muN q03 3)) q0o q11 q10) 1)) (z3j q00 (pF q08 0 (muN q00 1)) q02 (pF q0b 0 (muN q02 1)) q01 (pF q0c 0 (muN q01 1)) q03 (pF q0j 0 (muN q03 3)) q0o q11 q10) (pF (z4k q00 (pF q08 0 (muN q00 1)) q02 (pF q0b 0 (muN q02 1)) q01 (pF q0c 0 (muN q01 1)) q03 (pF q0j 0 (muN q03 3)) q0o q11 q10) 0 (muN (z3j q00 (pF q08 0 (muN q00 1)) q02 (pF q0b 0 (muN q02 1)) q01 (pF q0c 0 (muN q01 1)) q03 (pF q0j 0 (muN q03 3)) q0o q11 q10) 1)) (z3i q00 (pF q08 0 (muN q00 1)) q02 (pF q0b 0 (muN q02 1)) q01 (pF q0c 0 (muN q01 1)) q03 (pF q0j 0 (muN q03 3)) q0o q11 q10) (pF (z4l q00 (pF q08 0 (muN q00 1)) q02 (pF q0b 0 (muN q02 1)) q01 (pF q0c 0 (muN q01 1)) q03 (pF q0j 0 (muN q03 3)) q0o q11 q10) 0 (muN (z3i q00 (pF q08 0 (muN q00 1)) q02 (pF q0b 0 (muN q02 1)) q01 (pF q0c 0 (muN q01 1)) q03 (pF q0j 0 (muN q03 3)) q0o q11 q10) 3)) q0o q11 q10) (br (bnot (zac (z3g q00 (pF q08 0 (muN q00 1)) q02 (pF q0b 0 (muN q02 1)) q01 (pF q0c 0 (muN q01 1)) q03 (pF q0j 0 (muN q03 3)) q0o q11 q10) (pF (z4j q00 (pF q08 0 (muN q00 1)) q02 (pF q0b 0 (muN q02 1)) q01 (pF q0c 0 (muN q01 1)) q03 (pF q0j 0 (muN q03 3)) q0o q11 q10) 0 (muN (z3g q00 (pF q08 0 (muN q00 1)) q02 (pF q0b 0 (muN q02 1)) q01 (pF q0c 0 (muN q01 1)) q03 (pF q0j 0 (muN q03 3)) q0o q11 q10) 1)) (z3h q00 (pF q08 0 (muN q00 1)) q02 (pF q0b 0 (muN q02 1)) q01 (pF q0c 0 (muN q01 1)) q03 (pF q0j 0 (muN q03 3)) q0o q11 q10) (pF (z4m q00 (pF q08 0 (muN q00 1)) q02 (pF q0b 0 (muN q02 1)) q01 (pF q0c 0 (muN q01 1)) q03 (pF q0j 0 (muN q03 3)) q0o q11 q10) 0 (muN (z3h q00 (pF q08 0 (muN q00 1)) q02 (pF q0b 0 (muN q02 1)) q01 (pF q0c 0 (muN q01 1)) q03 (pF q0j 0 (muN q03 3)) q0o q11 q10) 1)) (z3j q00 (pF q08 0 (muN q00 1)) q02 (pF q0b 0 (muN q02 1)) q01 (pF q0c 0 (muN q01 1)) q03 (pF q0j 0 (muN q03 3)) q0o q11 q10) (pF (z4k q00 (pF q08 0 (muN q00 1)) q02 (pF q0b 0 (muN q02 1)) q01 (pF q0c 0 (muN q01 1)) q03 (pF q0j 0 (muN q03 3)) q0o q11 q10) 0 (muN (z3j q00 (pF q08 0 (muN q00 1)) q02 (pF q0b 0 (muN q02 1)) q01 (pF q0c 0 (muN q01 1)) q03 (pF q0j 0 (muN q03 3)) q0o q11 q10) 1)) (z3i q00 (pF q08 0 (muN q00 1)) q02 (pF q0b 0 (muN q02 1)) q01 (pF q0c 0 (muN q01 1)) q03 (pF q0j 0 (muN q03 3)) q0o q11 q10) (pF (z4l q00 (pF q08 0 (muN q00 1)) q02 (pF q0b 0 (muN q02 1)) q01 (pF q0c 0 (muN q01 1)) q03 (pF q0j 0 (muN q03 3)) q0o q11 q10) 0 (muN (z3i q00 (pF q08 0 (muN q00 1)) q02 (pF q0b 0 (muN q02 1)) q01 (pF q0c 0 (muN q01 1)) q03 (pF q0j 0 (muN q03 3)) q0o q11 q10) 3)) q0o q11 q10 (z3g q00 (pF q08 0 (muN q00 1)) q02 (pF q0b 0 (muN q02 1)) q01 (pF q0c 0 (muN q01 1)) q03 (pF q0j 0 (muN q03 3)) q0o q11 q10) (pF (z4j q00 (pF q08 0 (muN q00 1)) q02 (pF q0b 0 (muN q02 1)) q01 (pF q0c 0 (muN q01 1)) q03 (pF q0j 0 (muN q03 3)) q0o q11 q10) 0 (muN (z3g q00 (pF q08 0 (muN q00 1)) q02 (pF q0b 0 (muN q02 1)) q01 (pF q0c 0 (muN q01 1)) q03 (pF q0j 0 (muN q03 3)) q0o q11 q10) 1)) (z3h q00 (pF q08 0 (muN q00 1)) q02 (pF q0b 0 (muN q02 1)) q01 (pF q0c 0 (muN q01 1)) q03 (pF q0j 0 (muN q03 3)) q0o q11 q10) (pF (z4m q00 (pF q08 0 (muN q00 1)) q02 (pF q0b 0 (muN q02 1)) q01 (pF q0c 0 (muN q01 1)) q03 (pF q0j 0 (muN q03 3)) q0o q11 q10) 0 (muN (z3h q00 (pF q08 0 (muN q00 1)) q02 (pF q0b 0 (muN q02 1)) q01 (pF q0c 0 (muN q01 1)) q03 (pF q0j 0 (muN q03 3)) q0o q11 q10) 1)) (z3j q00 (pF q08 0 (muN q00 1)) q02 (pF q0b 0 (muN q02 1)) q01 (pF q0c 0 (muN q01 1)) q03 (pF q0j 0 (muN q03 3)) q0o q11 q10) (pF (z4k q00 (pF q08 0 (muN q00 1)) q02 (pF q0b 0 (muN q02 1)) q01 (pF q0c 0 (muN q01 1)) q03 (pF q0j 0 (muN q03 3)) q0o q11 q10) 0 (muN (z3j q00 (pF q08 0 (muN q00 1)) q02 (pF q0b 0 (muN q02 1)) q01 (pF q0c 0 (muN q01 1)) q03 (pF q0j 0 (muN q03 3)) q0o q11 q10) 1)) (z3i q00 (pF q08 0 (muN q00 1)) q02 (pF q0b 0 (muN q02 1)) q01 (pF q0c 0 (muN q01 1)) q03 (pF q0j 0 (muN q03 3)) q0o q11 q10) (pF (z4l q00 (pF q08 0 (muN q00 1)) q02 (pF q0b 0 (muN q02 1)) q01 (pF q0c 0 (muN q01 1)) q03 (pF q0j 0 (muN q03 3)) q0o q11 q10) 0 (muN (z3i q00 (pF q08 0 (muN q00 1)) q02 (pF q0b 0 (muN q02 1)) q01 (pF q0c 0 (muN q01 1)) q03 (pF q0j 0 (muN q03 3)) q0o q11 q10) 3)) q0o q11 q10)) (k_ Bool.false) (k_ Bool.true)))))))))))))
noncomputable def z5q (q00 : Nat) (q08 : List Nat) (q02 : Nat) (q0b : List Nat) (q01 : Nat) (q0c : List Nat) (q03 : Nat) (q0j : List Nat) (q0o : Int) (q11 : Nat) (q10 : Nat) (aI : Int) : Option (Bool) := z5s q00 q08 q02 q0b q01 q0c q03 q0j q0o q11 q10 aI (fun c0_ => some c0_)
theorem zdf {R R' : Type} (o : Option R → Option R') (h0 : o none = none) (q00 : Nat) (q08 : List Nat) (q02 : Nat) (q0b : List Nat) (q01 : Nat) (q0c : List Nat) (q03 : Nat) (q0j : List Nat) (q0o : Int) (q11 : Nat) (q10 : Nat) (aI : Int) (k_ : Bool → Option R) : z5s q00 q08 q02 q0b q01 q0c q03 q0j q0o q11 q10 aI (fun c0_ => o (k_ c0_)) = o (z5s q00 q08 q02 q0b q01 q0c q03 q0j q0o q11 q10 aI k_) := by
  unfold z5s
  repeat (first | refine grd_out h0 ?_ | refine br_out ?_ ?_ | rfl | exact h0.symm)
noncomputable def z9c (q00 : Nat) (q08 : List Nat) (q02 : Nat) (q0b : List Nat) (q01 : Nat) (q0c : List Nat) (q03 : Nat) (q0j : List Nat) (q0o : Int) (q11 : Nat) (q10 : Nat) (aI : Int) : Bool := (z5q q00 q08 q02 q0b q01 q0c q03 q0j q0o q11 q10 aI).isSome
noncomputable def z8x (q00 : Nat) (q08 : List Nat) (q02 : Nat) (q0b : List Nat) (q01 : Nat) (q0c : List Nat) (q03 : Nat) (q0j : List Nat) (q0o : Int) (q11 : Nat) (q10 : Nat) (aI : Int) : Bool := ((z5q q00 q08 q02 q0b q01 q0c q03 q0j q0o q11 q10 aI).getD default)
theorem zdw {q00 : Nat} {q08 : List Nat} {q02 : Nat} {q0b : List Nat} {q01 : Nat} {q0c : List Nat} {q03 : Nat} {q0j : List Nat} {q0o : Int} {q11 : Nat} {q10 : Nat} {aI : Int} {r : Bool} (h : z5q q00 q08 q02 q0b q01 q0c q03 q0j q0o q11 q10 aI = some r) : z9c q00 q08 q02 q0b q01 q0c q03 q0j q0o q11 q10 aI = true ∧ z8x q00 q08 q02 q0b q01 q0c q03 q0j q0o q11 q10 aI = r := by
  unfold z9c z8x
  rw [h]
  exact ⟨rfl, rfl⟩
end Go.Rf
