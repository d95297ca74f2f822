import Derived.Test.YtdhmognknjpemaaB
set_option linter.unusedVariables false
set_option linter.unusedSimpArgs false
set_option maxRecDepth 100000
set_option maxHeartbeats 4000000
namespace Go.Rf
open Go
noncomputable def zhy {R : Type} (x : Nat) (k_ : Bool → Option R) : Option R := (k_ (fcmp .eql .f32 (fop .sub .f32 x x) 0))
noncomputable def zgu (x : Nat) : Option (Bool) := zhy x (fun c0_ => some c0_)
theorem y19 {R R' : Type} (o : Option R → Option R') (h0 : o none = none) (x : Nat) (k_ : Bool → Option R) : zhy x (fun c0_ => o (k_ c0_)) = o (zhy x k_) := by
  unfold zhy
  repeat (first | refine z0k h0 ?_ | refine z0r ?_ ?_ | rfl | exact h0.symm)
noncomputable def z4m (x : Nat) : Bool := (zgu x).isSome
noncomputable def z46 (x : Nat) : Bool := ((zgu x).getD default)
theorem z7n {x : Nat} {r : Bool} (h : zgu x = some r) : z4m x = true ∧ z46 x = r := by
  unfold z4m z46
  rw [h]
  exact ⟨rfl, rfl⟩
noncomputable def zen {R : Type} (q0i : Nat) (q0o : List Int) (q3m : Nat) (q3w : List Int) (k_ : Bool → Option R) : Option R := (br (ltI 1048576 (Int.ofNat q0i)) (k_ Bool.true) (k_ (ltI 1048576 (Int.ofNat q3m))))
noncomputable def zeg (q0i : Nat) (q0o : List Int) (q3m : Nat) (q3w : List Int) : Option (Bool) := zen q0i q0o q3m q3w (fun c0_ => some c0_)
theorem y24 {R R' : Type} (o : Option R → Option R') (h0 : o none = none) (q0i : Nat) (q0o : List Int) (q3m : Nat) (q3w : List Int) (k_ : Bool → Option R) : zen q0i q0o q3m q3w (fun c0_ => o (k_ c0_)) = o (zen q0i q0o q3m q3w k_) := by
  unfold zen
  repeat (first | refine z0k h0 ?_ | refine z0r ?_ ?_ | rfl | exact h0.symm)
noncomputable def zn9 (q0i : Nat) (q0o : List Int) (q3m : Nat) (q3w : List Int) : Bool := (zeg q0i q0o q3m q3w).isSome
noncomputable def zm3 (q0i : Nat) (q0o : List Int) (q3m : Nat) (q3w : List Int) : Bool := ((zeg q0i q0o q3m q3w).getD default)
theorem y5m {q0i : Nat} {q0o : List Int} {q3m : Nat} {q3w : List Int} {r : Bool} (h : zeg q0i q0o q3m q3w = some r) : zn9 q0i q0o q3m q3w = true ∧ zm3 q0i q0o q3m q3w = r := by
  unfold zn9 zm3
  rw [h]
  exact ⟨rfl, rfl⟩
noncomputable def zka {R : Type} (q0i : Nat) (q0o : List Int) (i : Int) (n_ : Int) (k_ : Int → Option R) : Option R := (br (leI n_ 1) (k_ 0) (br (ltI i (Int.ofNat q0i)) (grd (okIx i q0i) (grd (okNz n_) (k_ (remI (cvI .i64 (gI q0o (ixO 0 i 1))) n_)))) (grd (okNz n_) (k_ (remI (addI .i64 (mulI .i64 i 37) 11) n_)))))
noncomputable def zjy (q0i : Nat) (q0o : List Int) (i : Int) (n_ : Int) : Option (Int) := zka q0i q0o i n_ (fun c0_ => some c0_)
theorem y4n {R R' : Type} (o : Option R → Option R') (h0 : o none = none) (q0i : Nat) (q0o : List Int) (i : Int) (n_ : Int) (k_ : Int → Option R) : zka q0i q0o i n_ (fun c0_ => o (k_ c0_)) = o (zka q0i q0o i n_ k_) := by
  unfold zka
  repeat (first | refine z0k h0 ?_ | refine z0r ?_ ?_ | rfl | exact h0.symm)
noncomputable def zk5 (q0i : Nat) (q0o : List Int) (i : Int) (n_ : Int) : Bool := (zjy q0i q0o i n_).isSome
noncomputable def zgf (q0i : Nat) (q0o : List Int) (i : Int) (n_ : Int) : Int := ((zjy q0i q0o i n_).getD default)
theorem y8v {q0i : Nat} {q0o : List Int} {i : Int} {n_ : Int} {r : Int} (h : zjy q0i q0o i n_ = some r) : zk5 q0i q0o i n_ = true ∧ zgf q0i q0o i n_ = r := by
  unfold zk5 zgf
  rw [h]
  exact ⟨rfl, rfl⟩
noncomputable def zg8 {R : Type} (a : Nat) (b : Nat) (k_ : Nat → Option R) : Option R := (br (fcmp .lss .f64 a b) (k_ (fop .sub .f64 b a)) (k_ (fop .sub .f64 a b)))
noncomputable def zgj (a : Nat) (b : Nat) : Option (Nat) := zg8 a b (fun c0_ => some c0_)
theorem y3h {R R' : Type} (o : Option R → Option R') (h0 : o none = none) (a : Nat) (b : Nat) (k_ : Nat → Option R) : zg8 a b (fun c0_ => o (k_ c0_)) = o (zg8 a b k_) := by
  unfold zg8
  repeat (first | refine z0k h0 ?_ | refine z0r ?_ ?_ | rfl | exact h0.symm)
noncomputable def zg9 (a : Nat) (b : Nat) : Bool := (zgj a b).isSome
noncomputable def ze7 (a : Nat) (b : Nat) : Nat := ((zgj a b).getD default)
theorem y7c {a : Nat} {b : Nat} {r : Nat} (h : zgj a b = some r) : zg9 a b = true ∧ ze7 a b = r := by
  unfold zg9 ze7
  rw [h]
  exact ⟨rfl, rfl⟩
noncomputable def z8k {R : Type} (q00 : Nat) (q04 : List Nat) (q01 : Nat) (q05 : List Nat) (q02 : Nat) (q06 : List Nat) (q07 : Nat) (q09 : List Nat) (q0b : Int) (q0e : Nat) (q0d : Nat) (i : Int) (k_ : Nat → Option R) : Option R := (grd (okIx i q07) (grd (okIx i q07) (k_ (fop .quo .f32 (fop .mul .f32 (fOI .f32 q0b) (gF q09 (Nat.succ (ixO 0 i 3)))) (fop .mul .f32 1086918619 (gF q09 (ixO 0 i 3)))))))
noncomputable def z8j (q00 : Nat) (q04 : List Nat) (q01 : Nat) (q05 : List Nat) (q02 : Nat) (q06 : List Nat) (q07 : Nat) (q09 : List Nat) (q0b : Int) (q0e : Nat) (q0d : Nat) (i : Int) : Option (Nat) := z8k q00 q04 q01 q05 q02 q06 q07 q09 q0b q0e q0d i (fun c0_ => some c0_)
theorem ztv {R R' : Type} (o : Option R → Option R') (h0 : o none = none) (q00 : Nat) (q04 : List Nat) (q01 : Nat) (q05 : List Nat) (q02 : Nat) (q06 : List Nat) (q07 : Nat) (q09 : List Nat) (q0b : Int) (q0e : Nat) (q0d : Nat) (i : Int) (k_ : Nat → Option R) : z8k q00 q04 q01 q05 q02 q06 q07 q09 q0b q0e q0d i (fun c0_ => o (k_ c0_)) = o (z8k q00 q04 q01 q05 q02 q06 q07 q09 q0b q0e q0d i k_) := by
  unfold z8k
  repeat (first | refine z0k h0 ?_ | refine z0r ?_ ?_ | rfl | exact h0.symm)
noncomputable def zd4 (q00 : Nat) (q04 : List Nat) (q01 : Nat) (q05 : List Nat) (q02 : Nat) (q06 : List Nat) (q07 : Nat) (q09 : List Nat) (q0b : Int) (q0e : Nat) (q0d : Nat) (i : Int) : Bool := (z8j q00 q04 q01 q05 q02 q06 q07 q09 q0b q0e q0d i).isSome
noncomputable def z7t (q00 : Nat) (q04 : List Nat) (q01 : Nat) (q05 : List Nat) (q02 : Nat) (q06 : List Nat) (q07 : Nat) (q09 : List Nat) (q0b : Int) (q0e : Nat) (q0d : Nat) (i : Int) : Nat := ((z8j q00 q04 q01 q05 q02 q06 q07 q09 q0b q0e q0d i).getD default)
theorem zw8 {q00 : Nat} {q04 : List Nat} {q01 : Nat} {q05 : List Nat} {q02 : Nat} {q06 : List Nat} {q07 : Nat} {q09 : List Nat} {q0b : Int} {q0e : Nat} {q0d : Nat} {i : Int} {r : Nat} (h : z8j q00 q04 q01 q05 q02 q06 q07 q09 q0b q0e q0d i = some r) : zd4 q00 q04 q01 q05 q02 q06 q07 q09 q0b q0e q0d i = true ∧ z7t q00 q04 q01 q05 q02 q06 q07 q09 q0b q0e q0d i = r := by
  unfold zd4 z7t
  rw [h]
  exact ⟨rfl, rfl⟩
noncomputable def zgi {R : Type} (n_ : Int) (low : Int) (q35 : Int) (k_ : Bool → Option R) : Option R := (br (leI low n_) (k_ (leI n_ q35)) (k_ Bool.false))
noncomputable def zgd (n_ : Int) (low : Int) (q35 : Int) : Option (Bool) := zgi n_ low q35 (fun c0_ => some c0_)
theorem y38 {R R' : Type} (o : Option R → Option R') (h0 : o none = none) (n_ : Int) (low : Int) (q35 : Int) (k_ : Bool → Option R) : zgi n_ low q35 (fun c0_ => o (k_ c0_)) = o (zgi n_ low q35 k_) := by
  unfold zgi
  repeat (first | refine z0k h0 ?_ | refine z0r ?_ ?_ | rfl | exact h0.symm)
noncomputable def zge (n_ : Int) (low : Int) (q35 : Int) : Bool := (zgd n_ low q35).isSome
noncomputable def zei (n_ : Int) (low : Int) (q35 : Int) : Bool := ((zgd n_ low q35).getD default)
theorem zrg {n_ : Int} {low : Int} {q35 : Int} {r : Bool} (h : zgd n_ low q35 = some r) : zge n_ low q35 = true ∧ zei n_ low q35 = r := by
  unfold zge zei
  rw [h]
  exact ⟨rfl, rfl⟩
noncomputable def zni {R : Type}  (k_ : Nat → Option R) : Option R := (grd (okU .f64 9221120237041090561) (k_ (cnI .f64 9221120237041090561)))
noncomputable def zng  : Option (Nat) := zni (fun c0_ => some c0_)
theorem y7o {R R' : Type} (o : Option R → Option R') (h0 : o none = none)  (k_ : Nat → Option R) : zni (fun c0_ => o (k_ c0_)) = o (zni k_) := by
  unfold zni
  repeat (first | refine z0k h0 ?_ | refine z0r ?_ ?_ | rfl | exact h0.symm)
noncomputable def zpy  : Bool := (zng).isSome
noncomputable def zlk  : Nat := ((zng).getD default)
theorem y4d  {r : Nat} (h : zng = some r) : zpy = true ∧ zlk = r := by
  unfold zpy zlk
  rw [h]
  exact ⟨rfl, rfl⟩
noncomputable def zcu {R : Type} (x : Nat) (low : Nat) (q35 : Nat) (k_ : Bool → Option R) : Option R := (br (fcmp .geq .f32 x low) (k_ (fcmp .leq .f32 x q35)) (k_ Bool.false))
noncomputable def zco (x : Nat) (low : Nat) (q35 : Nat) : Option (Bool) := zcu x low q35 (fun c0_ => some c0_)
theorem y0m {R R' : Type} (o : Option R → Option R') (h0 : o none = none) (x : Nat) (low : Nat) (q35 : Nat) (k_ : Bool → Option R) : zcu x low q35 (fun c0_ => o (k_ c0_)) = o (zcu x low q35 k_) := by
  unfold zcu
  repeat (first | refine z0k h0 ?_ | refine z0r ?_ ?_ | rfl | exact h0.symm)
noncomputable def zic (x : Nat) (low : Nat) (q35 : Nat) : Bool := (zco x low q35).isSome
noncomputable def zer (x : Nat) (low : Nat) (q35 : Nat) : Bool := ((zco x low q35).getD default)
theorem zus {x : Nat} {low : Nat} {q35 : Nat} {r : Bool} (h : zco x low q35 = some r) : zic x low q35 = true ∧ zer x low q35 = r := by
  unfold zic zer
  rw [h]
  exact ⟨rfl, rfl⟩
noncomputable def zmx {R : Type} (a : Nat) (b : Nat) (q3v : Nat) (k_ : Nat → Option R) : Option R := (k_ (fop .add .f32 a (fop .mul .f32 q3v (fop .sub .f32 b a))))
noncomputable def zmc (a : Nat) (b : Nat) (q3v : Nat) : Option (Nat) := zmx a b q3v (fun c0_ => some c0_)
theorem y4t {R R' : Type} (o : Option R → Option R') (h0 : o none = none) (a : Nat) (b : Nat) (q3v : Nat) (k_ : Nat → Option R) : zmx a b q3v (fun c0_ => o (k_ c0_)) = o (zmx a b q3v k_) := by
  unfold zmx
  repeat (first | refine z0k h0 ?_ | refine z0r ?_ ?_ | rfl | exact h0.symm)
noncomputable def zmh (a : Nat) (b : Nat) (q3v : Nat) : Bool := (zmc a b q3v).isSome
noncomputable def zlc (a : Nat) (b : Nat) (q3v : Nat) : Nat := ((zmc a b q3v).getD default)
theorem y93 {a : Nat} {b : Nat} {q3v : Nat} {r : Nat} (h : zmc a b q3v = some r) : zmh a b q3v = true ∧ zlc a b q3v = r := by
  unfold zmh zlc
  rw [h]
  exact ⟨rfl, rfl⟩
noncomputable def zlf {R : Type}  (k_ : (List Nat) → (List Nat) → (List Nat) → Option R) : Option R := (k_ [] [] [])
noncomputable def zbe  : Option ((List Nat) × (List Nat) × (List Nat)) := zlf (fun c0_ c1_ c2_ => some (c0_, c1_, c2_))
theorem y42 {R R' : Type} (o : Option R → Option R') (h0 : o none = none)  (k_ : (List Nat) → (List Nat) → (List Nat) → Option R) : zlf (fun c0_ c1_ c2_ => o (k_ c0_ c1_ c2_)) = o (zlf k_) := by
  unfold zlf
  repeat (first | refine z0k h0 ?_ | refine z0r ?_ ?_ | rfl | exact h0.symm)
noncomputable def zlg  : Bool := (zbe).isSome
noncomputable def z2y  : List Nat := ((zbe).getD default).1
noncomputable def z30  : List Nat := ((zbe).getD default).2.1
noncomputable def z2z  : List Nat := ((zbe).getD default).2.2
theorem zyb  {r : (List Nat) × (List Nat) × (List Nat)} (h : zbe = some r) : zlg = true ∧ z2y = r.1 ∧ z30 = r.2.1 ∧ z2z = r.2.2 := by
  unfold zlg z2y z30 z2z
  rw [h]
  exact ⟨rfl, rfl, rfl, rfl⟩
noncomputable def z2s {R : Type} (s_n : Nat) (s : List Nat) (k_ : Nat → (List Nat) → Option R) : Option R := (unk (okZ s_n) (k_ 0 []) (grd (okA2 0 s_n 12 (nF (pF s 0 (muN s_n 3))) (nF []) 3) (k_ (adN 0 s_n) (aF [] (pF s 0 (muN s_n 3))))))
noncomputable def z1u (s_n : Nat) (s : List Nat) : Option (Nat × (List Nat)) := z2s s_n s (fun c0_ c1_ => some (c0_, c1_))
theorem zha {R R' : Type} (o : Option R → Option R') (h0 : o none = none) (hi : ∀ a b, o a = o b → a = b) (s_n : Nat) (s : List Nat) (k_ : Nat → (List Nat) → Option R) : z2s s_n s (fun c0_ c1_ => o (k_ c0_ c1_)) = o (z2s s_n s k_) := by
  unfold z2s
  repeat (first | refine ybt h0 hi ?_ ?_ | refine z0k h0 ?_ | refine z0r ?_ ?_ | rfl | exact h0.symm)
noncomputable def z4x (s_n : Nat) (s : List Nat) : Bool := (z1u s_n s).isSome
noncomputable def z4n (s_n : Nat) (s : List Nat) : Nat := ((z1u s_n s).getD default).1
noncomputable def z4o (s_n : Nat) (s : List Nat) : List Nat := ((z1u s_n s).getD default).2
theorem zk8 {s_n : Nat} {s : List Nat} {r : Nat × (List Nat)} (h : z1u s_n s = some r) : z4x s_n s = true ∧ z4n s_n s = r.1 ∧ z4o s_n s = r.2 := by
  unfold z4x z4n z4o
  rw [h]
  exact ⟨rfl, rfl, rfl⟩
noncomputable def zee {R : Type} (x : Nat) (k_ : Int → Option R) : Option R := (br (fcmp .neq .f32 x x) (k_ 2143289344) (grd (bnot (nanQ .f32 x)) (k_ (cvI .i64 (Int.ofNat x)))))
noncomputable def zeb (x : Nat) : Option (Int) := zee x (fun c0_ => some c0_)
theorem y25 {R R' : Type} (o : Option R → Option R') (h0 : o none = none) (x : Nat) (k_ : Int → Option R) : zee x (fun c0_ => o (k_ c0_)) = o (zee x k_) := by
  unfold zee
  repeat (first | refine z0k h0 ?_ | refine z0r ?_ ?_ | rfl | exact h0.symm)
noncomputable def zk4 (x : Nat) : Bool := (zeb x).isSome
noncomputable def zi4 (x : Nat) : Int := ((zeb x).getD default)
theorem zvo {x : Nat} {r : Int} (h : zeb x = some r) : zk4 x = true ∧ zi4 x = r := by
  unfold zk4 zi4
  rw [h]
  exact ⟨rfl, rfl⟩
noncomputable def z79 {R : Type} (s_n : Nat) (s : List Nat) (k_ : Nat → (List Nat) → Option R) : Option R := (unk (okZ s_n) (k_ 0 []) (grd (okA2 0 s_n 4 (nF (pF s 0 (muN s_n 1))) (nF []) 1) (k_ (adN 0 s_n) (aF [] (pF s 0 (muN s_n 1))))))
noncomputable def z5v (s_n : Nat) (s : List Nat) : Option (Nat × (List Nat)) := z79 s_n s (fun c0_ c1_ => some (c0_, c1_))
theorem zs5 {R R' : Type} (o : Option R → Option R') (h0 : o none = none) (hi : ∀ a b, o a = o b → a = b) (s_n : Nat) (s : List Nat) (k_ : Nat → (List Nat) → Option R) : z79 s_n s (fun c0_ c1_ => o (k_ c0_ c1_)) = o (z79 s_n s k_) := by
  unfold z79
  repeat (first | refine ybt h0 hi ?_ ?_ | refine z0k h0 ?_ | refine z0r ?_ ?_ | rfl | exact h0.symm)
noncomputable def z7b (s_n : Nat) (s : List Nat) : Bool := (z5v s_n s).isSome
noncomputable def z6w (s_n : Nat) (s : List Nat) : Nat := ((z5v s_n s).getD default).1
noncomputable def z6y (s_n : Nat) (s : List Nat) : List Nat := ((z5v s_n s).getD default).2
theorem zf4 {s_n : Nat} {s : List Nat} {r : Nat × (List Nat)} (h : z5v s_n s = some r) : z7b s_n s = true ∧ z6w s_n s = r.1 ∧ z6y s_n s = r.2 := by
  unfold z7b z6w z6y
  rw [h]
  exact ⟨rfl, rfl, rfl⟩
noncomputable def zem {R : Type} (x : Nat) (k_ : Bool → Option R) : Option R := (grd (bnot (nanQ .f64 x)) (k_ (ltI (cvI .i64 (Int.ofNat x)) 0)))
noncomputable def ze8 (x : Nat) : Option (Bool) := zem x (fun c0_ => some c0_)
theorem y1p {R R' : Type} (o : Option R → Option R') (h0 : o none = none) (x : Nat) (k_ : Bool → Option R) : zem x (fun c0_ => o (k_ c0_)) = o (zem x k_) := by
  unfold zem
  repeat (first | refine z0k h0 ?_ | refine z0r ?_ ?_ | rfl | exact h0.symm)
noncomputable def zkk (x : Nat) : Bool := (ze8 x).isSome
noncomputable def zhe (x : Nat) : Bool := ((ze8 x).getD default)
theorem zw4 {x : Nat} {r : Bool} (h : ze8 x = some r) : zkk x = true ∧ zhe x = r := by
  unfold zkk zhe
  rw [h]
  exact ⟨rfl, rfl⟩
noncomputable def zn3 {R : Type} (x : Nat) (k_ : Nat → Option R) : Option R := (grd (bnot (nanQ .f64 x)) (grd (okU .f64 (bitI .andNot .u64 (Int.ofNat x) 9223372036854775808)) (k_ (cnI .f64 (bitI .andNot .u64 (Int.ofNat x) 9223372036854775808)))))
noncomputable def zn2 (x : Nat) : Option (Nat) := zn3 x (fun c0_ => some c0_)
theorem y75 {R R' : Type} (o : Option R → Option R') (h0 : o none = none) (x : Nat) (k_ : Nat → Option R) : zn3 x (fun c0_ => o (k_ c0_)) = o (zn3 x k_) := by
  unfold zn3
  repeat (first | refine z0k h0 ?_ | refine z0r ?_ ?_ | rfl | exact h0.symm)
noncomputable def zto (x : Nat) : Bool := (zn2 x).isSome
noncomputable def zry (x : Nat) : Nat := ((zn2 x).getD default)
theorem ybc {x : Nat} {r : Nat} (h : zn2 x = some r) : zto x = true ∧ zry x = r := by
  unfold zto zry
  rw [h]
  exact ⟨rfl, rfl⟩
noncomputable def zbp {R : Type} (x : Nat) (k_ : Nat → Option R) : Option R := (grd (fcvB .f64 .f32 x) (k_ (fcvV .f64 .f32 x)))
noncomputable def zbv (x : Nat) : Option (Nat) := zbp x (fun c0_ => some c0_)
theorem y05 {R R' : Type} (o : Option R → Option R') (h0 : o none = none) (x : Nat) (k_ : Nat → Option R) : zbp x (fun c0_ => o (k_ c0_)) = o (zbp x k_) := by
  unfold zbp
  repeat (first | refine z0k h0 ?_ | refine z0r ?_ ?_ | rfl | exact h0.symm)
noncomputable def zex (x : Nat) : Bool := (zbv x).isSome
noncomputable def zap (x : Nat) : Nat := ((zbv x).getD default)
theorem zsz {x : Nat} {r : Nat} (h : zbv x = some r) : zex x = true ∧ zap x = r := by
  unfold zex zap
  rw [h]
  exact ⟨rfl, rfl⟩
noncomputable def zed {R : Type} (x : Nat) (k_ : Nat → Bool → Option R) : Option R := (grd (z4m x) (br (bnot (z46 x)) (k_ 0 Bool.false) (k_ x Bool.true)))
noncomputable def zbl (x : Nat) : Option (Nat × Bool) := zed x (fun c0_ c1_ => some (c0_, c1_))
theorem y1q {R R' : Type} (o : Option R → Option R') (h0 : o none = none) (x : Nat) (k_ : Nat → Bool → Option R) : zed x (fun c0_ c1_ => o (k_ c0_ c1_)) = o (zed x k_) := by
  unfold zed
  repeat (first | refine z0k h0 ?_ | refine z0r ?_ ?_ | rfl | exact h0.symm)
noncomputable def zej (x : Nat) : Bool := (zbl x).isSome
noncomputable def zcv (x : Nat) : Nat := ((zbl x).getD default).1
noncomputable def zcx (x : Nat) : Bool := ((zbl x).getD default).2
theorem zqn {x : Nat} {r : Nat × Bool} (h : zbl x = some r) : zej x = true ∧ zcv x = r.1 ∧ zcx x = r.2 := by
  unfold zej zcv zcx
  rw [h]
  exact ⟨rfl, rfl, rfl⟩
noncomputable def z7x {R : Type} (q00 : Nat) (q04 : List Nat) (q01 : Nat) (q05 : List Nat) (q02 : Nat) (q06 : List Nat) (q07 : Nat) (q09 : List Nat) (q0b : Int) (q0e : Nat) (q0d : Nat) (i : Int) (k_ : Bool → Option R) : Option R := (grd (zge i 0 (subI .i64 (Int.ofNat q07) 1)) (k_ (zei i 0 (subI .i64 (Int.ofNat q07) 1))))
noncomputable def z7v (q00 : Nat) (q04 : List Nat) (q01 : Nat) (q05 : List Nat) (q02 : Nat) (q06 : List Nat) (q07 : Nat) (q09 : List Nat) (q0b : Int) (q0e : Nat) (q0d : Nat) (i : Int) : Option (Bool) := z7x q00 q04 q01 q05 q02 q06 q07 q09 q0b q0e q0d i (fun c0_ => some c0_)
theorem zsl {R R' : Type} (o : Option R → Option R') (h0 : o none = none) (q00 : Nat) (q04 : List Nat) (q01 : Nat) (q05 : List Nat) (q02 : Nat) (q06 : List Nat) (q07 : Nat) (q09 : List Nat) (q0b : Int) (q0e : Nat) (q0d : Nat) (i : Int) (k_ : Bool → Option R) : z7x q00 q04 q01 q05 q02 q06 q07 q09 q0b q0e q0d i (fun c0_ => o (k_ c0_)) = o (z7x q00 q04 q01 q05 q02 q06 q07 q09 q0b q0e q0d i k_) := by
  unfold z7x
  repeat (first | refine z0k h0 ?_ | refine z0r ?_ ?_ | rfl | exact h0.symm)
noncomputable def z69 (q00 : Nat) (q04 : List Nat) (q01 : Nat) (q05 : List Nat) (q02 : Nat) (q06 : List Nat) (q07 : Nat) (q09 : List Nat) (q0b : Int) (q0e : Nat) (q0d : Nat) (i : Int) : Bool := (z7v q00 q04 q01 q05 q02 q06 q07 q09 q0b q0e q0d i).isSome
noncomputable def z5s (q00 : Nat) (q04 : List Nat) (q01 : Nat) (q05 : List Nat) (q02 : Nat) (q06 : List Nat) (q07 : Nat) (q09 : List Nat) (q0b : Int) (q0e : Nat) (q0d : Nat) (i : Int) : Bool := ((z7v q00 q04 q01 q05 q02 q06 q07 q09 q0b q0e q0d i).getD default)
theorem zbh {q00 : Nat} {q04 : List Nat} {q01 : Nat} {q05 : List Nat} {q02 : Nat} {q06 : List Nat} {q07 : Nat} {q09 : List Nat} {q0b : Int} {q0e : Nat} {q0d : Nat} {i : Int} {r : Bool} (h : z7v q00 q04 q01 q05 q02 q06 q07 q09 q0b q0e q0d i = some r) : z69 q00 q04 q01 q05 q02 q06 q07 q09 q0b q0e q0d i = true ∧ z5s q00 q04 q01 q05 q02 q06 q07 q09 q0b q0e q0d i = r := by
  unfold z69 z5s
  rw [h]
  exact ⟨rfl, rfl⟩
noncomputable def zgc {R : Type} (q11 : Nat) (k_ : Bool → Option R) : Option R := (grd (zic q11 981668463 1048508891) (k_ (zer q11 981668463 1048508891)))
noncomputable def zgb (q11 : Nat) : Option (Bool) := zgc q11 (fun c0_ => some c0_)
theorem y36 {R R' : Type} (o : Option R → Option R') (h0 : o none = none) (q11 : Nat) (k_ : Bool → Option R) : zgc q11 (fun c0_ => o (k_ c0_)) = o (zgc q11 k_) := by
  unfold zgc
  repeat (first | refine z0k h0 ?_ | refine z0r ?_ ?_ | rfl | exact h0.symm)
noncomputable def zlj (q11 : Nat) : Bool := (zgb q11).isSome
noncomputable def zki (q11 : Nat) : Bool := ((zgb q11).getD default)
theorem zxc {q11 : Nat} {r : Bool} (h : zgb q11 = some r) : zlj q11 = true ∧ zki q11 = r := by
  unfold zlj zki
  rw [h]
  exact ⟨rfl, rfl⟩
noncomputable def zef {R : Type} (x : Nat) (k_ : Bool → Option R) : Option R := (grd (z4m x) (br (z46 x) (k_ (fcmp .geq .f32 x 0)) (k_ Bool.false)))
noncomputable def zea (x : Nat) : Option (Bool) := zef x (fun c0_ => some c0_)
theorem y21 {R R' : Type} (o : Option R → Option R') (h0 : o none = none) (x : Nat) (k_ : Bool → Option R) : zef x (fun c0_ => o (k_ c0_)) = o (zef x k_) := by
  unfold zef
  repeat (first | refine z0k h0 ?_ | refine z0r ?_ ?_ | rfl | exact h0.symm)
noncomputable def zkf (x : Nat) : Bool := (zea x).isSome
noncomputable def zhp (x : Nat) : Bool := ((zea x).getD default)
theorem zw2 {x : Nat} {r : Bool} (h : zea x = some r) : zkf x = true ∧ zhp x = r := by
  unfold zkf zhp
  rw [h]
  exact ⟨rfl, rfl⟩
noncomputable def zel {R : Type} (a : Nat) (b : Nat) (k_ : Bool → Option R) : Option R := (grd (zk4 a) (grd (zk4 b) (k_ (eqI (zi4 a) (zi4 b)))))
noncomputable def ze6 (a : Nat) (b : Nat) : Option (Bool) := zel a b (fun c0_ => some c0_)
theorem y1m {R R' : Type} (o : Option R → Option R') (h0 : o none = none) (a : Nat) (b : Nat) (k_ : Bool → Option R) : zel a b (fun c0_ => o (k_ c0_)) = o (zel a b k_) := by
  unfold zel
  repeat (first | refine z0k h0 ?_ | refine z0r ?_ ?_ | rfl | exact h0.symm)
noncomputable def zn8 (a : Nat) (b : Nat) : Bool := (ze6 a b).isSome
noncomputable def zlx (a : Nat) (b : Nat) : Bool := ((ze6 a b).getD default)
theorem y5w {a : Nat} {b : Nat} {r : Bool} (h : ze6 a b = some r) : zn8 a b = true ∧ zlx a b = r := by
  unfold zn8 zlx
  rw [h]
  exact ⟨rfl, rfl⟩
noncomputable def za9 {R : Type} (q0h : Nat) (q0n : List Nat) (q0j : Nat) (q0p : List Nat) (q0k : Nat) (q0q : List Nat) (k_ : Nat → Nat → Nat → (List Nat) → (List Nat) → (List Nat) → Option R) : Option R := (grd (z7b q0h (pF q0n 0 (muN q0h 1))) (grd (z7b q0j (pF q0p 0 (muN q0j 1))) (grd (z7b q0k (pF q0q 0 (muN q0k 1))) (k_ (z6w q0h (pF q0n 0 (muN q0h 1))) (z6w q0j (pF q0p 0 (muN q0j 1))) (z6w q0k (pF q0q 0 (muN q0k 1))) (z6y q0h (pF q0n 0 (muN q0h 1))) (z6y q0j (pF q0p 0 (muN q0j 1))) (z6y q0k (pF q0q 0 (muN q0k 1)))))))
noncomputable def z4g (q0h : Nat) (q0n : List Nat) (q0j : Nat) (q0p : List Nat) (q0k : Nat) (q0q : List Nat) : Option (Nat × Nat × Nat × (List Nat) × (List Nat) × (List Nat)) := za9 q0h q0n q0j q0p q0k q0q (fun c0_ c1_ c2_ c3_ c4_ c5_ => some (c0_, c1_, c2_, c3_, c4_, c5_))
theorem zwf {R R' : Type} (o : Option R → Option R') (h0 : o none = none) (q0h : Nat) (q0n : List Nat) (q0j : Nat) (q0p : List Nat) (q0k : Nat) (q0q : List Nat) (k_ : Nat → Nat → Nat → (List Nat) → (List Nat) → (List Nat) → Option R) : za9 q0h q0n q0j q0p q0k q0q (fun c0_ c1_ c2_ c3_ c4_ c5_ => o (k_ c0_ c1_ c2_ c3_ c4_ c5_)) = o (za9 q0h q0n q0j q0p q0k q0q k_) := by
  unfold za9
  repeat (first | refine z0k h0 ?_ | refine z0r ?_ ?_ | rfl | exact h0.symm)
noncomputable def zcc (q0h : Nat) (q0n : List Nat) (q0j : Nat) (q0p : List Nat) (q0k : Nat) (q0q : List Nat) : Bool := (z4g q0h q0n q0j q0p q0k q0q).isSome
noncomputable def z5m (q0h : Nat) (q0n : List Nat) (q0j : Nat) (q0p : List Nat) (q0k : Nat) (q0q : List Nat) : Nat := ((z4g q0h q0n q0j q0p q0k q0q).getD default).1
noncomputable def z5k (q0h : Nat) (q0n : List Nat) (q0j : Nat) (q0p : List Nat) (q0k : Nat) (q0q : List Nat) : Nat := ((z4g q0h q0n q0j q0p q0k q0q).getD default).2.1
noncomputable def z5j (q0h : Nat) (q0n : List Nat) (q0j : Nat) (q0p : List Nat) (q0k : Nat) (q0q : List Nat) : Nat := ((z4g q0h q0n q0j q0p q0k q0q).getD default).2.2.1
noncomputable def z8c (q0h : Nat) (q0n : List Nat) (q0j : Nat) (q0p : List Nat) (q0k : Nat) (q0q : List Nat) : List Nat := ((z4g q0h q0n q0j q0p q0k q0q).getD default).2.2.2.1
noncomputable def z8b (q0h : Nat) (q0n : List Nat) (q0j : Nat) (q0p : List Nat) (q0k : Nat) (q0q : List Nat) : List Nat := ((z4g q0h q0n q0j q0p q0k q0q).getD default).2.2.2.2.1
noncomputable def z8d (q0h : Nat) (q0n : List Nat) (q0j : Nat) (q0p : List Nat) (q0k : Nat) (q0q : List Nat) : List Nat := ((z4g q0h q0n q0j q0p q0k q0q).getD default).2.2.2.2.2
theorem zr4 {q0h : Nat} {q0n : List Nat} {q0j : Nat} {q0p : List Nat} {q0k : Nat} {q0q : List Nat} {r : Nat × Nat × Nat × (List Nat) × (List Nat) × (List Nat)} (h : z4g q0h q0n q0j q0p q0k q0q = some r) : zcc q0h q0n q0j q0p q0k q0q = true ∧ z5m q0h q0n q0j q0p q0k q0q = r.1 ∧ z5k q0h q0n q0j q0p q0k q0q = r.2.1 ∧ z5j q0h q0n q0j q0p q0k q0q = r.2.2.1 ∧ z8c q0h q0n q0j q0p q0k q0q = r.2.2.2.1 ∧ z8b q0h q0n q0j q0p q0k q0q = r.2.2.2.2.1 ∧ z8d q0h q0n q0j q0p q0k q0q = r.2.2.2.2.2 := by
  unfold zcc z5m z5k z5j z8c z8b z8d
  rw [h]
  exact ⟨rfl, rfl, rfl, rfl, rfl, rfl, rfl⟩
noncomputable def zaz {R : Type} (a : Nat) (b : Nat) (k_ : Bool → Option R) : Option R := (br (fcmp .neq .f32 a a) (br (fcmp .neq .f32 a a) (k_ (fcmp .neq .f32 b b)) (k_ Bool.false)) (br (fcmp .neq .f32 b b) (br (fcmp .neq .f32 a a) (k_ (fcmp .neq .f32 b b)) (k_ Bool.false)) (br (fcmp .eql .f32 a b) (grd (zkk (fcvV .f32 .f64 a)) (grd (zkk (fcvV .f32 .f64 b)) (k_ (beqB (zhe (fcvV .f32 .f64 a)) (zhe (fcvV .f32 .f64 b)))))) (k_ Bool.false))))
noncomputable def zav (a : Nat) (b : Nat) : Option (Bool) := zaz a b (fun c0_ => some c0_)
theorem zyi {R R' : Type} (o : Option R → Option R') (h0 : o none = none) (a : Nat) (b : Nat) (k_ : Bool → Option R) : zaz a b (fun c0_ => o (k_ c0_)) = o (zaz a b k_) := by
  unfold zaz
  repeat (first | refine z0k h0 ?_ | refine z0r ?_ ?_ | rfl | exact h0.symm)
noncomputable def z6q (a : Nat) (b : Nat) : Bool := (zav a b).isSome
noncomputable def z62 (a : Nat) (b : Nat) : Bool := ((zav a b).getD default)
theorem za5 {a : Nat} {b : Nat} {r : Bool} (h : zav a b = some r) : z6q a b = true ∧ z62 a b = r := by
  unfold z6q z62
  rw [h]
  exact ⟨rfl, rfl⟩
noncomputable def zga {R : Type} (x : Nat) (k_ : Bool → Option R) : Option R := (grd (zto x) (k_ (fcmp .geq .f64 (zry x) 4841369599423283200)))
noncomputable def zgh (x : Nat) : Option (Bool) := zga x (fun c0_ => some c0_)
theorem y3t {R R' : Type} (o : Option R → Option R') (h0 : o none = none) (x : Nat) (k_ : Bool → Option R) : zga x (fun c0_ => o (k_ c0_)) = o (zga x k_) := by
  unfold zga
  repeat (first | refine z0k h0 ?_ | refine z0r ?_ ?_ | rfl | exact h0.symm)
noncomputable def zop (x : Nat) : Bool := (zgh x).isSome
noncomputable def zn5 (x : Nat) : Bool := ((zgh x).getD default)
theorem y7i {x : Nat} {r : Bool} (h : zgh x = some r) : zop x = true ∧ zn5 x = r := by
  unfold zop zn5
  rw [h]
  exact ⟨rfl, rfl⟩
noncomputable def za0 {R : Type} (x : Nat) (k_ : Bool → Option R) : Option R := (grd (z4m x) (k_ (bnot (z46 x))))
noncomputable def za8 (x : Nat) : Option (Bool) := za0 x (fun c0_ => some c0_)
theorem zwr {R R' : Type} (o : Option R → Option R') (h0 : o none = none) (x : Nat) (k_ : Bool → Option R) : za0 x (fun c0_ => o (k_ c0_)) = o (za0 x k_) := by
  unfold za0
  repeat (first | refine z0k h0 ?_ | refine z0r ?_ ?_ | rfl | exact h0.symm)
noncomputable def zi1 (x : Nat) : Bool := (za8 x).isSome
noncomputable def zfc (x : Nat) : Bool := ((za8 x).getD default)
theorem y0s {x : Nat} {r : Bool} (h : za8 x = some r) : zi1 x = true ∧ zfc x = r := by
  unfold zi1 zfc
  rw [h]
  exact ⟨rfl, rfl⟩
noncomputable def z8w {R : Type} (x : Nat) (k_ : Bool → Option R) : Option R := (grd (z4m x) (br (bnot (z46 x)) (k_ Bool.true) (k_ (fcmp .leq .f32 x 0))))
noncomputable def z8x (x : Nat) : Option (Bool) := z8w x (fun c0_ => some c0_)
theorem zv3 {R R' : Type} (o : Option R → Option R') (h0 : o none = none) (x : Nat) (k_ : Bool → Option R) : z8w x (fun c0_ => o (k_ c0_)) = o (z8w x k_) := by
  unfold z8w
  repeat (first | refine z0k h0 ?_ | refine z0r ?_ ?_ | rfl | exact h0.symm)
noncomputable def ze1 (x : Nat) : Bool := (z8x x).isSome
noncomputable def zcm (x : Nat) : Bool := ((z8x x).getD default)
theorem zx5 {x : Nat} {r : Bool} (h : z8x x = some r) : ze1 x = true ∧ zcm x = r := by
  unfold ze1 zcm
  rw [h]
  exact ⟨rfl, rfl⟩
noncomputable def zb5 {R : Type} (a : Nat) (b : Nat) (k_ : Bool → Option R) : Option R := (grd (zn8 a b) (k_ (zlx a b)))
noncomputable def zdl (a : Nat) (b : Nat) : Option (Bool) := zb5 a b (fun c0_ => some c0_)
theorem zxl {R R' : Type} (o : Option R → Option R') (h0 : o none = none) (a : Nat) (b : Nat) (k_ : Bool → Option R) : zb5 a b (fun c0_ => o (k_ c0_)) = o (zb5 a b k_) := by
  unfold zb5
  repeat (first | refine z0k h0 ?_ | refine z0r ?_ ?_ | rfl | exact h0.symm)
noncomputable def zat (a : Nat) (b : Nat) : Bool := (zdl a b).isSome
noncomputable def za6 (a : Nat) (b : Nat) : Bool := ((zdl a b).getD default)
theorem y1g {a : Nat} {b : Nat} {r : Bool} (h : zdl a b = some r) : zat a b = true ∧ za6 a b = r := by
  unfold zat za6
  rw [h]
  exact ⟨rfl, rfl⟩
noncomputable def zc4 {R : Type} (q00 : Nat) (q04 : List Nat) (q01 : Nat) (q05 : List Nat) (q02 : Nat) (q06 : List Nat) (q07 : Nat) (q09 : List Nat) (q0b : Int) (q0e : Nat) (q0d : Nat) (k_ : Nat → Nat → Nat → Nat → (List Nat) → (List Nat) → (List Nat) → (List Nat) → Option R) : Option R := (grd (zcc q00 (pF q04 0 (muN q00 1)) q01 (pF q05 0 (muN q01 1)) q02 (pF q06 0 (muN q02 1))) (grd (z4x q07 (pF q09 0 (muN q07 3))) (k_ (z5m q00 (pF q04 0 (muN q00 1)) q01 (pF q05 0 (muN q01 1)) q02 (pF q06 0 (muN q02 1))) (z5k q00 (pF q04 0 (muN q00 1)) q01 (pF q05 0 (muN q01 1)) q02 (pF q06 0 (muN q02 1))) (z5j q00 (pF q04 0 (muN q00 1)) q01 (pF q05 0 (muN q01 1)) q02 (pF q06 0 (muN q02 1))) (z4n q07 (pF q09 0 (muN q07 3))) (z8c q00 (pF q04 0 (muN q00 1)) q01 (pF q05 0 (muN q01 1)) q02 (pF q06 0 (muN q02 1))) (z8b q00 (pF q04 0 (muN q00 1)) q01 (pF q05 0 (muN q01 1)) q02 (pF q06 0 (muN q02 1))) (z8d q00 (pF q04 0 (muN q00 1)) q01 (pF q05 0 (muN q01 1)) q02 (pF q06 0 (muN q02 1))) (z4o q07 (pF q09 0 (muN q07 3))))))
noncomputable def z45 (q00 : Nat) (q04 : List Nat) (q01 : Nat) (q05 : List Nat) (q02 : Nat) (q06 : List Nat) (q07 : Nat) (q09 : List Nat) (q0b : Int) (q0e : Nat) (q0d : Nat) : Option (Nat × Nat × Nat × Nat × (List Nat) × (List Nat) × (List Nat) × (List Nat)) := zc4 q00 q04 q01 q05 q02 q06 q07 q09 q0b q0e q0d (fun c0_ c1_ c2_ c3_ c4_ c5_ c6_ c7_ => some (c0_, c1_, c2_, c3_, c4_, c5_, c6_, c7_))
theorem zz0 {R R' : Type} (o : Option R → Option R') (h0 : o none = none) (q00 : Nat) (q04 : List Nat) (q01 : Nat) (q05 : List Nat) (q02 : Nat) (q06 : List Nat) (q07 : Nat) (q09 : List Nat) (q0b : Int) (q0e : Nat) (q0d : Nat) (k_ : Nat → Nat → Nat → Nat → (List Nat) → (List Nat) → (List Nat) → (List Nat) → Option R) : zc4 q00 q04 q01 q05 q02 q06 q07 q09 q0b q0e q0d (fun c0_ c1_ c2_ c3_ c4_ c5_ c6_ c7_ => o (k_ c0_ c1_ c2_ c3_ c4_ c5_ c6_ c7_)) = o (zc4 q00 q04 q01 q05 q02 q06 q07 q09 q0b q0e q0d k_) := by
  unfold zc4
  repeat (first | refine z0k h0 ?_ | refine z0r ?_ ?_ | rfl | exact h0.symm)
noncomputable def zbw (q00 : Nat) (q04 : List Nat) (q01 : Nat) (q05 : List Nat) (q02 : Nat) (q06 : List Nat) (q07 : Nat) (q09 : List Nat) (q0b : Int) (q0e : Nat) (q0d : Nat) : Bool := (z45 q00 q04 q01 q05 q02 q06 q07 q09 q0b q0e q0d).isSome
noncomputable def z1z (q00 : Nat) (q04 : List Nat) (q01 : Nat) (q05 : List Nat) (q02 : Nat) (q06 : List Nat) (q07 : Nat) (q09 : List Nat) (q0b : Int) (q0e : Nat) (q0d : Nat) : Nat := ((z45 q00 q04 q01 q05 q02 q06 q07 q09 q0b q0e q0d).getD default).1
noncomputable def z1y (q00 : Nat) (q04 : List Nat) (q01 : Nat) (q05 : List Nat) (q02 : Nat) (q06 : List Nat) (q07 : Nat) (q09 : List Nat) (q0b : Int) (q0e : Nat) (q0d : Nat) : Nat := ((z45 q00 q04 q01 q05 q02 q06 q07 q09 q0b q0e q0d).getD default).2.1
noncomputable def z20 (q00 : Nat) (q04 : List Nat) (q01 : Nat) (q05 : List Nat) (q02 : Nat) (q06 : List Nat) (q07 : Nat) (q09 : List Nat) (q0b : Int) (q0e : Nat) (q0d : Nat) : Nat := ((z45 q00 q04 q01 q05 q02 q06 q07 q09 q0b q0e q0d).getD default).2.2.1
noncomputable def z0t (q00 : Nat) (q04 : List Nat) (q01 : Nat) (q05 : List Nat) (q02 : Nat) (q06 : List Nat) (q07 : Nat) (q09 : List Nat) (q0b : Int) (q0e : Nat) (q0d : Nat) : Nat := ((z45 q00 q04 q01 q05 q02 q06 q07 q09 q0b q0e q0d).getD default).2.2.2.1
noncomputable def z49 (q00 : Nat) (q04 : List Nat) (q01 : Nat) (q05 : List Nat) (q02 : Nat) (q06 : List Nat) (q07 : Nat) (q09 : List Nat) (q0b : Int) (q0e : Nat) (q0d : Nat) : List Nat := ((z45 q00 q04 q01 q05 q02 q06 q07 q09 q0b q0e q0d).getD default).2.2.2.2.1
noncomputable def z4b (q00 : Nat) (q04 : List Nat) (q01 : Nat) (q05 : List Nat) (q02 : Nat) (q06 : List Nat) (q07 : Nat) (q09 : List Nat) (q0b : Int) (q0e : Nat) (q0d : Nat) : List Nat := ((z45 q00 q04 q01 q05 q02 q06 q07 q09 q0b q0e q0d).getD default).2.2.2.2.2.1
noncomputable def z4a (q00 : Nat) (q04 : List Nat) (q01 : Nat) (q05 : List Nat) (q02 : Nat) (q06 : List Nat) (q07 : Nat) (q09 : List Nat) (q0b : Int) (q0e : Nat) (q0d : Nat) : List Nat := ((z45 q00 q04 q01 q05 q02 q06 q07 q09 q0b q0e q0d).getD default).2.2.2.2.2.2.1
noncomputable def z3j (q00 : Nat) (q04 : List Nat) (q01 : Nat) (q05 : List Nat) (q02 : Nat) (q06 : List Nat) (q07 : Nat) (q09 : List Nat) (q0b : Int) (q0e : Nat) (q0d : Nat) : List Nat := ((z45 q00 q04 q01 q05 q02 q06 q07 q09 q0b q0e q0d).getD default).2.2.2.2.2.2.2
theorem znr {q00 : Nat} {q04 : List Nat} {q01 : Nat} {q05 : List Nat} {q02 : Nat} {q06 : List Nat} {q07 : Nat} {q09 : List Nat} {q0b : Int} {q0e : Nat} {q0d : Nat} {r : Nat × Nat × Nat × Nat × (List Nat) × (List Nat) × (List Nat) × (List Nat)} (h : z45 q00 q04 q01 q05 q02 q06 q07 q09 q0b q0e q0d = some r) : zbw q00 q04 q01 q05 q02 q06 q07 q09 q0b q0e q0d = true ∧ z1z q00 q04 q01 q05 q02 q06 q07 q09 q0b q0e q0d = r.1 ∧ z1y q00 q04 q01 q05 q02 q06 q07 q09 q0b q0e q0d = r.2.1 ∧ z20 q00 q04 q01 q05 q02 q06 q07 q09 q0b q0e q0d = r.2.2.1 ∧ z0t q00 q04 q01 q05 q02 q06 q07 q09 q0b q0e q0d = r.2.2.2.1 ∧ z49 q00 q04 q01 q05 q02 q06 q07 q09 q0b q0e q0d = r.2.2.2.2.1 ∧ z4b q00 q04 q01 q05 q02 q06 q07 q09 q0b q0e q0d = r.2.2.2.2.2.1 ∧ z4a q00 q04 q01 q05 q02 q06 q07 q09 q0b q0e q0d = r.2.2.2.2.2.2.1 ∧ z3j q00 q04 q01 q05 q02 q06 q07 q09 q0b q0e q0d = r.2.2.2.2.2.2.2 := by
  unfold zbw z1z z1y z20 z0t z49 z4b z4a z3j
  rw [h]
  exact ⟨rfl, rfl, rfl, rfl, rfl, rfl, rfl, rfl, rfl⟩
noncomputable def za4 {R : Type} (q32 : Nat) (q39 : Nat) (q3e : Nat) (q31 : Nat) (q3c : Nat) (q3d : Nat) (k_ : Bool → Option R) : Option R := (grd (z6q q32 q31) (br (z62 q32 q31) (grd (z6q q39 q3c) (br (z62 q39 q3c) (grd (z6q q3e q3d) (k_ (z62 q3e q3d))) (k_ Bool.false))) (k_ Bool.false)))
noncomputable def za3 (q32 : Nat) (q39 : Nat) (q3e : Nat) (q31 : Nat) (q3c : Nat) (q3d : Nat) : Option (Bool) := za4 q32 q39 q3e q31 q3c q3d (fun c0_ => some c0_)
theorem zx0 {R R' : Type} (o : Option R → Option R') (h0 : o none = none) (q32 : Nat) (q39 : Nat) (q3e : Nat) (q31 : Nat) (q3c : Nat) (q3d : Nat) (k_ : Bool → Option R) : za4 q32 q39 q3e q31 q3c q3d (fun c0_ => o (k_ c0_)) = o (za4 q32 q39 q3e q31 q3c q3d k_) := by
  unfold za4
  repeat (first | refine z0k h0 ?_ | refine z0r ?_ ?_ | rfl | exact h0.symm)
noncomputable def zgs (q32 : Nat) (q39 : Nat) (q3e : Nat) (q31 : Nat) (q3c : Nat) (q3d : Nat) : Bool := (za3 q32 q39 q3e q31 q3c q3d).isSome
noncomputable def zfd (q32 : Nat) (q39 : Nat) (q3e : Nat) (q31 : Nat) (q3c : Nat) (q3d : Nat) : Bool := ((za3 q32 q39 q3e q31 q3c q3d).getD default)
theorem y1d {q32 : Nat} {q39 : Nat} {q3e : Nat} {q31 : Nat} {q3c : Nat} {q3d : Nat} {r : Bool} (h : za3 q32 q39 q3e q31 q3c q3d = some r) : zgs q32 q39 q3e q31 q3c q3d = true ∧ zfd q32 q39 q3e q31 q3c q3d = r := by
  unfold zgs zfd
  rw [h]
  exact ⟨rfl, rfl⟩
noncomputable def zbb {R : Type} (x : Nat) (k_ : Bool → Option R) : Option R := (grd (zkf x) (k_ (bnot (zhp x))))
noncomputable def zay (x : Nat) : Option (Bool) := zbb x (fun c0_ => some c0_)
theorem zy5 {R R' : Type} (o : Option R → Option R') (h0 : o none = none) (x : Nat) (k_ : Bool → Option R) : zbb x (fun c0_ => o (k_ c0_)) = o (zbb x k_) := by
  unfold zbb
  repeat (first | refine z0k h0 ?_ | refine z0r ?_ ?_ | rfl | exact h0.symm)
noncomputable def zjd (x : Nat) : Bool := (zay x).isSome
noncomputable def zhu (x : Nat) : Bool := ((zay x).getD default)
theorem y2x {x : Nat} {r : Bool} (h : zay x = some r) : zjd x = true ∧ zhu x = r := by
  unfold zjd zhu
  rw [h]
  exact ⟨rfl, rfl⟩
noncomputable def zk1 {R : Type} (x : Nat) (k_ : Nat → Option R) : Option R := (grd (bnot (nanQ .f64 x)) (k_ (fint Ieee.Toward.zero x)))
noncomputable def zkh (x : Nat) : Option (Nat) := zk1 x (fun c0_ => some c0_)
theorem y52 {R R' : Type} (o : Option R → Option R') (h0 : o none = none) (x : Nat) (k_ : Nat → Option R) : zk1 x (fun c0_ => o (k_ c0_)) = o (zk1 x k_) := by
  unfold zk1
  repeat (first | refine z0k h0 ?_ | refine z0r ?_ ?_ | rfl | exact h0.symm)
noncomputable def zqi (x : Nat) : Bool := (zkh x).isSome
noncomputable def zd8 (x : Nat) : Nat := ((zkh x).getD default)
theorem y95 {x : Nat} {r : Nat} (h : zkh x = some r) : zqi x = true ∧ zd8 x = r := by
  unfold zqi zd8
  rw [h]
  exact ⟨rfl, rfl⟩
noncomputable def z4f {R : Type} (t6 : Nat) (t7 : Nat) (t8 : Int) (kn_ : Nat → Int → Option R) (k0_ : Nat → Int → Bool → Option R) : Option R := (br (leI 1 t8) (kn_ (fop .sub .f64 4607182418800017408 (fop .quo .f64 (fop .mul .f64 t6 t7) (fOI .f64 (mulI .i64 (mulI .i64 2 t8) (addI .i64 (mulI .i64 2 t8) 1))))) (subI .i64 t8 1)) (k0_ t7 t8 (leI 1 t8)))
theorem zsq {R R' : Type} (o : Option R → Option R') (h0 : o none = none) (t6 : Nat) (t7 : Nat) (t8 : Int) (kn_ : Nat → Int → Option R) (k0_ : Nat → Int → Bool → Option R) : z4f t6 t7 t8 (fun t7' t8' => o (kn_ t7' t8')) (fun c0_ c1_ c2_ => o (k0_ c0_ c1_ c2_)) = o (z4f t6 t7 t8 kn_ k0_) := by
  unfold z4f
  repeat (first | refine z0k h0 ?_ | refine z0r ?_ ?_ | rfl | exact h0.symm)
noncomputable def z1r (t6 : Nat) : Nat → Nat → Int → Option ((Nat × Int × Bool))
  | 0, _, _ => none
  | n + 1, t7, t8 => z4f t6  t7 t8  (fun t7' t8' => z1r t6 n t7' t8') (fun c0_ c1_ c2_ => some (c0_, c1_, c2_))
theorem zkt (t6 : Nat) (n : Nat) (t7 : Nat) (t8 : Int) : z1r t6 (n + 1) t7 t8 = z4f t6  t7 t8  (fun t7' t8' => z1r t6 n t7' t8') (fun c0_ c1_ c2_ => some (c0_, c1_, c2_)) := rfl
noncomputable def z2x (t6 : Nat) (t7 : Nat) (t8 : Int) : Bool := (z1r t6 big t7 t8).isSome
noncomputable def z0u (t6 : Nat) (t7 : Nat) (t8 : Int) : Nat := ((z1r t6 big t7 t8).getD default).1
noncomputable def ze2 (t6 : Nat) (t7 : Nat) (t8 : Int) : Int := ((z1r t6 big t7 t8).getD default).2.1
noncomputable def zds (t6 : Nat) (t7 : Nat) (t8 : Int) : Bool := ((z1r t6 big t7 t8).getD default).2.2
theorem zu3 {t6 : Nat} {t7 : Nat} {t8 : Int} {m : Nat} {r : Nat × Int × Bool} (hm : m = big) (h : z1r t6 m t7 t8 = some r) : z2x t6 t7 t8 = true ∧ z0u t6 t7 t8 = r.1 ∧ ze2 t6 t7 t8 = r.2.1 ∧ zds t6 t7 t8 = r.2.2 := by
  subst hm
  unfold z2x z0u ze2 zds
  rw [h]
  exact ⟨rfl, rfl, rfl, rfl⟩
noncomputable def zaq {R : Type} (q26 : Nat) (k_ : Nat → Option R) : Option R := (grd (zqi q26) (br (fcmp .eql .f64 (zd8 q26) 0) (br (fcmp .lss .f64 (fop .sub .f64 q26 0) 0) (k_ (fop .add .f64 (fop .sub .f64 q26 0) 4607182418800017408)) (k_ (fop .sub .f64 q26 0))) (br (fcmp .lss .f64 (fop .sub .f64 q26 (zd8 q26)) 0) (k_ (fop .add .f64 (fop .sub .f64 q26 (zd8 q26)) 4607182418800017408)) (k_ (fop .sub .f64 q26 (zd8 q26))))))
noncomputable def zam (q26 : Nat) : Option (Nat) := zaq q26 (fun c0_ => some c0_)
theorem zxj {R R' : Type} (o : Option R → Option R') (h0 : o none = none) (q26 : Nat) (k_ : Nat → Option R) : zaq q26 (fun c0_ => o (k_ c0_)) = o (zaq q26 k_) := by
  unfold zaq
  repeat (first | refine z0k h0 ?_ | refine z0r ?_ ?_ | rfl | exact h0.symm)
noncomputable def zjq (q26 : Nat) : Bool := (zam q26).isSome
noncomputable def z0z (q26 : Nat) : Nat := ((zam q26).getD default)
theorem y1n {q26 : Nat} {r : Nat} (h : zam q26 = some r) : zjq q26 = true ∧ z0z q26 = r := by
  unfold zjq z0z
  rw [h]
  exact ⟨rfl, rfl⟩
noncomputable def z75 {R : Type} (q08 : Nat) (k_ : Nat → Option R) : Option R := (br (fcmp .neq .f64 (fop .sub .f64 q08 q08) 0) (grd zpy (k_ zlk)) (br (fcmp .geq .f64 q08 4841369599423283200) (k_ 0) (br (fcmp .leq .f64 q08 14064741636278059008) (k_ 0) (grd (f2iB .f64 q08 .i64) (br (fcmp .lss .f64 (fop .sub .f64 q08 (fOI .f64 (f2iV .f64 q08 .i64))) 0) (br (fcmp .geq .f64 (fop .add .f64 (fop .sub .f64 q08 (fOI .f64 (f2iV .f64 q08 .i64))) 4607182418800017408) 4602678819172646912) (br (fcmp .gtr .f64 (fop .sub .f64 (fop .add .f64 (fop .sub .f64 q08 (fOI .f64 (f2iV .f64 q08 .i64))) 4607182418800017408) 4602678819172646912) 4598175219545276416) (grd (z2x (fop .mul .f64 (fop .mul .f64 (fop .sub .f64 4602678819172646912 (fop .sub .f64 (fop .add .f64 (fop .sub .f64 q08 (fOI .f64 (f2iV .f64 q08 .i64))) 4607182418800017408) 4602678819172646912)) 4618760256179416344) (fop .mul .f64 (fop .sub .f64 4602678819172646912 (fop .sub .f64 (fop .add .f64 (fop .sub .f64 q08 (fOI .f64 (f2iV .f64 q08 .i64))) 4607182418800017408) 4602678819172646912)) 4618760256179416344)) 4607182418800017408 8) (br (fcmp .geq .f64 (fop .add .f64 (fop .sub .f64 q08 (fOI .f64 (f2iV .f64 q08 .i64))) 4607182418800017408) 4602678819172646912) (k_ (fneg .f64 (fop .mul .f64 (fop .mul .f64 (fop .sub .f64 4602678819172646912 (fop .sub .f64 (fop .add .f64 (fop .sub .f64 q08 (fOI .f64 (f2iV .f64 q08 .i64))) 4607182418800017408) 4602678819172646912)) 4618760256179416344) (z0u (fop .mul .f64 (fop .mul .f64 (fop .sub .f64 4602678819172646912 (fop .sub .f64 (fop .add .f64 (fop .sub .f64 q08 (fOI .f64 (f2iV .f64 q08 .i64))) 4607182418800017408) 4602678819172646912)) 4618760256179416344) (fop .mul .f64 (fop .sub .f64 4602678819172646912 (fop .sub .f64 (fop .add .f64 (fop .sub .f64 q08 (fOI .f64 (f2iV .f64 q08 .i64))) 4607182418800017408) 4602678819172646912)) 4618760256179416344)) 4607182418800017408 8)))) (k_ (fop .mul .f64 (fop .mul .f64 (fop .sub .f64 4602678819172646912 (fop .sub .f64 (fop .add .f64 (fop .sub .f64 q08 (fOI .f64 (f2iV .f64 q08 .i64))) 4607182418800017408) 4602678819172646912)) 4618760256179416344) (z0u (fop .mul .f64 (fop .mul .f64 (fop .sub .f64 4602678819172646912 (fop .sub .f64 (fop .add .f64 (fop .sub .f64 q08 (fOI .f64 (f2iV .f64 q08 .i64))) 4607182418800017408) 4602678819172646912)) 4618760256179416344) (fop .mul .f64 (fop .sub .f64 4602678819172646912 (fop .sub .f64 (fop .add .f64 (fop .sub .f64 q08 (fOI .f64 (f2iV .f64 q08 .i64))) 4607182418800017408) 4602678819172646912)) 4618760256179416344)) 4607182418800017408 8))))) (grd (z2x (fop .mul .f64 (fop .mul .f64 (fop .sub .f64 (fop .add .f64 (fop .sub .f64 q08 (fOI .f64 (f2iV .f64 q08 .i64))) 4607182418800017408) 4602678819172646912) 4618760256179416344) (fop .mul .f64 (fop .sub .f64 (fop .add .f64 (fop .sub .f64 q08 (fOI .f64 (f2iV .f64 q08 .i64))) 4607182418800017408) 4602678819172646912) 4618760256179416344)) 4607182418800017408 8) (br (fcmp .geq .f64 (fop .add .f64 (fop .sub .f64 q08 (fOI .f64 (f2iV .f64 q08 .i64))) 4607182418800017408) 4602678819172646912) (k_ (fneg .f64 (fop .mul .f64 (fop .mul .f64 (fop .sub .f64 (fop .add .f64 (fop .sub .f64 q08 (fOI .f64 (f2iV .f64 q08 .i64))) 4607182418800017408) 4602678819172646912) 4618760256179416344) (z0u (fop .mul .f64 (fop .mul .f64 (fop .sub .f64 (fop .add .f64 (fop .sub .f64 q08 (fOI .f64 (f2iV .f64 q08 .i64))) 4607182418800017408) 4602678819172646912) 4618760256179416344) (fop .mul .f64 (fop .sub .f64 (fop .add .f64 (fop .sub .f64 q08 (fOI .f64 (f2iV .f64 q08 .i64))) 4607182418800017408) 4602678819172646912) 4618760256179416344)) 4607182418800017408 8)))) (k_ (fop .mul .f64 (fop .mul .f64 (fop .sub .f64 (fop .add .f64 (fop .sub .f64 q08 (fOI .f64 (f2iV .f64 q08 .i64))) 4607182418800017408) 4602678819172646912) 4618760256179416344) (z0u (fop .mul .f64 (fop .mul .f64 (fop .sub .f64 (fop .add .f64 (fop .sub .f64 q08 (fOI .f64 (f2iV .f64 q08 .i64))) 4607182418800017408) 4602678819172646912) 4618760256179416344) (fop .mul .f64 (fop .sub .f64 (fop .add .f64 (fop .sub .f64 q08 (fOI .f64 (f2iV .f64 q08 .i64))) 4607182418800017408) 4602678819172646912) 4618760256179416344)) 4607182418800017408 8)))))) (br (fcmp .gtr .f64 (fop .add .f64 (fop .sub .f64 q08 (fOI .f64 (f2iV .f64 q08 .i64))) 4607182418800017408) 4598175219545276416) (grd (z2x (fop .mul .f64 (fop .mul .f64 (fop .sub .f64 4602678819172646912 (fop .add .f64 (fop .sub .f64 q08 (fOI .f64 (f2iV .f64 q08 .i64))) 4607182418800017408)) 4618760256179416344) (fop .mul .f64 (fop .sub .f64 4602678819172646912 (fop .add .f64 (fop .sub .f64 q08 (fOI .f64 (f2iV .f64 q08 .i64))) 4607182418800017408)) 4618760256179416344)) 4607182418800017408 8) (br (fcmp .geq .f64 (fop .add .f64 (fop .sub .f64 q08 (fOI .f64 (f2iV .f64 q08 .i64))) 4607182418800017408) 4602678819172646912) (k_ (fneg .f64 (fop .mul .f64 (fop .mul .f64 (fop .sub .f64 4602678819172646912 (fop .add .f64 (fop .sub .f64 q08 (fOI .f64 (f2iV .f64 q08 .i64))) 4607182418800017408)) 4618760256179416344) (z0u (fop .mul .f64 (fop .mul .f64 (fop .sub .f64 4602678819172646912 (fop .add .f64 (fop .sub .f64 q08 (fOI .f64 (f2iV .f64 q08 .i64))) 4607182418800017408)) 4618760256179416344) (fop .mul .f64 (fop .sub .f64 4602678819172646912 (fop .add .f64 (fop .sub .f64 q08 (fOI .f64 (f2iV .f64 q08 .i64))) 4607182418800017408)) 4618760256179416344)) 4607182418800017408 8)))) (k_ (fop .mul .f64 (fop .mul .f64 (fop .sub .f64 4602678819172646912 (fop .add .f64 (fop .sub .f64 q08 (fOI .f64 (f2iV .f64 q08 .i64))) 4607182418800017408)) 4618760256179416344) (z0u (fop .mul .f64 (fop .mul .f64 (fop .sub .f64 4602678819172646912 (fop .add .f64 (fop .sub .f64 q08 (fOI .f64 (f2iV .f64 q08 .i64))) 4607182418800017408)) 4618760256179416344) (fop .mul .f64 (fop .sub .f64 4602678819172646912 (fop .add .f64 (fop .sub .f64 q08 (fOI .f64 (f2iV .f64 q08 .i64))) 4607182418800017408)) 4618760256179416344)) 4607182418800017408 8))))) (grd (z2x (fop .mul .f64 (fop .mul .f64 (fop .add .f64 (fop .sub .f64 q08 (fOI .f64 (f2iV .f64 q08 .i64))) 4607182418800017408) 4618760256179416344) (fop .mul .f64 (fop .add .f64 (fop .sub .f64 q08 (fOI .f64 (f2iV .f64 q08 .i64))) 4607182418800017408) 4618760256179416344)) 4607182418800017408 8) (br (fcmp .geq .f64 (fop .add .f64 (fop .sub .f64 q08 (fOI .f64 (f2iV .f64 q08 .i64))) 4607182418800017408) 4602678819172646912) (k_ (fneg .f64 (fop .mul .f64 (fop .mul .f64 (fop .add .f64 (fop .sub .f64 q08 (fOI .f64 (f2iV .f64 q08 .i64))) 4607182418800017408) 4618760256179416344) (z0u (fop .mul .f64 (fop .mul .f64 (fop .add .f64 (fop .sub .f64 q08 (fOI .f64 (f2iV .f64 q08 .i64))) 4607182418800017408) 4618760256179416344) (fop .mul .f64 (fop .add .f64 (fop .sub .f64 q08 (fOI .f64 (f2iV .f64 q08 .i64))) 4607182418800017408) 4618760256179416344)) 4607182418800017408 8)))) (k_ (fop .mul .f64 (fop .mul .f64 (fop .add .f64 (fop .sub .f64 q08 (fOI .f64 (f2iV .f64 q08 .i64))) 4607182418800017408) 4618760256179416344) (z0u (fop .mul .f64 (fop .mul .f64 (fop .add .f64 (fop .sub .f64 q08 (fOI .f64 (f2iV .f64 q08 .i64))) 4607182418800017408) 4618760256179416344) (fop .mul .f64 (fop .add .f64 (fop .sub .f64 q08 (fOI .f64 (f2iV .f64 q08 .i64))) 4607182418800017408) 4618760256179416344)) 4607182418800017408 8))))))) (br (fcmp .geq .f64 (fop .sub .f64 q08 (fOI .f64 (f2iV .f64 q08 .i64))) 4602678819172646912) (br (fcmp .gtr .f64 (fop .sub .f64 (fop .sub .f64 q08 (fOI .f64 (f2iV .f64 q08 .i64))) 4602678819172646912) 4598175219545276416) (grd (z2x (fop .mul .f64 (fop .mul .f64 (fop .sub .f64 4602678819172646912 (fop .sub .f64 (fop .sub .f64 q08 (fOI .f64 (f2iV .f64 q08 .i64))) 4602678819172646912)) 4618760256179416344) (fop .mul .f64 (fop .sub .f64 4602678819172646912 (fop .sub .f64 (fop .sub .f64 q08 (fOI .f64 (f2iV .f64 q08 .i64))) 4602678819172646912)) 4618760256179416344)) 4607182418800017408 8) (br (fcmp .geq .f64 (fop .sub .f64 q08 (fOI .f64 (f2iV .f64 q08 .i64))) 4602678819172646912) (k_ (fneg .f64 (fop .mul .f64 (fop .mul .f64 (fop .sub .f64 4602678819172646912 (fop .sub .f64 (fop .sub .f64 q08 (fOI .f64 (f2iV .f64 q08 .i64))) 4602678819172646912)) 4618760256179416344) (z0u (fop .mul .f64 (fop .mul .f64 (fop .sub .f64 4602678819172646912 (fop .sub .f64 (fop .sub .f64 q08 (fOI .f64 (f2iV .f64 q08 .i64))) 4602678819172646912)) 4618760256179416344) (fop .mul .f64 (fop .sub .f64 4602678819172646912 (fop .sub .f64 (fop .sub .f64 q08 (fOI .f64 (f2iV .f64 q08 .i64))) 4602678819172646912)) 4618760256179416344)) 4607182418800017408 8)))) (k_ (fop .mul .f64 (fop .mul .f64 (fop .sub .f64 4602678819172646912 (fop .sub .f64 (fop .sub .f64 q08 (fOI .f64 (f2iV .f64 q08 .i64))) 4602678819172646912)) 4618760256179416344) (z0u (fop .mul .f64 (fop .mul .f64 (fop .sub .f64 4602678819172646912 (fop .sub .f64 (fop .sub .f64 q08 (fOI .f64 (f2iV .f64 q08 .i64))) 4602678819172646912)) 4618760256179416344) (fop .mul .f64 (fop .sub .f64 4602678819172646912 (fop .sub .f64 (fop .sub .f64 q08 (fOI .f64 (f2iV .f64 q08 .i64))) 4602678819172646912)) 4618760256179416344)) 4607182418800017408 8))))) (grd (z2x (fop .mul .f64 (fop .mul .f64 (fop .sub .f64 (fop .sub .f64 q08 (fOI .f64 (f2iV .f64 q08 .i64))) 4602678819172646912) 4618760256179416344) (fop .mul .f64 (fop .sub .f64 (fop .sub .f64 q08 (fOI .f64 (f2iV .f64 q08 .i64))) 4602678819172646912) 4618760256179416344)) 4607182418800017408 8) (br (fcmp .geq .f64 (fop .sub .f64 q08 (fOI .f64 (f2iV .f64 q08 .i64))) 4602678819172646912) (k_ (fneg .f64 (fop .mul .f64 (fop .mul .f64 (fop .sub .f64 (fop .sub .f64 q08 (fOI .f64 (f2iV .f64 q08 .i64))) 4602678819172646912) 4618760256179416344) (z0u (fop .mul .f64 (fop .mul .f64 (fop .sub .f64 (fop .sub .f64 q08 (fOI .f64 (f2iV .f64 q08 .i64))) 4602678819172646912) 4618760256179416344) (fop .mul .f64 (fop .sub .f64 (fop .sub .f64 q08 (fOI .f64 (f2iV .f64 q08 .i64))) 4602678819172646912) 4618760256179416344)) 4607182418800017408 8)))) (k_ (fop .mul .f64 (fop .mul .f64 (fop .sub .f64 (fop .sub .f64 q08 (fOI .f64 (f2iV .f64 q08 .i64))) 4602678819172646912) 4618760256179416344) (z0u (fop .mul .f64 (fop .mul .f64 (fop .sub .f64 (fop .sub .f64 q08 (fOI .f64 (f2iV .f64 q08 .i64))) 4602678819172646912) 4618760256179416344) (fop .mul .f64 (fop .sub .f64 (fop .sub .f64 q08 (fOI .f64 (f2iV .f64 q08 .i64))) 4602678819172646912) 4618760256179416344)) 4607182418800017408 8)))))) (br (fcmp .gtr .f64 (fop .sub .f64 q08 (fOI .f64 (f2iV .f64 q08 .i64))) 4598175219545276416) (grd (z2x (fop .mul .f64 (fop .mul .f64 (fop .sub .f64 4602678819172646912 (fop .sub .f64 q08 (fOI .f64 (f2iV .f64 q08 .i64)))) 4618760256179416344) (fop .mul .f64 (fop .sub .f64 4602678819172646912 (fop .sub .f64 q08 (fOI .f64 (f2iV .f64 q08 .i64)))) 4618760256179416344)) 4607182418800017408 8) (br (fcmp .geq .f64 (fop .sub .f64 q08 (fOI .f64 (f2iV .f64 q08 .i64))) 4602678819172646912) (k_ (fneg .f64 (fop .mul .f64 (fop .mul .f64 (fop .sub .f64 4602678819172646912 (fop .sub .f64 q08 (fOI .f64 (f2iV .f64 q08 .i64)))) 4618760256179416344) (z0u (fop .mul .f64 (fop .mul .f64 (fop .sub .f64 4602678819172646912 (fop .sub .f64 q08 (fOI .f64 (f2iV .f64 q08 .i64)))) 4618760256179416344) (fop .mul .f64 (fop .sub .f64 4602678819172646912 (fop .sub .f64 q08 (fOI .f64 (f2iV .f64 q08 .i64)))) 4618760256179416344)) 4607182418800017408 8)))) (k_ (fop .mul .f64 (fop .mul .f64 (fop .sub .f64 4602678819172646912 (fop .sub .f64 q08 (fOI .f64 (f2iV .f64 q08 .i64)))) 4618760256179416344) (z0u (fop .mul .f64 (fop .mul .f64 (fop .sub .f64 4602678819172646912 (fop .sub .f64 q08 (fOI .f64 (f2iV .f64 q08 .i64)))) 4618760256179416344) (fop .mul .f64 (fop .sub .f64 4602678819172646912 (fop .sub .f64 q08 (fOI .f64 (f2iV .f64 q08 .i64)))) 4618760256179416344)) 4607182418800017408 8))))) (grd (z2x (fop .mul .f64 (fop .mul .f64 (fop .sub .f64 q08 (fOI .f64 (f2iV .f64 q08 .i64))) 4618760256179416344) (fop .mul .f64 (fop .sub .f64 q08 (fOI .f64 (f2iV .f64 q08 .i64))) 4618760256179416344)) 4607182418800017408 8) (br (fcmp .geq .f64 (fop .sub .f64 q08 (fOI .f64 (f2iV .f64 q08 .i64))) 4602678819172646912) (k_ (fneg .f64 (fop .mul .f64 (fop .mul .f64 (fop .sub .f64 q08 (fOI .f64 (f2iV .f64 q08 .i64))) 4618760256179416344) (z0u (fop .mul .f64 (fop .mul .f64 (fop .sub .f64 q08 (fOI .f64 (f2iV .f64 q08 .i64))) 4618760256179416344) (fop .mul .f64 (fop .sub .f64 q08 (fOI .f64 (f2iV .f64 q08 .i64))) 4618760256179416344)) 4607182418800017408 8)))) (k_ (fop .mul .f64 (fop .mul .f64 (fop .sub .f64 q08 (fOI .f64 (f2iV .f64 q08 .i64))) 4618760256179416344) (z0u (fop .mul .f64 (fop .mul .f64 (fop .sub .f64 q08 (fOI .f64 (f2iV .f64 q08 .i64))) 4618760256179416344) (fop .mul .f64 (fop .sub .f64 q08 (fOI .f64 (f2iV .f64 q08 .i64))) 4618760256179416344)) 4607182418800017408 8))))))))))))
noncomputable def z5z (q08 : Nat) : Option (Nat) := z75 q08 (fun c0_ => some c0_)
theorem zwu {R R' : Type} (o : Option R → Option R') (h0 : o none = none) (q08 : Nat) (k_ : Nat → Option R) : z75 q08 (fun c0_ => o (k_ c0_)) = o (z75 q08 k_) := by
  unfold z75
  repeat (first | refine z0k h0 ?_ | refine z0r ?_ ?_ | rfl | exact h0.symm)
noncomputable def zgm (q08 : Nat) : Bool := (z5z q08).isSome
noncomputable def zbj (q08 : Nat) : Nat := ((z5z q08).getD default)
theorem y0o {q08 : Nat} {r : Nat} (h : z5z q08 = some r) : zgm q08 = true ∧ zbj q08 = r := by
  unfold zgm zbj
  rw [h]
  exact ⟨rfl, rfl⟩
noncomputable def z0x {R : Type} (s2n : Nat) (q23 : Nat) (t16 : Int) (b0 : List Nat) (b1 : List Nat) (t17 : Int) (kn_ : Int → Option R) (k0_ : Unit → Option R) (k1_ : Int → Bool → Option R) : Option R := (br (ltI t17 t16) (grd (okIx t17 q23) (grd (okIx t17 s2n) (grd (z6q (gF b0 (ixO 0 t17 1)) (gF b1 (ixO 0 t17 1))) (br (bnot (z62 (gF b0 (ixO 0 t17 1)) (gF b1 (ixO 0 t17 1)))) (k0_ ()) (kn_ (addI .i64 t17 1)))))) (k1_ t17 (ltI t17 t16)))
theorem zcg {R R' : Type} (o : Option R → Option R') (h0 : o none = none) (s2n : Nat) (q23 : Nat) (t16 : Int) (b0 : List Nat) (b1 : List Nat) (t17 : Int) (kn_ : Int → Option R) (k0_ : Unit → Option R) (k1_ : Int → Bool → Option R) : z0x s2n q23 t16 b0 b1 t17 (fun t17' => o (kn_ t17')) (fun _ => o (k0_ ())) (fun c0_ c1_ => o (k1_ c0_ c1_)) = o (z0x s2n q23 t16 b0 b1 t17 kn_ k0_ k1_) := by
  unfold z0x
  repeat (first | refine z0k h0 ?_ | refine z0r ?_ ?_ | rfl | exact h0.symm)
noncomputable def z0i (s2n : Nat) (q23 : Nat) (t16 : Int) (b0 : List Nat) (b1 : List Nat) : Nat → Int → Option ((Unit) ⊕ (Int × Bool))
  | 0, _ => none
  | n + 1, t17 => z0x s2n q23 t16 b0 b1  t17  (fun t17' => z0i s2n q23 t16 b0 b1 n t17') (fun _ => some (Sum.inl ())) (fun c0_ c1_ => some (Sum.inr (c0_, c1_)))
theorem z6z (s2n : Nat) (q23 : Nat) (t16 : Int) (b0 : List Nat) (b1 : List Nat) (n : Nat) (t17 : Int) : z0i s2n q23 t16 b0 b1 (n + 1) t17 = z0x s2n q23 t16 b0 b1  t17  (fun t17' => z0i s2n q23 t16 b0 b1 n t17') (fun _ => some (Sum.inl ())) (fun c0_ c1_ => some (Sum.inr (c0_, c1_))) := rfl
noncomputable def z13 (s2n : Nat) (q23 : Nat) (t16 : Int) (b0 : List Nat) (b1 : List Nat) (t17 : Int) : Bool := (z0i s2n q23 t16 b0 b1 big t17).isSome
noncomputable def z12 (s2n : Nat) (q23 : Nat) (t16 : Int) (b0 : List Nat) (b1 : List Nat) (t17 : Int) : Bool := oL (z0i s2n q23 t16 b0 b1 big t17)
noncomputable def z4j (s2n : Nat) (q23 : Nat) (t16 : Int) (b0 : List Nat) (b1 : List Nat) (t17 : Int) : Int := ((tR (z0i s2n q23 t16 b0 b1 big t17)).getD default).1
noncomputable def z4i (s2n : Nat) (q23 : Nat) (t16 : Int) (b0 : List Nat) (b1 : List Nat) (t17 : Int) : Bool := ((tR (z0i s2n q23 t16 b0 b1 big t17)).getD default).2
theorem zd5 {s2n : Nat} {q23 : Nat} {t16 : Int} {b0 : List Nat} {b1 : List Nat} {t17 : Int} {m : Nat} {r : Unit} (hm : m = big) (h : z0i s2n q23 t16 b0 b1 m t17 = some (Sum.inl r)) : z13 s2n q23 t16 b0 b1 t17 = true ∧ z12 s2n q23 t16 b0 b1 t17 = true := by
  subst hm
  unfold z13 z12
  rw [h]
  exact ⟨rfl, rfl⟩
theorem zd6 {s2n : Nat} {q23 : Nat} {t16 : Int} {b0 : List Nat} {b1 : List Nat} {t17 : Int} {m : Nat} {r : Int × Bool} (hm : m = big) (h : z0i s2n q23 t16 b0 b1 m t17 = some (Sum.inr r)) : z13 s2n q23 t16 b0 b1 t17 = true ∧ z12 s2n q23 t16 b0 b1 t17 = false ∧ z4j s2n q23 t16 b0 b1 t17 = r.1 ∧ z4i s2n q23 t16 b0 b1 t17 = r.2 := by
  subst hm
  unfold z13 z12 z4j z4i
  rw [h]
  exact ⟨rfl, rfl, rfl, rfl⟩
noncomputable def z18 {R : Type} (sn : Nat) (t7 : Int) (b0 : List Nat) (t8 : Int) (kn_ : Int → Option R) (k0_ : Int → Option R) (k1_ : Int → Bool → Option R) : Option R := (br (ltI t8 t7) (grd (okIx t8 sn) (grd (zi1 (gF b0 (ixO 0 t8 1))) (br (zfc (gF b0 (ixO 0 t8 1))) (k0_ t8) (kn_ (addI .i64 t8 1))))) (k1_ t8 (ltI t8 t7)))
theorem zfv {R R' : Type} (o : Option R → Option R') (h0 : o none = none) (sn : Nat) (t7 : Int) (b0 : List Nat) (t8 : Int) (kn_ : Int → Option R) (k0_ : Int → Option R) (k1_ : Int → Bool → Option R) : z18 sn t7 b0 t8 (fun t8' => o (kn_ t8')) (fun c0_ => o (k0_ c0_)) (fun c0_ c1_ => o (k1_ c0_ c1_)) = o (z18 sn t7 b0 t8 kn_ k0_ k1_) := by
  unfold z18
  repeat (first | refine z0k h0 ?_ | refine z0r ?_ ?_ | rfl | exact h0.symm)
noncomputable def z0m (sn : Nat) (t7 : Int) (b0 : List Nat) : Nat → Int → Option ((Int) ⊕ (Int × Bool))
  | 0, _ => none
  | n + 1, t8 => z18 sn t7 b0  t8  (fun t8' => z0m sn t7 b0 n t8') (fun c0_ => some (Sum.inl c0_)) (fun c0_ c1_ => some (Sum.inr (c0_, c1_)))
theorem z8s (sn : Nat) (t7 : Int) (b0 : List Nat) (n : Nat) (t8 : Int) : z0m sn t7 b0 (n + 1) t8 = z18 sn t7 b0  t8  (fun t8' => z0m sn t7 b0 n t8') (fun c0_ => some (Sum.inl c0_)) (fun c0_ c1_ => some (Sum.inr (c0_, c1_))) := rfl
noncomputable def z2k (sn : Nat) (t7 : Int) (b0 : List Nat) (t8 : Int) : Bool := (z0m sn t7 b0 big t8).isSome
noncomputable def z2g (sn : Nat) (t7 : Int) (b0 : List Nat) (t8 : Int) : Bool := oL (z0m sn t7 b0 big t8)
noncomputable def z44 (sn : Nat) (t7 : Int) (b0 : List Nat) (t8 : Int) : Int := ((tL (z0m sn t7 b0 big t8)).getD default)
noncomputable def z5x (sn : Nat) (t7 : Int) (b0 : List Nat) (t8 : Int) : Int := ((tR (z0m sn t7 b0 big t8)).getD default).1
noncomputable def z63 (sn : Nat) (t7 : Int) (b0 : List Nat) (t8 : Int) : Bool := ((tR (z0m sn t7 b0 big t8)).getD default).2
theorem ziv {sn : Nat} {t7 : Int} {b0 : List Nat} {t8 : Int} {m : Nat} {r : Int} (hm : m = big) (h : z0m sn t7 b0 m t8 = some (Sum.inl r)) : z2k sn t7 b0 t8 = true ∧ z2g sn t7 b0 t8 = true ∧ z44 sn t7 b0 t8 = r := by
  subst hm
  unfold z2k z2g z44
  rw [h]
  exact ⟨rfl, rfl, rfl⟩
theorem zix {sn : Nat} {t7 : Int} {b0 : List Nat} {t8 : Int} {m : Nat} {r : Int × Bool} (hm : m = big) (h : z0m sn t7 b0 m t8 = some (Sum.inr r)) : z2k sn t7 b0 t8 = true ∧ z2g sn t7 b0 t8 = false ∧ z5x sn t7 b0 t8 = r.1 ∧ z63 sn t7 b0 t8 = r.2 := by
  subst hm
  unfold z2k z2g z5x z63
  rw [h]
  exact ⟨rfl, rfl, rfl, rfl⟩
noncomputable def z15 {R : Type} (sn : Nat) (t7 : Int) (b0 : List Nat) (t8 : Int) (kn_ : Int → Option R) (k0_ : Int → Option R) (k1_ : Int → Bool → Option R) : Option R := (br (ltI t8 t7) (grd (okIx t8 sn) (grd (ze1 (gF b0 (ixO 0 t8 1))) (br (zcm (gF b0 (ixO 0 t8 1))) (k0_ t8) (kn_ (addI .i64 t8 1))))) (k1_ t8 (ltI t8 t7)))
theorem zey {R R' : Type} (o : Option R → Option R') (h0 : o none = none) (sn : Nat) (t7 : Int) (b0 : List Nat) (t8 : Int) (kn_ : Int → Option R) (k0_ : Int → Option R) (k1_ : Int → Bool → Option R) : z15 sn t7 b0 t8 (fun t8' => o (kn_ t8')) (fun c0_ => o (k0_ c0_)) (fun c0_ c1_ => o (k1_ c0_ c1_)) = o (z15 sn t7 b0 t8 kn_ k0_ k1_) := by
  unfold z15
  repeat (first | refine z0k h0 ?_ | refine z0r ?_ ?_ | rfl | exact h0.symm)
noncomputable def z0j (sn : Nat) (t7 : Int) (b0 : List Nat) : Nat → Int → Option ((Int) ⊕ (Int × Bool))
  | 0, _ => none
  | n + 1, t8 => z15 sn t7 b0  t8  (fun t8' => z0j sn t7 b0 n t8') (fun c0_ => some (Sum.inl c0_)) (fun c0_ c1_ => some (Sum.inr (c0_, c1_)))
theorem z8m (sn : Nat) (t7 : Int) (b0 : List Nat) (n : Nat) (t8 : Int) : z0j sn t7 b0 (n + 1) t8 = z15 sn t7 b0  t8  (fun t8' => z0j sn t7 b0 n t8') (fun c0_ => some (Sum.inl c0_)) (fun c0_ c1_ => some (Sum.inr (c0_, c1_))) := rfl
noncomputable def z2c (sn : Nat) (t7 : Int) (b0 : List Nat) (t8 : Int) : Bool := (z0j sn t7 b0 big t8).isSome
noncomputable def z26 (sn : Nat) (t7 : Int) (b0 : List Nat) (t8 : Int) : Bool := oL (z0j sn t7 b0 big t8)
noncomputable def z3w (sn : Nat) (t7 : Int) (b0 : List Nat) (t8 : Int) : Int := ((tL (z0j sn t7 b0 big t8)).getD default)
noncomputable def z5o (sn : Nat) (t7 : Int) (b0 : List Nat) (t8 : Int) : Int := ((tR (z0j sn t7 b0 big t8)).getD default).1
noncomputable def z5q (sn : Nat) (t7 : Int) (b0 : List Nat) (t8 : Int) : Bool := ((tR (z0j sn t7 b0 big t8)).getD default).2
theorem zfz {sn : Nat} {t7 : Int} {b0 : List Nat} {t8 : Int} {m : Nat} {r : Int} (hm : m = big) (h : z0j sn t7 b0 m t8 = some (Sum.inl r)) : z2c sn t7 b0 t8 = true ∧ z26 sn t7 b0 t8 = true ∧ z3w sn t7 b0 t8 = r := by
  subst hm
  unfold z2c z26 z3w
  rw [h]
  exact ⟨rfl, rfl, rfl⟩
theorem zg2 {sn : Nat} {t7 : Int} {b0 : List Nat} {t8 : Int} {m : Nat} {r : Int × Bool} (hm : m = big) (h : z0j sn t7 b0 m t8 = some (Sum.inr r)) : z2c sn t7 b0 t8 = true ∧ z26 sn t7 b0 t8 = false ∧ z5o sn t7 b0 t8 = r.1 ∧ z5q sn t7 b0 t8 = r.2 := by
  subst hm
  unfold z2c z26 z5o z5q
  rw [h]
  exact ⟨rfl, rfl, rfl, rfl⟩
noncomputable def ze9 {R : Type} (x : Nat) (k_ : Nat → Option R) : Option R := (grd (zgm (fcvV .f32 .f64 x)) (grd (zex (zbj (fcvV .f32 .f64 x))) (k_ (zap (zbj (fcvV .f32 .f64 x))))))
noncomputable def zbt (x : Nat) : Option (Nat) := ze9 x (fun c0_ => some c0_)
theorem y1y {R R' : Type} (o : Option R → Option R') (h0 : o none = none) (x : Nat) (k_ : Nat → Option R) : ze9 x (fun c0_ => o (k_ c0_)) = o (ze9 x k_) := by
  unfold ze9
  repeat (first | refine z0k h0 ?_ | refine z0r ?_ ?_ | rfl | exact h0.symm)
noncomputable def zbx (x : Nat) : Bool := (zbt x).isSome
noncomputable def z3u (x : Nat) : Nat := ((zbt x).getD default)
theorem zvy {x : Nat} {r : Nat} (h : zbt x = some r) : zbx x = true ∧ z3u x = r := by
  unfold zbx z3u
  rw [h]
  exact ⟨rfl, rfl⟩
noncomputable def z1t {R : Type} (q2x : Nat) (s1 : List Nat) (q2z : Nat) (s2 : List Nat) (k_ : Bool → Option R) : Option R := (br (neI (Int.ofNat q2x) (Int.ofNat q2z)) (k_ Bool.false) (grd (z13 q2z q2x (Int.ofNat q2x) s1 s2 0) (br (z12 q2z q2x (Int.ofNat q2x) s1 s2 0) (k_ Bool.false) (k_ Bool.true))))
noncomputable def z1s (q2x : Nat) (s1 : List Nat) (q2z : Nat) (s2 : List Nat) : Option (Bool) := z1t q2x s1 q2z s2 (fun c0_ => some c0_)
theorem zd9 {R R' : Type} (o : Option R → Option R') (h0 : o none = none) (q2x : Nat) (s1 : List Nat) (q2z : Nat) (s2 : List Nat) (k_ : Bool → Option R) : z1t q2x s1 q2z s2 (fun c0_ => o (k_ c0_)) = o (z1t q2x s1 q2z s2 k_) := by
  unfold z1t
  repeat (first | refine z0k h0 ?_ | refine z0r ?_ ?_ | rfl | exact h0.symm)
noncomputable def z3v (q2x : Nat) (s1 : List Nat) (q2z : Nat) (s2 : List Nat) : Bool := (z1s q2x s1 q2z s2).isSome
noncomputable def z3s (q2x : Nat) (s1 : List Nat) (q2z : Nat) (s2 : List Nat) : Bool := ((z1s q2x s1 q2z s2).getD default)
theorem zeo {q2x : Nat} {s1 : List Nat} {q2z : Nat} {s2 : List Nat} {r : Bool} (h : z1s q2x s1 q2z s2 = some r) : z3v q2x s1 q2z s2 = true ∧ z3s q2x s1 q2z s2 = r := by
  unfold z3v z3s
  rw [h]
  exact ⟨rfl, rfl⟩
noncomputable def z33 {R : Type} (s_n : Nat) (s : List Nat) (k_ : Int → Option R) : Option R := (grd (z2k s_n (Int.ofNat s_n) s 0) (br (z2g s_n (Int.ofNat s_n) s 0) (k_ (z44 s_n (Int.ofNat s_n) s 0)) (k_ (Int.negSucc 0))))
noncomputable def z32 (s_n : Nat) (s : List Nat) : Option (Int) := z33 s_n s (fun c0_ => some c0_)
theorem zj3 {R R' : Type} (o : Option R → Option R') (h0 : o none = none) (s_n : Nat) (s : List Nat) (k_ : Int → Option R) : z33 s_n s (fun c0_ => o (k_ c0_)) = o (z33 s_n s k_) := by
  unfold z33
  repeat (first | refine z0k h0 ?_ | refine z0r ?_ ?_ | rfl | exact h0.symm)
noncomputable def z55 (s_n : Nat) (s : List Nat) : Bool := (z32 s_n s).isSome
noncomputable def z53 (s_n : Nat) (s : List Nat) : Int := ((z32 s_n s).getD default)
theorem zky {s_n : Nat} {s : List Nat} {r : Int} (h : z32 s_n s = some r) : z55 s_n s = true ∧ z53 s_n s = r := by
  unfold z55 z53
  rw [h]
  exact ⟨rfl, rfl⟩
noncomputable def z2r {R : Type} (s_n : Nat) (s : List Nat) (k_ : Int → Option R) : Option R := (grd (z2c s_n (Int.ofNat s_n) s 0) (br (z26 s_n (Int.ofNat s_n) s 0) (k_ (z3w s_n (Int.ofNat s_n) s 0)) (k_ (Int.negSucc 0))))
noncomputable def z2u (s_n : Nat) (s : List Nat) : Option (Int) := z2r s_n s (fun c0_ => some c0_)
theorem zhn {R R' : Type} (o : Option R → Option R') (h0 : o none = none) (s_n : Nat) (s : List Nat) (k_ : Int → Option R) : z2r s_n s (fun c0_ => o (k_ c0_)) = o (z2r s_n s k_) := by
  unfold z2r
  repeat (first | refine z0k h0 ?_ | refine z0r ?_ ?_ | rfl | exact h0.symm)
noncomputable def z4y (s_n : Nat) (s : List Nat) : Bool := (z2u s_n s).isSome
noncomputable def z4k (s_n : Nat) (s : List Nat) : Int := ((z2u s_n s).getD default)
theorem zjx {s_n : Nat} {s : List Nat} {r : Int} (h : z2u s_n s = some r) : z4y s_n s = true ∧ z4k s_n s = r := by
  unfold z4y z4k
  rw [h]
  exact ⟨rfl, rfl⟩
noncomputable def z07 {R : Type} (s2n : Nat) (q23 : Nat) (t16 : Int) (b0 : List Nat) (b1 : List Nat) (t17 : Int) (kn_ : Int → Option R) (k0_ : Unit → Option R) (k1_ : Int → Bool → Option R) : Option R := (br (ltI t17 t16) (grd (okIx t17 q23) (grd (okIx t17 s2n) (grd (zgs (gF b0 (ixO 0 t17 3)) (gF b0 (Nat.succ (ixO 0 t17 3))) (gF b0 (Nat.succ (Nat.succ (ixO 0 t17 3)))) (gF b1 (ixO 0 t17 3)) (gF b1 (Nat.succ (ixO 0 t17 3))) (gF b1 (Nat.succ (Nat.succ (ixO 0 t17 3))))) (br (bnot (zfd (gF b0 (ixO 0 t17 3)) (gF b0 (Nat.succ (ixO 0 t17 3))) (gF b0 (Nat.succ (Nat.succ (ixO 0 t17 3)))) (gF b1 (ixO 0 t17 3)) (gF b1 (Nat.succ (ixO 0 t17 3))) (gF b1 (Nat.succ (Nat.succ (ixO 0 t17 3)))))) (k0_ ()) (kn_ (addI .i64 t17 1)))))) (k1_ t17 (ltI t17 t16)))
theorem z5w {R R' : Type} (o : Option R → Option R') (h0 : o none = none) (s2n : Nat) (q23 : Nat) (t16 : Int) (b0 : List Nat) (b1 : List Nat) (t17 : Int) (kn_ : Int → Option R) (k0_ : Unit → Option R) (k1_ : Int → Bool → Option R) : z07 s2n q23 t16 b0 b1 t17 (fun t17' => o (kn_ t17')) (fun _ => o (k0_ ())) (fun c0_ c1_ => o (k1_ c0_ c1_)) = o (z07 s2n q23 t16 b0 b1 t17 kn_ k0_ k1_) := by
  unfold z07
  repeat (first | refine z0k h0 ?_ | refine z0r ?_ ?_ | rfl | exact h0.symm)
noncomputable def z02 (s2n : Nat) (q23 : Nat) (t16 : Int) (b0 : List Nat) (b1 : List Nat) : Nat → Int → Option ((Unit) ⊕ (Int × Bool))
  | 0, _ => none
  | n + 1, t17 => z07 s2n q23 t16 b0 b1  t17  (fun t17' => z02 s2n q23 t16 b0 b1 n t17') (fun _ => some (Sum.inl ())) (fun c0_ c1_ => some (Sum.inr (c0_, c1_)))
theorem z31 (s2n : Nat) (q23 : Nat) (t16 : Int) (b0 : List Nat) (b1 : List Nat) (n : Nat) (t17 : Int) : z02 s2n q23 t16 b0 b1 (n + 1) t17 = z07 s2n q23 t16 b0 b1  t17  (fun t17' => z02 s2n q23 t16 b0 b1 n t17') (fun _ => some (Sum.inl ())) (fun c0_ c1_ => some (Sum.inr (c0_, c1_))) := rfl
noncomputable def z0e (s2n : Nat) (q23 : Nat) (t16 : Int) (b0 : List Nat) (b1 : List Nat) (t17 : Int) : Bool := (z02 s2n q23 t16 b0 b1 big t17).isSome
noncomputable def z0d (s2n : Nat) (q23 : Nat) (t16 : Int) (b0 : List Nat) (b1 : List Nat) (t17 : Int) : Bool := oL (z02 s2n q23 t16 b0 b1 big t17)
noncomputable def z1k (s2n : Nat) (q23 : Nat) (t16 : Int) (b0 : List Nat) (b1 : List Nat) (t17 : Int) : Int := ((tR (z02 s2n q23 t16 b0 b1 big t17)).getD default).1
noncomputable def z1l (s2n : Nat) (q23 : Nat) (t16 : Int) (b0 : List Nat) (b1 : List Nat) (t17 : Int) : Bool := ((tR (z02 s2n q23 t16 b0 b1 big t17)).getD default).2
theorem z65 {s2n : Nat} {q23 : Nat} {t16 : Int} {b0 : List Nat} {b1 : List Nat} {t17 : Int} {m : Nat} {r : Unit} (hm : m = big) (h : z02 s2n q23 t16 b0 b1 m t17 = some (Sum.inl r)) : z0e s2n q23 t16 b0 b1 t17 = true ∧ z0d s2n q23 t16 b0 b1 t17 = true := by
  subst hm
  unfold z0e z0d
  rw [h]
  exact ⟨rfl, rfl⟩
theorem z66 {s2n : Nat} {q23 : Nat} {t16 : Int} {b0 : List Nat} {b1 : List Nat} {t17 : Int} {m : Nat} {r : Int × Bool} (hm : m = big) (h : z02 s2n q23 t16 b0 b1 m t17 = some (Sum.inr r)) : z0e s2n q23 t16 b0 b1 t17 = true ∧ z0d s2n q23 t16 b0 b1 t17 = false ∧ z1k s2n q23 t16 b0 b1 t17 = r.1 ∧ z1l s2n q23 t16 b0 b1 t17 = r.2 := by
  subst hm
  unfold z0e z0d z1k z1l
  rw [h]
  exact ⟨rfl, rfl, rfl, rfl⟩
noncomputable def z1i {R : Type} (sn : Nat) (t7 : Int) (b0 : List Nat) (t8 : Int) (kn_ : Int → Option R) (k0_ : Int → Option R) (k1_ : Int → Bool → Option R) : Option R := (br (ltI t8 t7) (grd (okIx t8 sn) (grd (zjd (gF b0 (ixO 0 t8 1))) (br (zhu (gF b0 (ixO 0 t8 1))) (k0_ t8) (kn_ (addI .i64 t8 1))))) (k1_ t8 (ltI t8 t7)))
theorem zgw {R R' : Type} (o : Option R → Option R') (h0 : o none = none) (sn : Nat) (t7 : Int) (b0 : List Nat) (t8 : Int) (kn_ : Int → Option R) (k0_ : Int → Option R) (k1_ : Int → Bool → Option R) : z1i sn t7 b0 t8 (fun t8' => o (kn_ t8')) (fun c0_ => o (k0_ c0_)) (fun c0_ c1_ => o (k1_ c0_ c1_)) = o (z1i sn t7 b0 t8 kn_ k0_ k1_) := by
  unfold z1i
  repeat (first | refine z0k h0 ?_ | refine z0r ?_ ?_ | rfl | exact h0.symm)
noncomputable def z0n (sn : Nat) (t7 : Int) (b0 : List Nat) : Nat → Int → Option ((Int) ⊕ (Int × Bool))
  | 0, _ => none
  | n + 1, t8 => z1i sn t7 b0  t8  (fun t8' => z0n sn t7 b0 n t8') (fun c0_ => some (Sum.inl c0_)) (fun c0_ c1_ => some (Sum.inr (c0_, c1_)))
theorem z8z (sn : Nat) (t7 : Int) (b0 : List Nat) (n : Nat) (t8 : Int) : z0n sn t7 b0 (n + 1) t8 = z1i sn t7 b0  t8  (fun t8' => z0n sn t7 b0 n t8') (fun c0_ => some (Sum.inl c0_)) (fun c0_ c1_ => some (Sum.inr (c0_, c1_))) := rfl
noncomputable def z2v (sn : Nat) (t7 : Int) (b0 : List Nat) (t8 : Int) : Bool := (z0n sn t7 b0 big t8).isSome
noncomputable def z2l (sn : Nat) (t7 : Int) (b0 : List Nat) (t8 : Int) : Bool := oL (z0n sn t7 b0 big t8)
noncomputable def z4c (sn : Nat) (t7 : Int) (b0 : List Nat) (t8 : Int) : Int := ((tL (z0n sn t7 b0 big t8)).getD default)
noncomputable def z6b (sn : Nat) (t7 : Int) (b0 : List Nat) (t8 : Int) : Int := ((tR (z0n sn t7 b0 big t8)).getD default).1
noncomputable def z6a (sn : Nat) (t7 : Int) (b0 : List Nat) (t8 : Int) : Bool := ((tR (z0n sn t7 b0 big t8)).getD default).2
theorem zj2 {sn : Nat} {t7 : Int} {b0 : List Nat} {t8 : Int} {m : Nat} {r : Int} (hm : m = big) (h : z0n sn t7 b0 m t8 = some (Sum.inl r)) : z2v sn t7 b0 t8 = true ∧ z2l sn t7 b0 t8 = true ∧ z4c sn t7 b0 t8 = r := by
  subst hm
  unfold z2v z2l z4c
  rw [h]
  exact ⟨rfl, rfl, rfl⟩
theorem zj5 {sn : Nat} {t7 : Int} {b0 : List Nat} {t8 : Int} {m : Nat} {r : Int × Bool} (hm : m = big) (h : z0n sn t7 b0 m t8 = some (Sum.inr r)) : z2v sn t7 b0 t8 = true ∧ z2l sn t7 b0 t8 = false ∧ z6b sn t7 b0 t8 = r.1 ∧ z6a sn t7 b0 t8 = r.2 := by
  subst hm
  unfold z2v z2l z6b z6a
  rw [h]
  exact ⟨rfl, rfl, rfl, rfl⟩
noncomputable def z0p {R : Type} (q2x : Nat) (s1 : List Nat) (q2z : Nat) (s2 : List Nat) (k_ : Bool → Option R) : Option R := (br (neI (Int.ofNat q2x) (Int.ofNat q2z)) (k_ Bool.false) (grd (z0e q2z q2x (Int.ofNat q2x) s1 s2 0) (br (z0d q2z q2x (Int.ofNat q2x) s1 s2 0) (k_ Bool.false) (k_ Bool.true))))
noncomputable def z0o (q2x : Nat) (s1 : List Nat) (q2z : Nat) (s2 : List Nat) : Option (Bool) := z0p q2x s1 q2z s2 (fun c0_ => some c0_)
theorem z6e {R R' : Type} (o : Option R → Option R') (h0 : o none = none) (q2x : Nat) (s1 : List Nat) (q2z : Nat) (s2 : List Nat) (k_ : Bool → Option R) : z0p q2x s1 q2z s2 (fun c0_ => o (k_ c0_)) = o (z0p q2x s1 q2z s2 k_) := by
  unfold z0p
  repeat (first | refine z0k h0 ?_ | refine z0r ?_ ?_ | rfl | exact h0.symm)
noncomputable def z1a (q2x : Nat) (s1 : List Nat) (q2z : Nat) (s2 : List Nat) : Bool := (z0o q2x s1 q2z s2).isSome
noncomputable def z17 (q2x : Nat) (s1 : List Nat) (q2z : Nat) (s2 : List Nat) : Bool := ((z0o q2x s1 q2z s2).getD default)
theorem z6p {q2x : Nat} {s1 : List Nat} {q2z : Nat} {s2 : List Nat} {r : Bool} (h : z0o q2x s1 q2z s2 = some r) : z1a q2x s1 q2z s2 = true ∧ z17 q2x s1 q2z s2 = r := by
  unfold z1a z17
  rw [h]
  exact ⟨rfl, rfl⟩
noncomputable def zac {R : Type} (a_n : Nat) (a : List Nat) (b_n : Nat) (b : List Nat) (k_ : Bool → Option R) : Option R := (grd (z3v a_n (pF a 0 (muN a_n 1)) b_n (pF b 0 (muN b_n 1))) (k_ (z3s a_n (pF a 0 (muN a_n 1)) b_n (pF b 0 (muN b_n 1)))))
noncomputable def za1 (a_n : Nat) (a : List Nat) (b_n : Nat) (b : List Nat) : Option (Bool) := zac a_n a b_n b (fun c0_ => some c0_)
theorem zwc {R R' : Type} (o : Option R → Option R') (h0 : o none = none) (a_n : Nat) (a : List Nat) (b_n : Nat) (b : List Nat) (k_ : Bool → Option R) : zac a_n a b_n b (fun c0_ => o (k_ c0_)) = o (zac a_n a b_n b k_) := by
  unfold zac
  repeat (first | refine z0k h0 ?_ | refine z0r ?_ ?_ | rfl | exact h0.symm)
noncomputable def z9x (a_n : Nat) (a : List Nat) (b_n : Nat) (b : List Nat) : Bool := (za1 a_n a b_n b).isSome
noncomputable def z98 (a_n : Nat) (a : List Nat) (b_n : Nat) (b : List Nat) : Bool := ((za1 a_n a b_n b).getD default)
theorem zlu {a_n : Nat} {a : List Nat} {b_n : Nat} {b : List Nat} {r : Bool} (h : za1 a_n a b_n b = some r) : z9x a_n a b_n b = true ∧ z98 a_n a b_n b = r := by
  unfold z9x z98
  rw [h]
  exact ⟨rfl, rfl⟩
noncomputable def zjw {R : Type} (x : Nat) (k_ : Nat → Option R) : Option R := (grd (bnot (nanQ .f64 x)) (k_ (fint Ieee.Toward.down x)))
noncomputable def zkj (x : Nat) : Option (Nat) := zjw x (fun c0_ => some c0_)
theorem y4u {R R' : Type} (o : Option R → Option R') (h0 : o none = none) (x : Nat) (k_ : Nat → Option R) : zjw x (fun c0_ => o (k_ c0_)) = o (zjw x k_) := by
  unfold zjw
  repeat (first | refine z0k h0 ?_ | refine z0r ?_ ?_ | rfl | exact h0.symm)
noncomputable def zmp (x : Nat) : Bool := (zkj x).isSome
noncomputable def z9i (x : Nat) : Nat := ((zkj x).getD default)
theorem y0d {x : Nat} {r : Nat} (h : zkj x = some r) : zmp x = true ∧ z9i x = r := by
  unfold zmp z9i
  rw [h]
  exact ⟨rfl, rfl⟩
noncomputable def z39 {R : Type} (s_n : Nat) (s : List Nat) (k_ : Int → Option R) : Option R := (grd (z2v s_n (Int.ofNat s_n) s 0) (br (z2l s_n (Int.ofNat s_n) s 0) (k_ (z4c s_n (Int.ofNat s_n) s 0)) (k_ (Int.negSucc 0))))
noncomputable def z38 (s_n : Nat) (s : List Nat) : Option (Int) := z39 s_n s (fun c0_ => some c0_)
theorem zk3 {R R' : Type} (o : Option R → Option R') (h0 : o none = none) (s_n : Nat) (s : List Nat) (k_ : Int → Option R) : z39 s_n s (fun c0_ => o (k_ c0_)) = o (z39 s_n s k_) := by
  unfold z39
  repeat (first | refine z0k h0 ?_ | refine z0r ?_ ?_ | rfl | exact h0.symm)
noncomputable def z5l (s_n : Nat) (s : List Nat) : Bool := (z38 s_n s).isSome
noncomputable def z56 (s_n : Nat) (s : List Nat) : Int := ((z38 s_n s).getD default)
theorem zle {s_n : Nat} {s : List Nat} {r : Int} (h : z38 s_n s = some r) : z5l s_n s = true ∧ z56 s_n s = r := by
  unfold z5l z56
  rw [h]
  exact ⟨rfl, rfl⟩
noncomputable def z8v {R : Type} (u : Nat) (p : Nat) (k : Nat) (kn_ : Nat → Nat → Option R) (k0_ : Nat → Nat → Bool → Option R) : Option R := (br (fcmp .geq .f64 k 4607182418800017408) (kn_ (fop .sub .f64 4607182418800017408 (fop .quo .f64 (fop .mul .f64 u p) (fop .mul .f64 (fop .mul .f64 4611686018427387904 k) (fop .add .f64 (fop .mul .f64 4611686018427387904 k) 4607182418800017408)))) (fop .sub .f64 k 4607182418800017408)) (k0_ p k (fcmp .geq .f64 k 4607182418800017408)))
theorem y22 {R R' : Type} (o : Option R → Option R') (h0 : o none = none) (u : Nat) (p : Nat) (k : Nat) (kn_ : Nat → Nat → Option R) (k0_ : Nat → Nat → Bool → Option R) : z8v u p k (fun p' k' => o (kn_ p' k')) (fun c0_ c1_ c2_ => o (k0_ c0_ c1_ c2_)) = o (z8v u p k kn_ k0_) := by
  unfold z8v
  repeat (first | refine z0k h0 ?_ | refine z0r ?_ ?_ | rfl | exact h0.symm)
noncomputable def z4p (u : Nat) : Nat → Nat → Nat → Option ((Nat × Nat × Bool))
  | 0, _, _ => none
  | n + 1, p, k => z8v u  p k  (fun p' k' => z4p u n p' k') (fun c0_ c1_ c2_ => some (c0_, c1_, c2_))
theorem zr0 (u : Nat) (n : Nat) (p : Nat) (k : Nat) : z4p u (n + 1) p k = z8v u  p k  (fun p' k' => z4p u n p' k') (fun c0_ c1_ c2_ => some (c0_, c1_, c2_)) := rfl
noncomputable def zae (u : Nat) (p : Nat) (k : Nat) : Bool := (z4p u big p k).isSome
noncomputable def z7z (u : Nat) (p : Nat) (k : Nat) : Nat := ((z4p u big p k).getD default).1
noncomputable def zo1 (u : Nat) (p : Nat) (k : Nat) : Nat := ((z4p u big p k).getD default).2.1
noncomputable def znx (u : Nat) (p : Nat) (k : Nat) : Bool := ((z4p u big p k).getD default).2.2
theorem y4q {u : Nat} {p : Nat} {k : Nat} {m : Nat} {r : Nat × Nat × Bool} (hm : m = big) (h : z4p u m p k = some r) : zae u p k = true ∧ z7z u p k = r.1 ∧ zo1 u p k = r.2.1 ∧ znx u p k = r.2.2 := by
  subst hm
  unfold zae z7z zo1 znx
  rw [h]
  exact ⟨rfl, rfl, rfl, rfl⟩
noncomputable def zab {R : Type} (q2j : Nat) (q34 : List Nat) (q2p : Nat) (q3a : List Nat) (q2q : Nat) (q3b : List Nat) (q2k : Nat) (q33 : List Nat) (q2s : Nat) (q37 : List Nat) (q2r : Nat) (q38 : List Nat) (k_ : Bool → Option R) : Option R := (grd (z9x q2j (pF q34 0 (muN q2j 1)) q2k (pF q33 0 (muN q2k 1))) (br (z98 q2j (pF q34 0 (muN q2j 1)) q2k (pF q33 0 (muN q2k 1))) (grd (z9x q2p (pF q3a 0 (muN q2p 1)) q2s (pF q37 0 (muN q2s 1))) (br (z98 q2p (pF q3a 0 (muN q2p 1)) q2s (pF q37 0 (muN q2s 1))) (grd (z9x q2q (pF q3b 0 (muN q2q 1)) q2r (pF q38 0 (muN q2r 1))) (k_ (z98 q2q (pF q3b 0 (muN q2q 1)) q2r (pF q38 0 (muN q2r 1))))) (k_ Bool.false))) (k_ Bool.false)))
noncomputable def zad (q2j : Nat) (q34 : List Nat) (q2p : Nat) (q3a : List Nat) (q2q : Nat) (q3b : List Nat) (q2k : Nat) (q33 : List Nat) (q2s : Nat) (q37 : List Nat) (q2r : Nat) (q38 : List Nat) : Option (Bool) := zab q2j q34 q2p q3a q2q q3b q2k q33 q2s q37 q2r q38 (fun c0_ => some c0_)
theorem zwg {R R' : Type} (o : Option R → Option R') (h0 : o none = none) (q2j : Nat) (q34 : List Nat) (q2p : Nat) (q3a : List Nat) (q2q : Nat) (q3b : List Nat) (q2k : Nat) (q33 : List Nat) (q2s : Nat) (q37 : List Nat) (q2r : Nat) (q38 : List Nat) (k_ : Bool → Option R) : zab q2j q34 q2p q3a q2q q3b q2k q33 q2s q37 q2r q38 (fun c0_ => o (k_ c0_)) = o (zab q2j q34 q2p q3a q2q q3b q2k q33 q2s q37 q2r q38 k_) := by
  unfold zab
  repeat (first | refine z0k h0 ?_ | refine z0r ?_ ?_ | rfl | exact h0.symm)
noncomputable def zgv (q2j : Nat) (q34 : List Nat) (q2p : Nat) (q3a : List Nat) (q2q : Nat) (q3b : List Nat) (q2k : Nat) (q33 : List Nat) (q2s : Nat) (q37 : List Nat) (q2r : Nat) (q38 : List Nat) : Bool := (zad q2j q34 q2p q3a q2q q3b q2k q33 q2s q37 q2r q38).isSome
noncomputable def zfl (q2j : Nat) (q34 : List Nat) (q2p : Nat) (q3a : List Nat) (q2q : Nat) (q3b : List Nat) (q2k : Nat) (q33 : List Nat) (q2s : Nat) (q37 : List Nat) (q2r : Nat) (q38 : List Nat) : Bool := ((zad q2j q34 q2p q3a q2q q3b q2k q33 q2s q37 q2r q38).getD default)
theorem y0l {q2j : Nat} {q34 : List Nat} {q2p : Nat} {q3a : List Nat} {q2q : Nat} {q3b : List Nat} {q2k : Nat} {q33 : List Nat} {q2s : Nat} {q37 : List Nat} {q2r : Nat} {q38 : List Nat} {r : Bool} (h : zad q2j q34 q2p q3a q2q q3b q2k q33 q2s q37 q2r q38 = some r) : zgv q2j q34 q2p q3a q2q q3b q2k q33 q2s q37 q2r q38 = true ∧ zfl q2j q34 q2p q3a q2q q3b q2k q33 q2s q37 q2r q38 = r := by
  unfold zgv zfl
  rw [h]
  exact ⟨rfl, rfl⟩
noncomputable def zln {R : Type} (q26 : Nat) (k_ : Nat → Option R) : Option R := (grd (zjq q26) (br (fcmp .geq .f64 (z0z q26) 4602678819172646912) (br (fcmp .gtr .f64 (fop .sub .f64 (z0z q26) 4602678819172646912) 4598175219545276416) (grd (zae (fop .mul .f64 (fop .mul .f64 (fop .sub .f64 4602678819172646912 (fop .sub .f64 (z0z q26) 4602678819172646912)) 4618760256179416344) (fop .mul .f64 (fop .sub .f64 4602678819172646912 (fop .sub .f64 (z0z q26) 4602678819172646912)) 4618760256179416344)) 4607182418800017408 4620693217682128896) (k_ (fneg .f64 (fop .mul .f64 (fop .mul .f64 (fop .sub .f64 4602678819172646912 (fop .sub .f64 (z0z q26) 4602678819172646912)) 4618760256179416344) (z7z (fop .mul .f64 (fop .mul .f64 (fop .sub .f64 4602678819172646912 (fop .sub .f64 (z0z q26) 4602678819172646912)) 4618760256179416344) (fop .mul .f64 (fop .sub .f64 4602678819172646912 (fop .sub .f64 (z0z q26) 4602678819172646912)) 4618760256179416344)) 4607182418800017408 4620693217682128896))))) (grd (zae (fop .mul .f64 (fop .mul .f64 (fop .sub .f64 (z0z q26) 4602678819172646912) 4618760256179416344) (fop .mul .f64 (fop .sub .f64 (z0z q26) 4602678819172646912) 4618760256179416344)) 4607182418800017408 4620693217682128896) (k_ (fneg .f64 (fop .mul .f64 (fop .mul .f64 (fop .sub .f64 (z0z q26) 4602678819172646912) 4618760256179416344) (z7z (fop .mul .f64 (fop .mul .f64 (fop .sub .f64 (z0z q26) 4602678819172646912) 4618760256179416344) (fop .mul .f64 (fop .sub .f64 (z0z q26) 4602678819172646912) 4618760256179416344)) 4607182418800017408 4620693217682128896)))))) (br (fcmp .gtr .f64 (z0z q26) 4598175219545276416) (grd (zae (fop .mul .f64 (fop .mul .f64 (fop .sub .f64 4602678819172646912 (z0z q26)) 4618760256179416344) (fop .mul .f64 (fop .sub .f64 4602678819172646912 (z0z q26)) 4618760256179416344)) 4607182418800017408 4620693217682128896) (k_ (fop .mul .f64 (fop .mul .f64 (fop .sub .f64 4602678819172646912 (z0z q26)) 4618760256179416344) (z7z (fop .mul .f64 (fop .mul .f64 (fop .sub .f64 4602678819172646912 (z0z q26)) 4618760256179416344) (fop .mul .f64 (fop .sub .f64 4602678819172646912 (z0z q26)) 4618760256179416344)) 4607182418800017408 4620693217682128896)))) (grd (zae (fop .mul .f64 (fop .mul .f64 (z0z q26) 4618760256179416344) (fop .mul .f64 (z0z q26) 4618760256179416344)) 4607182418800017408 4620693217682128896) (k_ (fop .mul .f64 (fop .mul .f64 (z0z q26) 4618760256179416344) (z7z (fop .mul .f64 (fop .mul .f64 (z0z q26) 4618760256179416344) (fop .mul .f64 (z0z q26) 4618760256179416344)) 4607182418800017408 4620693217682128896)))))))
noncomputable def zll (q26 : Nat) : Option (Nat) := zln q26 (fun c0_ => some c0_)
theorem y67 {R R' : Type} (o : Option R → Option R') (h0 : o none = none) (q26 : Nat) (k_ : Nat → Option R) : zln q26 (fun c0_ => o (k_ c0_)) = o (zln q26 k_) := by
  unfold zln
  repeat (first | refine z0k h0 ?_ | refine z0r ?_ ?_ | rfl | exact h0.symm)
noncomputable def zru (q26 : Nat) : Bool := (zll q26).isSome
noncomputable def zmd (q26 : Nat) : Nat := ((zll q26).getD default)
theorem y9d {q26 : Nat} {r : Nat} (h : zll q26 = some r) : zru q26 = true ∧ zmd q26 = r := by
  unfold zru zmd
  rw [h]
  exact ⟨rfl, rfl⟩
noncomputable def zc5 {R : Type} (x : Nat) (k_ : Nat → Option R) : Option R := (grd (zmp (fop .add .f64 (fcvV .f32 .f64 x) 4602678819172646912)) (grd (fcvB .f64 .f32 (fop .sub .f64 (fcvV .f32 .f64 x) (z9i (fop .add .f64 (fcvV .f32 .f64 x) 4602678819172646912)))) (br (fcmp .geq .f32 (fcvV .f64 .f32 (fop .sub .f64 (fcvV .f32 .f64 x) (z9i (fop .add .f64 (fcvV .f32 .f64 x) 4602678819172646912)))) 1056964608) (k_ 3204448256) (k_ (fcvV .f64 .f32 (fop .sub .f64 (fcvV .f32 .f64 x) (z9i (fop .add .f64 (fcvV .f32 .f64 x) 4602678819172646912))))))))
noncomputable def zbz (x : Nat) : Option (Nat) := zc5 x (fun c0_ => some c0_)
theorem zzr {R R' : Type} (o : Option R → Option R') (h0 : o none = none) (x : Nat) (k_ : Nat → Option R) : zc5 x (fun c0_ => o (k_ c0_)) = o (zc5 x k_) := by
  unfold zc5
  repeat (first | refine z0k h0 ?_ | refine z0r ?_ ?_ | rfl | exact h0.symm)
noncomputable def zkx (x : Nat) : Bool := (zbz x).isSome
noncomputable def z2e (x : Nat) : Nat := ((zbz x).getD default)
theorem y3d {x : Nat} {r : Nat} (h : zbz x = some r) : zkx x = true ∧ z2e x = r := by
  unfold zkx z2e
  rw [h]
  exact ⟨rfl, rfl⟩
noncomputable def z2j {R : Type} (s_n : Nat) (s : List Nat) (k_ : Bool → Option R) : Option R := (grd (z55 s_n (pF s 0 (muN s_n 1))) (k_ (leI 0 (z53 s_n (pF s 0 (muN s_n 1))))))
noncomputable def z2i (s_n : Nat) (s : List Nat) : Option (Bool) := z2j s_n s (fun c0_ => some c0_)
theorem zfx {R R' : Type} (o : Option R → Option R') (h0 : o none = none) (s_n : Nat) (s : List Nat) (k_ : Bool → Option R) : z2j s_n s (fun c0_ => o (k_ c0_)) = o (z2j s_n s k_) := by
  unfold z2j
  repeat (first | refine z0k h0 ?_ | refine z0r ?_ ?_ | rfl | exact h0.symm)
noncomputable def z4r (s_n : Nat) (s : List Nat) : Bool := (z2i s_n s).isSome
noncomputable def z4h (s_n : Nat) (s : List Nat) : Bool := ((z2i s_n s).getD default)
theorem zj0 {s_n : Nat} {s : List Nat} {r : Bool} (h : z2i s_n s = some r) : z4r s_n s = true ∧ z4h s_n s = r := by
  unfold z4r z4h
  rw [h]
  exact ⟨rfl, rfl⟩
noncomputable def z2a {R : Type} (s_n : Nat) (s : List Nat) (k_ : Bool → Option R) : Option R := (grd (z4y s_n (pF s 0 (muN s_n 1))) (k_ (leI 0 (z4k s_n (pF s 0 (muN s_n 1))))))
noncomputable def z29 (s_n : Nat) (s : List Nat) : Option (Bool) := z2a s_n s (fun c0_ => some c0_)
theorem zf1 {R R' : Type} (o : Option R → Option R') (h0 : o none = none) (s_n : Nat) (s : List Nat) (k_ : Bool → Option R) : z2a s_n s (fun c0_ => o (k_ c0_)) = o (z2a s_n s k_) := by
  unfold z2a
  repeat (first | refine z0k h0 ?_ | refine z0r ?_ ?_ | rfl | exact h0.symm)
noncomputable def z4e (s_n : Nat) (s : List Nat) : Bool := (z29 s_n s).isSome
noncomputable def z43 (s_n : Nat) (s : List Nat) : Bool := ((z29 s_n s).getD default)
theorem zgx {s_n : Nat} {s : List Nat} {r : Bool} (h : z29 s_n s = some r) : z4e s_n s = true ∧ z43 s_n s = r := by
  unfold z4e z43
  rw [h]
  exact ⟨rfl, rfl⟩
noncomputable def z2t {R : Type} (s_n : Nat) (s : List Nat) (k_ : Bool → Option R) : Option R := (grd (z5l s_n (pF s 0 (muN s_n 1))) (k_ (leI 0 (z56 s_n (pF s 0 (muN s_n 1))))))
noncomputable def z2w (s_n : Nat) (s : List Nat) : Option (Bool) := z2t s_n s (fun c0_ => some c0_)
theorem zh5 {R R' : Type} (o : Option R → Option R') (h0 : o none = none) (s_n : Nat) (s : List Nat) (k_ : Bool → Option R) : z2t s_n s (fun c0_ => o (k_ c0_)) = o (z2t s_n s k_) := by
  unfold z2t
  repeat (first | refine z0k h0 ?_ | refine z0r ?_ ?_ | rfl | exact h0.symm)
noncomputable def z4w (s_n : Nat) (s : List Nat) : Bool := (z2w s_n s).isSome
noncomputable def z4l (s_n : Nat) (s : List Nat) : Bool := ((z2w s_n s).getD default)
theorem zk7 {s_n : Nat} {s : List Nat} {r : Bool} (h : z2w s_n s = some r) : z4w s_n s = true ∧ z4l s_n s = r := by
  unfold z4w z4l
  rw [h]
  exact ⟨rfl, rfl⟩
noncomputable def zxu {R : Type} (x : Nat) (k_ : Nat → Option R) : Option R := (grd (zmp (fop .add .f64 (fcvV .f32 .f64 x) 4602678819172646912)) (grd (zex (fop .sub .f64 (fcvV .f32 .f64 x) (z9i (fop .add .f64 (fcvV .f32 .f64 x) 4602678819172646912)))) (br (fcmp .geq .f32 (zap (fop .sub .f64 (fcvV .f32 .f64 x) (z9i (fop .add .f64 (fcvV .f32 .f64 x) 4602678819172646912)))) 1056964608) (k_ 3204448256) (k_ (zap (fop .sub .f64 (fcvV .f32 .f64 x) (z9i (fop .add .f64 (fcvV .f32 .f64 x) 4602678819172646912))))))))
noncomputable def zk0 (x : Nat) : Option (Nat) := zxu x (fun c0_ => some c0_)
noncomputable def zrq (x : Nat) : Bool := (zk0 x).isSome
noncomputable def z01 (x : Nat) : Nat := ((zk0 x).getD default)
theorem y63 {x : Nat} {r : Nat} (h : zk0 x = some r) : zrq x = true ∧ z01 x = r := by
  unfold zrq z01
  rw [h]
  exact ⟨rfl, rfl⟩
noncomputable def z64 {R : Type} (q0u : Int) (k : Int) (q1f : Nat) (q1h : Nat) (q1g : Nat) (b2 : List Nat) (b3 : List Nat) (b4 : List Nat) (kn_ : Int → Nat → Nat → Nat → (List Nat) → (List Nat) → (List Nat) → Option R) (k0_ : Int → Bool → Nat → Nat → Nat → (List Nat) → (List Nat) → (List Nat) → Option R) : Option R := (br (ltI k q0u) (grd (zbx (fop .sub .f32 (fop .quo .f32 (fOI .f32 k) (fOI .f32 (subI .i64 q0u 1))) 1056964608)) (grd (zbx (fop .add .f32 (fop .sub .f32 (fop .quo .f32 (fOI .f32 k) (fOI .f32 (subI .i64 q0u 1))) 1056964608) 1048576000)) (grd (okA2 q1f 1 4 (nF (pF [(fop .sub .f32 (fop .quo .f32 (fOI .f32 k) (fOI .f32 (subI .i64 q0u 1))) 1056964608)] 0 (muN 1 1))) (nF b2) 1) (grd (okA2 q1h 1 4 (nF (pF [(fop .mul .f32 (fop .mul .f32 1073741824 (z3u (fop .sub .f32 (fop .quo .f32 (fOI .f32 k) (fOI .f32 (subI .i64 q0u 1))) 1056964608))) (z3u (fop .add .f32 (fop .sub .f32 (fop .quo .f32 (fOI .f32 k) (fOI .f32 (subI .i64 q0u 1))) 1056964608) 1048576000)))] 0 (muN 1 1))) (nF b3) 1) (grd (okA2 q1g 1 4 (nF (pF [(fop .mul .f32 (fop .mul .f32 1073741824 (z3u (fop .sub .f32 (fop .quo .f32 (fOI .f32 k) (fOI .f32 (subI .i64 q0u 1))) 1056964608))) (z3u (fop .sub .f32 (fop .quo .f32 (fOI .f32 k) (fOI .f32 (subI .i64 q0u 1))) 1056964608)))] 0 (muN 1 1))) (nF b4) 1) (kn_ (addI .i64 k 1) (adN q1f 1) (adN q1h 1) (adN q1g 1) (aF b2 (pF [(fop .sub .f32 (fop .quo .f32 (fOI .f32 k) (fOI .f32 (subI .i64 q0u 1))) 1056964608)] 0 (muN 1 1))) (aF b3 (pF [(fop .mul .f32 (fop .mul .f32 1073741824 (z3u (fop .sub .f32 (fop .quo .f32 (fOI .f32 k) (fOI .f32 (subI .i64 q0u 1))) 1056964608))) (z3u (fop .add .f32 (fop .sub .f32 (fop .quo .f32 (fOI .f32 k) (fOI .f32 (subI .i64 q0u 1))) 1056964608) 1048576000)))] 0 (muN 1 1))) (aF b4 (pF [(fop .mul .f32 (fop .mul .f32 1073741824 (z3u (fop .sub .f32 (fop .quo .f32 (fOI .f32 k) (fOI .f32 (subI .i64 q0u 1))) 1056964608))) (z3u (fop .sub .f32 (fop .quo .f32 (fOI .f32 k) (fOI .f32 (subI .i64 q0u 1))) 1056964608)))] 0 (muN 1 1))))))))) (k0_ k (ltI k q0u) q1f q1h q1g b2 b3 b4))
theorem zws {R R' : Type} (o : Option R → Option R') (h0 : o none = none) (q0u : Int) (k : Int) (q1f : Nat) (q1h : Nat) (q1g : Nat) (b2 : List Nat) (b3 : List Nat) (b4 : List Nat) (kn_ : Int → Nat → Nat → Nat → (List Nat) → (List Nat) → (List Nat) → Option R) (k0_ : Int → Bool → Nat → Nat → Nat → (List Nat) → (List Nat) → (List Nat) → Option R) : z64 q0u k q1f q1h q1g b2 b3 b4 (fun k' q1f' q1h' q1g' b2' b3' b4' => o (kn_ k' q1f' q1h' q1g' b2' b3' b4')) (fun c0_ c1_ c2_ c3_ c4_ c5_ c6_ c7_ => o (k0_ c0_ c1_ c2_ c3_ c4_ c5_ c6_ c7_)) = o (z64 q0u k q1f q1h q1g b2 b3 b4 kn_ k0_) := by
  unfold z64
  repeat (first | refine z0k h0 ?_ | refine z0r ?_ ?_ | rfl | exact h0.symm)
noncomputable def z1h (q0u : Int) : Nat → Int → Nat → Nat → Nat → (List Nat) → (List Nat) → (List Nat) → Option ((Int × Bool × Nat × Nat × Nat × (List Nat) × (List Nat) × (List Nat)))
  | 0, _, _, _, _, _, _, _ => none
  | n + 1, k, q1f, q1h, q1g, b2, b3, b4 => z64 q0u  k q1f q1h q1g b2 b3 b4  (fun k' q1f' q1h' q1g' b2' b3' b4' => z1h q0u n k' q1f' q1h' q1g' b2' b3' b4') (fun c0_ c1_ c2_ c3_ c4_ c5_ c6_ c7_ => some (c0_, c1_, c2_, c3_, c4_, c5_, c6_, c7_))
theorem znj (q0u : Int) (n : Nat) (k : Int) (q1f : Nat) (q1h : Nat) (q1g : Nat) (b2 : List Nat) (b3 : List Nat) (b4 : List Nat) : z1h q0u (n + 1) k q1f q1h q1g b2 b3 b4 = z64 q0u  k q1f q1h q1g b2 b3 b4  (fun k' q1f' q1h' q1g' b2' b3' b4' => z1h q0u n k' q1f' q1h' q1g' b2' b3' b4') (fun c0_ c1_ c2_ c3_ c4_ c5_ c6_ c7_ => some (c0_, c1_, c2_, c3_, c4_, c5_, c6_, c7_)) := rfl
noncomputable def zh4 (q0u : Int) (k : Int) (q1f : Nat) (q1h : Nat) (q1g : Nat) (b2 : List Nat) (b3 : List Nat) (b4 : List Nat) : Bool := (z1h q0u big k q1f q1h q1g b2 b3 b4).isSome
noncomputable def zkg (q0u : Int) (k : Int) (q1f : Nat) (q1h : Nat) (q1g : Nat) (b2 : List Nat) (b3 : List Nat) (b4 : List Nat) : Int := ((z1h q0u big k q1f q1h q1g b2 b3 b4).getD default).1
noncomputable def zke (q0u : Int) (k : Int) (q1f : Nat) (q1h : Nat) (q1g : Nat) (b2 : List Nat) (b3 : List Nat) (b4 : List Nat) : Bool := ((z1h q0u big k q1f q1h q1g b2 b3 b4).getD default).2.1
noncomputable def zcr (q0u : Int) (k : Int) (q1f : Nat) (q1h : Nat) (q1g : Nat) (b2 : List Nat) (b3 : List Nat) (b4 : List Nat) : Nat := ((z1h q0u big k q1f q1h q1g b2 b3 b4).getD default).2.2.1
noncomputable def zct (q0u : Int) (k : Int) (q1f : Nat) (q1h : Nat) (q1g : Nat) (b2 : List Nat) (b3 : List Nat) (b4 : List Nat) : Nat := ((z1h q0u big k q1f q1h q1g b2 b3 b4).getD default).2.2.2.1
noncomputable def zcq (q0u : Int) (k : Int) (q1f : Nat) (q1h : Nat) (q1g : Nat) (b2 : List Nat) (b3 : List Nat) (b4 : List Nat) : Nat := ((z1h q0u big k q1f q1h q1g b2 b3 b4).getD default).2.2.2.2.1
noncomputable def zd0 (q0u : Int) (k : Int) (q1f : Nat) (q1h : Nat) (q1g : Nat) (b2 : List Nat) (b3 : List Nat) (b4 : List Nat) : List Nat := ((z1h q0u big k q1f q1h q1g b2 b3 b4).getD default).2.2.2.2.2.1
noncomputable def zcl (q0u : Int) (k : Int) (q1f : Nat) (q1h : Nat) (q1g : Nat) (b2 : List Nat) (b3 : List Nat) (b4 : List Nat) : List Nat := ((z1h q0u big k q1f q1h q1g b2 b3 b4).getD default).2.2.2.2.2.2.1
noncomputable def zcz (q0u : Int) (k : Int) (q1f : Nat) (q1h : Nat) (q1g : Nat) (b2 : List Nat) (b3 : List Nat) (b4 : List Nat) : List Nat := ((z1h q0u big k q1f q1h q1g b2 b3 b4).getD default).2.2.2.2.2.2.2
theorem zz8 {q0u : Int} {k : Int} {q1f : Nat} {q1h : Nat} {q1g : Nat} {b2 : List Nat} {b3 : List Nat} {b4 : List Nat} {m : Nat} {r : Int × Bool × Nat × Nat × Nat × (List Nat) × (List Nat) × (List Nat)} (hm : m = big) (h : z1h q0u m k q1f q1h q1g b2 b3 b4 = some r) : zh4 q0u k q1f q1h q1g b2 b3 b4 = true ∧ zkg q0u k q1f q1h q1g b2 b3 b4 = r.1 ∧ zke q0u k q1f q1h q1g b2 b3 b4 = r.2.1 ∧ zcr q0u k q1f q1h q1g b2 b3 b4 = r.2.2.1 ∧ zct q0u k q1f q1h q1g b2 b3 b4 = r.2.2.2.1 ∧ zcq q0u k q1f q1h q1g b2 b3 b4 = r.2.2.2.2.1 ∧ zd0 q0u k q1f q1h q1g b2 b3 b4 = r.2.2.2.2.2.1 ∧ zcl q0u k q1f q1h q1g b2 b3 b4 = r.2.2.2.2.2.2.1 ∧ zcz q0u k q1f q1h q1g b2 b3 b4 = r.2.2.2.2.2.2.2 := by
  subst hm
  unfold zh4 zkg zke zcr zct zcq zd0 zcl zcz
  rw [h]
  exact ⟨rfl, rfl, rfl, rfl, rfl, rfl, rfl, rfl, rfl⟩
noncomputable def zc1 {R : Type} (q1l : Nat) (q20 : List Nat) (q1s : Nat) (q28 : List Nat) (q1u : Nat) (q25 : List Nat) (q2b : Nat) (q2m : List Nat) (q3h : Int) (q3p : Nat) (q3o : Nat) (q1k : Nat) (q1z : List Nat) (q1r : Nat) (q27 : List Nat) (q1t : Nat) (q24 : List Nat) (q2c : Nat) (q2l : List Nat) (q3g : Int) (q3n : Nat) (q3q : Nat) (k_ : Bool → Option R) : Option R := (grd (zgv q1l (pF q20 0 (muN q1l 1)) q1s (pF q28 0 (muN q1s 1)) q1u (pF q25 0 (muN q1u 1)) q1k (pF q1z 0 (muN q1k 1)) q1r (pF q27 0 (muN q1r 1)) q1t (pF q24 0 (muN q1t 1))) (br (zfl q1l (pF q20 0 (muN q1l 1)) q1s (pF q28 0 (muN q1s 1)) q1u (pF q25 0 (muN q1u 1)) q1k (pF q1z 0 (muN q1k 1)) q1r (pF q27 0 (muN q1r 1)) q1t (pF q24 0 (muN q1t 1))) (grd (z1a q2b (pF q2m 0 (muN q2b 3)) q2c (pF q2l 0 (muN q2c 3))) (br (z17 q2b (pF q2m 0 (muN q2b 3)) q2c (pF q2l 0 (muN q2c 3))) (br (eqI q3h q3g) (grd (z6q q3p q3n) (br (z62 q3p q3n) (grd (z6q q3o q3q) (k_ (z62 q3o q3q))) (k_ Bool.false))) (k_ Bool.false)) (k_ Bool.false))) (k_ Bool.false)))
noncomputable def z9v (q1l : Nat) (q20 : List Nat) (q1s : Nat) (q28 : List Nat) (q1u : Nat) (q25 : List Nat) (q2b : Nat) (q2m : List Nat) (q3h : Int) (q3p : Nat) (q3o : Nat) (q1k : Nat) (q1z : List Nat) (q1r : Nat) (q27 : List Nat) (q1t : Nat) (q24 : List Nat) (q2c : Nat) (q2l : List Nat) (q3g : Int) (q3n : Nat) (q3q : Nat) : Option (Bool) := zc1 q1l q20 q1s q28 q1u q25 q2b q2m q3h q3p q3o q1k q1z q1r q27 q1t q24 q2c q2l q3g q3n q3q (fun c0_ => some c0_)
theorem y02 {R R' : Type} (o : Option R → Option R') (h0 : o none = none) (q1l : Nat) (q20 : List Nat) (q1s : Nat) (q28 : List Nat) (q1u : Nat) (q25 : List Nat) (q2b : Nat) (q2m : List Nat) (q3h : Int) (q3p : Nat) (q3o : Nat) (q1k : Nat) (q1z : List Nat) (q1r : Nat) (q27 : List Nat) (q1t : Nat) (q24 : List Nat) (q2c : Nat) (q2l : List Nat) (q3g : Int) (q3n : Nat) (q3q : Nat) (k_ : Bool → Option R) : zc1 q1l q20 q1s q28 q1u q25 q2b q2m q3h q3p q3o q1k q1z q1r q27 q1t q24 q2c q2l q3g q3n q3q (fun c0_ => o (k_ c0_)) = o (zc1 q1l q20 q1s q28 q1u q25 q2b q2m q3h q3p q3o q1k q1z q1r q27 q1t q24 q2c q2l q3g q3n q3q k_) := by
  unfold zc1
  repeat (first | refine z0k h0 ?_ | refine z0r ?_ ?_ | rfl | exact h0.symm)
noncomputable def zkz (q1l : Nat) (q20 : List Nat) (q1s : Nat) (q28 : List Nat) (q1u : Nat) (q25 : List Nat) (q2b : Nat) (q2m : List Nat) (q3h : Int) (q3p : Nat) (q3o : Nat) (q1k : Nat) (q1z : List Nat) (q1r : Nat) (q27 : List Nat) (q1t : Nat) (q24 : List Nat) (q2c : Nat) (q2l : List Nat) (q3g : Int) (q3n : Nat) (q3q : Nat) : Bool := (z9v q1l q20 q1s q28 q1u q25 q2b q2m q3h q3p q3o q1k q1z q1r q27 q1t q24 q2c q2l q3g q3n q3q).isSome
noncomputable def zjl (q1l : Nat) (q20 : List Nat) (q1s : Nat) (q28 : List Nat) (q1u : Nat) (q25 : List Nat) (q2b : Nat) (q2m : List Nat) (q3h : Int) (q3p : Nat) (q3o : Nat) (q1k : Nat) (q1z : List Nat) (q1r : Nat) (q27 : List Nat) (q1t : Nat) (q24 : List Nat) (q2c : Nat) (q2l : List Nat) (q3g : Int) (q3n : Nat) (q3q : Nat) : Bool := ((z9v q1l q20 q1s q28 q1u q25 q2b q2m q3h q3p q3o q1k q1z q1r q27 q1t q24 q2c q2l q3g q3n q3q).getD default)
theorem y3c {q1l : Nat} {q20 : List Nat} {q1s : Nat} {q28 : List Nat} {q1u : Nat} {q25 : List Nat} {q2b : Nat} {q2m : List Nat} {q3h : Int} {q3p : Nat} {q3o : Nat} {q1k : Nat} {q1z : List Nat} {q1r : Nat} {q27 : List Nat} {q1t : Nat} {q24 : List Nat} {q2c : Nat} {q2l : List Nat} {q3g : Int} {q3n : Nat} {q3q : Nat} {r : Bool} (h : z9v q1l q20 q1s q28 q1u q25 q2b q2m q3h q3p q3o q1k q1z q1r q27 q1t q24 q2c q2l q3g q3n q3q = some r) : zkz q1l q20 q1s q28 q1u q25 q2b q2m q3h q3p q3o q1k q1z q1r q27 q1t q24 q2c q2l q3g q3n q3q = true ∧ zjl q1l q20 q1s q28 q1u q25 q2b q2m q3h q3p q3o q1k q1z q1r q27 q1t q24 q2c q2l q3g q3n q3q = r := by
  unfold zkz zjl
  rw [h]
  exact ⟨rfl, rfl⟩
noncomputable def zc0 {R : Type} (q0z : Nat) (q1y : List Nat) (k_ : Bool → Option R) : Option R := (grd (z4r q0z (pF q1y 0 (muN q0z 1))) (k_ (bnot (z4h q0z (pF q1y 0 (muN q0z 1))))))
noncomputable def z9r (q0z : Nat) (q1y : List Nat) : Option (Bool) := zc0 q0z q1y (fun c0_ => some c0_)
theorem zyu {R R' : Type} (o : Option R → Option R') (h0 : o none = none) (q0z : Nat) (q1y : List Nat) (k_ : Bool → Option R) : zc0 q0z q1y (fun c0_ => o (k_ c0_)) = o (zc0 q0z q1y k_) := by
  unfold zc0
  repeat (first | refine z0k h0 ?_ | refine z0r ?_ ?_ | rfl | exact h0.symm)
noncomputable def zet (q0z : Nat) (q1y : List Nat) : Bool := (z9r q0z q1y).isSome
noncomputable def zdo (q0z : Nat) (q1y : List Nat) : Bool := ((z9r q0z q1y).getD default)
theorem zt4 {q0z : Nat} {q1y : List Nat} {r : Bool} (h : z9r q0z q1y = some r) : zet q0z q1y = true ∧ zdo q0z q1y = r := by
  unfold zet zdo
  rw [h]
  exact ⟨rfl, rfl⟩
noncomputable def za7 {R : Type} (q0z : Nat) (q1y : List Nat) (k_ : Bool → Option R) : Option R := (grd (z4e q0z (pF q1y 0 (muN q0z 1))) (k_ (bnot (z43 q0z (pF q1y 0 (muN q0z 1))))))
noncomputable def z74 (q0z : Nat) (q1y : List Nat) : Option (Bool) := za7 q0z q1y (fun c0_ => some c0_)
theorem zwz {R R' : Type} (o : Option R → Option R') (h0 : o none = none) (q0z : Nat) (q1y : List Nat) (k_ : Bool → Option R) : za7 q0z q1y (fun c0_ => o (k_ c0_)) = o (za7 q0z q1y k_) := by
  unfold za7
  repeat (first | refine z0k h0 ?_ | refine z0r ?_ ?_ | rfl | exact h0.symm)
noncomputable def za2 (q0z : Nat) (q1y : List Nat) : Bool := (z74 q0z q1y).isSome
noncomputable def z9a (q0z : Nat) (q1y : List Nat) : Bool := ((z74 q0z q1y).getD default)
theorem zr1 {q0z : Nat} {q1y : List Nat} {r : Bool} (h : z74 q0z q1y = some r) : za2 q0z q1y = true ∧ z9a q0z q1y = r := by
  unfold za2 z9a
  rw [h]
  exact ⟨rfl, rfl⟩
noncomputable def zcy {R : Type} (q0z : Nat) (q1y : List Nat) (k_ : Bool → Option R) : Option R := (grd (z4w q0z (pF q1y 0 (muN q0z 1))) (k_ (bnot (z4l q0z (pF q1y 0 (muN q0z 1))))))
noncomputable def zd2 (q0z : Nat) (q1y : List Nat) : Option (Bool) := zcy q0z q1y (fun c0_ => some c0_)
theorem y0w {R R' : Type} (o : Option R → Option R') (h0 : o none = none) (q0z : Nat) (q1y : List Nat) (k_ : Bool → Option R) : zcy q0z q1y (fun c0_ => o (k_ c0_)) = o (zcy q0z q1y k_) := by
  unfold zcy
  repeat (first | refine z0k h0 ?_ | refine z0r ?_ ?_ | rfl | exact h0.symm)
noncomputable def zly (q0z : Nat) (q1y : List Nat) : Bool := (zd2 q0z q1y).isSome
noncomputable def zla (q0z : Nat) (q1y : List Nat) : Bool := ((zd2 q0z q1y).getD default)
theorem y57 {q0z : Nat} {q1y : List Nat} {r : Bool} (h : zd2 q0z q1y = some r) : zly q0z q1y = true ∧ zla q0z q1y = r := by
  unfold zly zla
  rw [h]
  exact ⟨rfl, rfl⟩
noncomputable def zbm {R : Type} (x : Nat) (k_ : Nat → Option R) : Option R := (grd (z4m x) (br (bnot (z46 x)) (grd zpy (grd (fcvB .f64 .f32 zlk) (k_ (fcvV .f64 .f32 zlk)))) (grd (zop (fcvV .f32 .f64 x)) (br (zn5 (fcvV .f32 .f64 x)) (k_ 0) (grd (zru (fcvV .f32 .f64 x)) (grd (fcvB .f64 .f32 (zmd (fcvV .f32 .f64 x))) (k_ (fcvV .f64 .f32 (zmd (fcvV .f32 .f64 x))))))))))
noncomputable def zbq (x : Nat) : Option (Nat) := zbm x (fun c0_ => some c0_)
theorem y03 {R R' : Type} (o : Option R → Option R') (h0 : o none = none) (x : Nat) (k_ : Nat → Option R) : zbm x (fun c0_ => o (k_ c0_)) = o (zbm x k_) := by
  unfold zbm
  repeat (first | refine z0k h0 ?_ | refine z0r ?_ ?_ | rfl | exact h0.symm)
noncomputable def zc3 (x : Nat) : Bool := (zbq x).isSome
noncomputable def z86 (x : Nat) : Nat := ((zbq x).getD default)
theorem znw {x : Nat} {r : Nat} (h : zbq x = some r) : zc3 x = true ∧ z86 x = r := by
  unfold zc3 z86
  rw [h]
  exact ⟨rfl, rfl⟩
noncomputable def zcp {R : Type} (q0u : Int) (k_ : Nat → Nat → Nat → (List Nat) → (List Nat) → (List Nat) → Option R) : Option R := (grd zlg (grd (zh4 q0u 0 0 0 0 z2y z30 z2z) (k_ (zcr q0u 0 0 0 0 z2y z30 z2z) (zct q0u 0 0 0 0 z2y z30 z2z) (zcq q0u 0 0 0 0 z2y z30 z2z) (zd0 q0u 0 0 0 0 z2y z30 z2z) (zcl q0u 0 0 0 0 z2y z30 z2z) (zcz q0u 0 0 0 0 z2y z30 z2z))))
noncomputable def z61 (q0u : Int) : Option (Nat × Nat × Nat × (List Nat) × (List Nat) × (List Nat)) := zcp q0u (fun c0_ c1_ c2_ c3_ c4_ c5_ => some (c0_, c1_, c2_, c3_, c4_, c5_))
theorem y0n {R R' : Type} (o : Option R → Option R') (h0 : o none = none) (q0u : Int) (k_ : Nat → Nat → Nat → (List Nat) → (List Nat) → (List Nat) → Option R) : zcp q0u (fun c0_ c1_ c2_ c3_ c4_ c5_ => o (k_ c0_ c1_ c2_ c3_ c4_ c5_)) = o (zcp q0u k_) := by
  unfold zcp
  repeat (first | refine z0k h0 ?_ | refine z0r ?_ ?_ | rfl | exact h0.symm)
noncomputable def zlw (q0u : Int) : Bool := (z61 q0u).isSome
noncomputable def zl2 (q0u : Int) : Nat := ((z61 q0u).getD default).1
noncomputable def zl4 (q0u : Int) : Nat := ((z61 q0u).getD default).2.1
noncomputable def zl9 (q0u : Int) : Nat := ((z61 q0u).getD default).2.2.1
noncomputable def zl7 (q0u : Int) : List Nat := ((z61 q0u).getD default).2.2.2.1
noncomputable def zl3 (q0u : Int) : List Nat := ((z61 q0u).getD default).2.2.2.2.1
noncomputable def zl8 (q0u : Int) : List Nat := ((z61 q0u).getD default).2.2.2.2.2
theorem y4w {q0u : Int} {r : Nat × Nat × Nat × (List Nat) × (List Nat) × (List Nat)} (h : z61 q0u = some r) : zlw q0u = true ∧ zl2 q0u = r.1 ∧ zl4 q0u = r.2.1 ∧ zl9 q0u = r.2.2.1 ∧ zl7 q0u = r.2.2.2.1 ∧ zl3 q0u = r.2.2.2.2.1 ∧ zl8 q0u = r.2.2.2.2.2 := by
  unfold zlw zl2 zl4 zl9 zl7 zl3 zl8
  rw [h]
  exact ⟨rfl, rfl, rfl, rfl, rfl, rfl, rfl⟩
noncomputable def zb1 {R : Type} (x : Nat) (y : Nat) (k_ : Nat → Nat → Bool → Option R) : Option R := (grd (zet 2 (pF [x, y] 0 (muN 2 1))) (br (bnot (zdo 2 (pF [x, y] 0 (muN 2 1)))) (k_ 0 0 Bool.false) (k_ x y Bool.true)))
noncomputable def z82 (x : Nat) (y : Nat) : Option (Nat × Nat × Bool) := zb1 x y (fun c0_ c1_ c2_ => some (c0_, c1_, c2_))
theorem zy2 {R R' : Type} (o : Option R → Option R') (h0 : o none = none) (x : Nat) (y : Nat) (k_ : Nat → Nat → Bool → Option R) : zb1 x y (fun c0_ c1_ c2_ => o (k_ c0_ c1_ c2_)) = o (zb1 x y k_) := by
  unfold zb1
  repeat (first | refine z0k h0 ?_ | refine z0r ?_ ?_ | rfl | exact h0.symm)
noncomputable def zj9 (x : Nat) (y : Nat) : Bool := (z82 x y).isSome
noncomputable def zi2 (x : Nat) (y : Nat) : Nat := ((z82 x y).getD default).1
noncomputable def zhq (x : Nat) (y : Nat) : Nat := ((z82 x y).getD default).2.1
noncomputable def zgq (x : Nat) (y : Nat) : Bool := ((z82 x y).getD default).2.2
theorem y2p {x : Nat} {y : Nat} {r : Nat × Nat × Bool} (h : z82 x y = some r) : zj9 x y = true ∧ zi2 x y = r.1 ∧ zhq x y = r.2.1 ∧ zgq x y = r.2.2 := by
  unfold zj9 zi2 zhq zgq
  rw [h]
  exact ⟨rfl, rfl, rfl, rfl⟩
noncomputable def z8l {R : Type} (q00 : Nat) (q04 : List Nat) (q01 : Nat) (q05 : List Nat) (q02 : Nat) (q06 : List Nat) (q07 : Nat) (q09 : List Nat) (q0b : Int) (q0e : Nat) (q0d : Nat) (i : Int) (q11 : Nat) (k_ : Nat → Option R) : Option R := (grd (okIx i q07) (grd (zc3 q11) (k_ (fop .quo .f32 (fop .quo .f32 (fop .mul .f32 (fOI .f32 q0b) (fop .sub .f32 q0d (gF q09 (ixO 0 i 3)))) (fop .mul .f32 1073741824 (gF q09 (ixO 0 i 3)))) (fop .add .f32 (fop .quo .f32 (fop .mul .f32 (fOI .f32 q0b) (fop .sub .f32 q0d (gF q09 (ixO 0 i 3)))) (fop .mul .f32 1073741824 (gF q09 (ixO 0 i 3)))) (z86 q11))))))
noncomputable def z8i (q00 : Nat) (q04 : List Nat) (q01 : Nat) (q05 : List Nat) (q02 : Nat) (q06 : List Nat) (q07 : Nat) (q09 : List Nat) (q0b : Int) (q0e : Nat) (q0d : Nat) (i : Int) (q11 : Nat) : Option (Nat) := z8l q00 q04 q01 q05 q02 q06 q07 q09 q0b q0e q0d i q11 (fun c0_ => some c0_)
theorem zth {R R' : Type} (o : Option R → Option R') (h0 : o none = none) (q00 : Nat) (q04 : List Nat) (q01 : Nat) (q05 : List Nat) (q02 : Nat) (q06 : List Nat) (q07 : Nat) (q09 : List Nat) (q0b : Int) (q0e : Nat) (q0d : Nat) (i : Int) (q11 : Nat) (k_ : Nat → Option R) : z8l q00 q04 q01 q05 q02 q06 q07 q09 q0b q0e q0d i q11 (fun c0_ => o (k_ c0_)) = o (z8l q00 q04 q01 q05 q02 q06 q07 q09 q0b q0e q0d i q11 k_) := by
  unfold z8l
  repeat (first | refine z0k h0 ?_ | refine z0r ?_ ?_ | rfl | exact h0.symm)
noncomputable def zcw (q00 : Nat) (q04 : List Nat) (q01 : Nat) (q05 : List Nat) (q02 : Nat) (q06 : List Nat) (q07 : Nat) (q09 : List Nat) (q0b : Int) (q0e : Nat) (q0d : Nat) (i : Int) (q11 : Nat) : Bool := (z8i q00 q04 q01 q05 q02 q06 q07 q09 q0b q0e q0d i q11).isSome
noncomputable def z7u (q00 : Nat) (q04 : List Nat) (q01 : Nat) (q05 : List Nat) (q02 : Nat) (q06 : List Nat) (q07 : Nat) (q09 : List Nat) (q0b : Int) (q0e : Nat) (q0d : Nat) (i : Int) (q11 : Nat) : Nat := ((z8i q00 q04 q01 q05 q02 q06 q07 q09 q0b q0e q0d i q11).getD default)
theorem zwb {q00 : Nat} {q04 : List Nat} {q01 : Nat} {q05 : List Nat} {q02 : Nat} {q06 : List Nat} {q07 : Nat} {q09 : List Nat} {q0b : Int} {q0e : Nat} {q0d : Nat} {i : Int} {q11 : Nat} {r : Nat} (h : z8i q00 q04 q01 q05 q02 q06 q07 q09 q0b q0e q0d i q11 = some r) : zcw q00 q04 q01 q05 q02 q06 q07 q09 q0b q0e q0d i q11 = true ∧ z7u q00 q04 q01 q05 q02 q06 q07 q09 q0b q0e q0d i q11 = r := by
  unfold zcw z7u
  rw [h]
  exact ⟨rfl, rfl⟩
noncomputable def z14 {R : Type} (sn : Nat) (t7 : Int) (b0 : List Nat) (b4 : Nat) (t8 : Int) (kn_ : Int → Option R) (k0_ : Int → Option R) (k1_ : Int → Bool → Option R) : Option R := (br (ltI t8 t7) (grd (okIx t8 sn) (br (fcmp .gtr .f32 (gF b0 (ixO 0 t8 1)) b4) (k0_ t8) (kn_ (addI .i64 t8 1)))) (k1_ t8 (ltI t8 t7)))
theorem zeh {R R' : Type} (o : Option R → Option R') (h0 : o none = none) (sn : Nat) (t7 : Int) (b0 : List Nat) (b4 : Nat) (t8 : Int) (kn_ : Int → Option R) (k0_ : Int → Option R) (k1_ : Int → Bool → Option R) : z14 sn t7 b0 b4 t8 (fun t8' => o (kn_ t8')) (fun c0_ => o (k0_ c0_)) (fun c0_ c1_ => o (k1_ c0_ c1_)) = o (z14 sn t7 b0 b4 t8 kn_ k0_ k1_) := by
  unfold z14
  repeat (first | refine z0k h0 ?_ | refine z0r ?_ ?_ | rfl | exact h0.symm)
noncomputable def z0h (sn : Nat) (t7 : Int) (b0 : List Nat) (b4 : Nat) : Nat → Int → Option ((Int) ⊕ (Int × Bool))
  | 0, _ => none
  | n + 1, t8 => z14 sn t7 b0 b4  t8  (fun t8' => z0h sn t7 b0 b4 n t8') (fun c0_ => some (Sum.inl c0_)) (fun c0_ c1_ => some (Sum.inr (c0_, c1_)))
theorem z8e (sn : Nat) (t7 : Int) (b0 : List Nat) (b4 : Nat) (n : Nat) (t8 : Int) : z0h sn t7 b0 b4 (n + 1) t8 = z14 sn t7 b0 b4  t8  (fun t8' => z0h sn t7 b0 b4 n t8') (fun c0_ => some (Sum.inl c0_)) (fun c0_ c1_ => some (Sum.inr (c0_, c1_))) := rfl
noncomputable def z27 (sn : Nat) (t7 : Int) (b0 : List Nat) (b4 : Nat) (t8 : Int) : Bool := (z0h sn t7 b0 b4 big t8).isSome
noncomputable def z22 (sn : Nat) (t7 : Int) (b0 : List Nat) (b4 : Nat) (t8 : Int) : Bool := oL (z0h sn t7 b0 b4 big t8)
noncomputable def z0q (sn : Nat) (t7 : Int) (b0 : List Nat) (b4 : Nat) (t8 : Int) : Int := ((tL (z0h sn t7 b0 b4 big t8)).getD default)
noncomputable def z5e (sn : Nat) (t7 : Int) (b0 : List Nat) (b4 : Nat) (t8 : Int) : Int := ((tR (z0h sn t7 b0 b4 big t8)).getD default).1
noncomputable def z57 (sn : Nat) (t7 : Int) (b0 : List Nat) (b4 : Nat) (t8 : Int) : Bool := ((tR (z0h sn t7 b0 b4 big t8)).getD default).2
theorem zfr {sn : Nat} {t7 : Int} {b0 : List Nat} {b4 : Nat} {t8 : Int} {m : Nat} {r : Int} (hm : m = big) (h : z0h sn t7 b0 b4 m t8 = some (Sum.inl r)) : z27 sn t7 b0 b4 t8 = true ∧ z22 sn t7 b0 b4 t8 = true ∧ z0q sn t7 b0 b4 t8 = r := by
  subst hm
  unfold z27 z22 z0q
  rw [h]
  exact ⟨rfl, rfl, rfl⟩
theorem zfp {sn : Nat} {t7 : Int} {b0 : List Nat} {b4 : Nat} {t8 : Int} {m : Nat} {r : Int × Bool} (hm : m = big) (h : z0h sn t7 b0 b4 m t8 = some (Sum.inr r)) : z27 sn t7 b0 b4 t8 = true ∧ z22 sn t7 b0 b4 t8 = false ∧ z5e sn t7 b0 b4 t8 = r.1 ∧ z57 sn t7 b0 b4 t8 = r.2 := by
  subst hm
  unfold z27 z22 z5e z57
  rw [h]
  exact ⟨rfl, rfl, rfl, rfl⟩
noncomputable def zjg {R : Type} (t8 : Nat) (b0 : List Nat) (q0x : Nat) (t10 : Int) (kn_ : Int → Option R) (k0_ : Int → Bool → Option R) : Option R := (br (leI 0 t10) (grd (okIx t10 q0x) (br (fcmp .gtr .f32 (gF b0 (ixO 0 t10 1)) t8) (kn_ (subI .i64 t10 1)) (k0_ t10 (fcmp .gtr .f32 (gF b0 (ixO 0 t10 1)) t8)))) (k0_ t10 Bool.false))
noncomputable def z6m (t8 : Nat) (b0 : List Nat) (q0x : Nat) : Nat → Int → Option ((Int × Bool))
  | 0, _ => none
  | n + 1, t10 => zjg t8 b0 q0x  t10  (fun t10' => z6m t8 b0 q0x n t10') (fun c0_ c1_ => some (c0_, c1_))
theorem zoe (t8 : Nat) (b0 : List Nat) (q0x : Nat) (n : Nat) (t10 : Int) : z6m t8 b0 q0x (n + 1) t10 = zjg t8 b0 q0x  t10  (fun t10' => z6m t8 b0 q0x n t10') (fun c0_ c1_ => some (c0_, c1_)) := rfl
noncomputable def zo0 (t8 : Nat) (b0 : List Nat) (q0x : Nat) (t10 : Int) : Bool := (z6m t8 b0 q0x big t10).isSome
noncomputable def z00 (t8 : Nat) (b0 : List Nat) (q0x : Nat) (t10 : Int) : Int := ((z6m t8 b0 q0x big t10).getD default).1
noncomputable def zq9 (t8 : Nat) (b0 : List Nat) (q0x : Nat) (t10 : Int) : Bool := ((z6m t8 b0 q0x big t10).getD default).2
theorem zqy {t8 : Nat} {b0 : List Nat} {q0x : Nat} {t10 : Int} {m : Nat} {r : Int × Bool} (hm : m = big) (h : z6m t8 b0 q0x m t10 = some r) : zo0 t8 b0 q0x t10 = true ∧ z00 t8 b0 q0x t10 = r.1 ∧ zq9 t8 b0 q0x t10 = r.2 := by
  subst hm
  unfold zo0 z00 zq9
  rw [h]
  exact ⟨rfl, rfl, rfl⟩
noncomputable def z68 {R : Type} (q0a : Nat) (q0c : List Nat) (q0s : Nat) (q0v : List Nat) (q0r : Nat) (q0w : List Nat) (x1 : Nat) (k_ : Int → Int → Nat → Nat → Nat → Option R) : Option R := (grd (zkx x1) (grd (z27 q0a (Int.ofNat q0a) q0c (z2e x1) 0) (br (z22 q0a (Int.ofNat q0a) q0c (z2e x1) 0) (br (eqI (z0q q0a (Int.ofNat q0a) q0c (z2e x1) 0) 0) (grd (okIx (subI .i64 (Int.ofNat q0a) 1) q0a) (grd (okIx 0 q0a) (k_ (subI .i64 (Int.ofNat q0a) 1) 0 (fop .sub .f32 (gF q0c (ixO 0 (subI .i64 (Int.ofNat q0a) 1) 1)) 1065353216) (gF q0c (ixO 0 0 1)) (z2e x1)))) (br (ltI (z0q q0a (Int.ofNat q0a) q0c (z2e x1) 0) 0) (grd (okIx (subI .i64 (Int.ofNat q0a) 1) q0a) (grd (okIx 0 q0a) (k_ (subI .i64 (Int.ofNat q0a) 1) 0 (gF q0c (ixO 0 (subI .i64 (Int.ofNat q0a) 1) 1)) (fop .add .f32 (gF q0c (ixO 0 0 1)) 1065353216) (z2e x1)))) (grd (okIx (subI .i64 (z0q q0a (Int.ofNat q0a) q0c (z2e x1) 0) 1) q0a) (grd (okIx (z0q q0a (Int.ofNat q0a) q0c (z2e x1) 0) q0a) (k_ (subI .i64 (z0q q0a (Int.ofNat q0a) q0c (z2e x1) 0) 1) (z0q q0a (Int.ofNat q0a) q0c (z2e x1) 0) (gF q0c (ixO 0 (subI .i64 (z0q q0a (Int.ofNat q0a) q0c (z2e x1) 0) 1) 1)) (gF q0c (ixO 0 (z0q q0a (Int.ofNat q0a) q0c (z2e x1) 0) 1)) (z2e x1)))))) (grd (okIx (subI .i64 (Int.ofNat q0a) 1) q0a) (grd (okIx 0 q0a) (k_ (subI .i64 (Int.ofNat q0a) 1) 0 (gF q0c (ixO 0 (subI .i64 (Int.ofNat q0a) 1) 1)) (fop .add .f32 (gF q0c (ixO 0 0 1)) 1065353216) (z2e x1)))))))
noncomputable def z3b (q0a : Nat) (q0c : List Nat) (q0s : Nat) (q0v : List Nat) (q0r : Nat) (q0w : List Nat) (x1 : Nat) : Option (Int × Int × Nat × Nat × Nat) := z68 q0a q0c q0s q0v q0r q0w x1 (fun c0_ c1_ c2_ c3_ c4_ => some (c0_, c1_, c2_, c3_, c4_))
theorem zsm {R R' : Type} (o : Option R → Option R') (h0 : o none = none) (q0a : Nat) (q0c : List Nat) (q0s : Nat) (q0v : List Nat) (q0r : Nat) (q0w : List Nat) (x1 : Nat) (k_ : Int → Int → Nat → Nat → Nat → Option R) : z68 q0a q0c q0s q0v q0r q0w x1 (fun c0_ c1_ c2_ c3_ c4_ => o (k_ c0_ c1_ c2_ c3_ c4_)) = o (z68 q0a q0c q0s q0v q0r q0w x1 k_) := by
  unfold z68
  repeat (first | refine z0k h0 ?_ | refine z0r ?_ ?_ | rfl | exact h0.symm)
noncomputable def zc7 (q0a : Nat) (q0c : List Nat) (q0s : Nat) (q0v : List Nat) (q0r : Nat) (q0w : List Nat) (x1 : Nat) : Bool := (z3b q0a q0c q0s q0v q0r q0w x1).isSome
noncomputable def z41 (q0a : Nat) (q0c : List Nat) (q0s : Nat) (q0v : List Nat) (q0r : Nat) (q0w : List Nat) (x1 : Nat) : Int := ((z3b q0a q0c q0s q0v q0r q0w x1).getD default).1
noncomputable def z42 (q0a : Nat) (q0c : List Nat) (q0s : Nat) (q0v : List Nat) (q0r : Nat) (q0w : List Nat) (x1 : Nat) : Int := ((z3b q0a q0c q0s q0v q0r q0w x1).getD default).2.1
noncomputable def z4v (q0a : Nat) (q0c : List Nat) (q0s : Nat) (q0v : List Nat) (q0r : Nat) (q0w : List Nat) (x1 : Nat) : Nat := ((z3b q0a q0c q0s q0v q0r q0w x1).getD default).2.2.1
noncomputable def z77 (q0a : Nat) (q0c : List Nat) (q0s : Nat) (q0v : List Nat) (q0r : Nat) (q0w : List Nat) (x1 : Nat) : Nat := ((z3b q0a q0c q0s q0v q0r q0w x1).getD default).2.2.2.1
noncomputable def z93 (q0a : Nat) (q0c : List Nat) (q0s : Nat) (q0v : List Nat) (q0r : Nat) (q0w : List Nat) (x1 : Nat) : Nat := ((z3b q0a q0c q0s q0v q0r q0w x1).getD default).2.2.2.2
theorem zvh {q0a : Nat} {q0c : List Nat} {q0s : Nat} {q0v : List Nat} {q0r : Nat} {q0w : List Nat} {x1 : Nat} {r : Int × Int × Nat × Nat × Nat} (h : z3b q0a q0c q0s q0v q0r q0w x1 = some r) : zc7 q0a q0c q0s q0v q0r q0w x1 = true ∧ z41 q0a q0c q0s q0v q0r q0w x1 = r.1 ∧ z42 q0a q0c q0s q0v q0r q0w x1 = r.2.1 ∧ z4v q0a q0c q0s q0v q0r q0w x1 = r.2.2.1 ∧ z77 q0a q0c q0s q0v q0r q0w x1 = r.2.2.2.1 ∧ z93 q0a q0c q0s q0v q0r q0w x1 = r.2.2.2.2 := by
  unfold zc7 z41 z42 z4v z77 z93
  rw [h]
  exact ⟨rfl, rfl, rfl, rfl, rfl, rfl⟩
noncomputable def zr9 {R : Type} (q0a : Nat) (q0c : List Nat) (q0s : Nat) (q0v : List Nat) (q0r : Nat) (q0w : List Nat) (x1 : Nat) (k_ : Int → Int → Nat → Nat → Option R) : Option R := (grd (zrq x1) (grd (zo0 (z01 x1) q0c q0a (subI .i64 (Int.ofNat q0a) 1)) (br (ltI (z00 (z01 x1) q0c q0a (subI .i64 (Int.ofNat q0a) 1)) 0) (grd (okIx (subI .i64 (Int.ofNat q0a) 1) q0a) (grd (okIx 0 q0a) (br (fcmp .lss .f32 (z01 x1) (gF q0c (ixO 0 0 1))) (br (fcmp .eql .f32 (fop .sub .f32 (gF q0c (ixO 0 0 1)) (fop .sub .f32 (gF q0c (ixO 0 (subI .i64 (Int.ofNat q0a) 1) 1)) 1065353216)) 0) (k_ (subI .i64 (Int.ofNat q0a) 1) 0 0 (fop .sub .f32 (gF q0c (ixO 0 0 1)) (fop .sub .f32 (gF q0c (ixO 0 (subI .i64 (Int.ofNat q0a) 1) 1)) 1065353216))) (k_ (subI .i64 (Int.ofNat q0a) 1) 0 (fop .quo .f32 (fop .sub .f32 (z01 x1) (fop .sub .f32 (gF q0c (ixO 0 (subI .i64 (Int.ofNat q0a) 1) 1)) 1065353216)) (fop .sub .f32 (gF q0c (ixO 0 0 1)) (fop .sub .f32 (gF q0c (ixO 0 (subI .i64 (Int.ofNat q0a) 1) 1)) 1065353216))) (fop .sub .f32 (gF q0c (ixO 0 0 1)) (fop .sub .f32 (gF q0c (ixO 0 (subI .i64 (Int.ofNat q0a) 1) 1)) 1065353216)))) (br (fcmp .eql .f32 (fop .sub .f32 (fop .add .f32 (gF q0c (ixO 0 0 1)) 1065353216) (gF q0c (ixO 0 (subI .i64 (Int.ofNat q0a) 1) 1))) 0) (k_ (subI .i64 (Int.ofNat q0a) 1) 0 0 (fop .sub .f32 (fop .add .f32 (gF q0c (ixO 0 0 1)) 1065353216) (gF q0c (ixO 0 (subI .i64 (Int.ofNat q0a) 1) 1)))) (k_ (subI .i64 (Int.ofNat q0a) 1) 0 (fop .quo .f32 (fop .sub .f32 (z01 x1) (gF q0c (ixO 0 (subI .i64 (Int.ofNat q0a) 1) 1))) (fop .sub .f32 (fop .add .f32 (gF q0c (ixO 0 0 1)) 1065353216) (gF q0c (ixO 0 (subI .i64 (Int.ofNat q0a) 1) 1)))) (fop .sub .f32 (fop .add .f32 (gF q0c (ixO 0 0 1)) 1065353216) (gF q0c (ixO 0 (subI .i64 (Int.ofNat q0a) 1) 1)))))))) (br (eqI (addI .i64 (z00 (z01 x1) q0c q0a (subI .i64 (Int.ofNat q0a) 1)) 1) (Int.ofNat q0a)) (grd (okIx (z00 (z01 x1) q0c q0a (subI .i64 (Int.ofNat q0a) 1)) q0a) (grd (okIx 0 q0a) (br (fcmp .lss .f32 (z01 x1) (gF q0c (ixO 0 0 1))) (br (fcmp .eql .f32 (fop .sub .f32 (gF q0c (ixO 0 0 1)) (fop .sub .f32 (gF q0c (ixO 0 (z00 (z01 x1) q0c q0a (subI .i64 (Int.ofNat q0a) 1)) 1)) 1065353216)) 0) (k_ (z00 (z01 x1) q0c q0a (subI .i64 (Int.ofNat q0a) 1)) 0 0 (fop .sub .f32 (gF q0c (ixO 0 0 1)) (fop .sub .f32 (gF q0c (ixO 0 (z00 (z01 x1) q0c q0a (subI .i64 (Int.ofNat q0a) 1)) 1)) 1065353216))) (k_ (z00 (z01 x1) q0c q0a (subI .i64 (Int.ofNat q0a) 1)) 0 (fop .quo .f32 (fop .sub .f32 (z01 x1) (fop .sub .f32 (gF q0c (ixO 0 (z00 (z01 x1) q0c q0a (subI .i64 (Int.ofNat q0a) 1)) 1)) 1065353216)) (fop .sub .f32 (gF q0c (ixO 0 0 1)) (fop .sub .f32 (gF q0c (ixO 0 (z00 (z01 x1) q0c q0a (subI .i64 (Int.ofNat q0a) 1)) 1)) 1065353216))) (fop .sub .f32 (gF q0c (ixO 0 0 1)) (fop .sub .f32 (gF q0c (ixO 0 (z00 (z01 x1) q0c q0a (subI .i64 (Int.ofNat q0a) 1)) 1)) 1065353216)))) (br (fcmp .eql .f32 (fop .sub .f32 (fop .add .f32 (gF q0c (ixO 0 0 1)) 1065353216) (gF q0c (ixO 0 (z00 (z01 x1) q0c q0a (subI .i64 (Int.ofNat q0a) 1)) 1))) 0) (k_ (z00 (z01 x1) q0c q0a (subI .i64 (Int.ofNat q0a) 1)) 0 0 (fop .sub .f32 (fop .add .f32 (gF q0c (ixO 0 0 1)) 1065353216) (gF q0c (ixO 0 (z00 (z01 x1) q0c q0a (subI .i64 (Int.ofNat q0a) 1)) 1)))) (k_ (z00 (z01 x1) q0c q0a (subI .i64 (Int.ofNat q0a) 1)) 0 (fop .quo .f32 (fop .sub .f32 (z01 x1) (gF q0c (ixO 0 (z00 (z01 x1) q0c q0a (subI .i64 (Int.ofNat q0a) 1)) 1))) (fop .sub .f32 (fop .add .f32 (gF q0c (ixO 0 0 1)) 1065353216) (gF q0c (ixO 0 (z00 (z01 x1) q0c q0a (subI .i64 (Int.ofNat q0a) 1)) 1)))) (fop .sub .f32 (fop .add .f32 (gF q0c (ixO 0 0 1)) 1065353216) (gF q0c (ixO 0 (z00 (z01 x1) q0c q0a (subI .i64 (Int.ofNat q0a) 1)) 1)))))))) (grd (okIx (z00 (z01 x1) q0c q0a (subI .i64 (Int.ofNat q0a) 1)) q0a) (grd (okIx (addI .i64 (z00 (z01 x1) q0c q0a (subI .i64 (Int.ofNat q0a) 1)) 1) q0a) (br (eqI (addI .i64 (z00 (z01 x1) q0c q0a (subI .i64 (Int.ofNat q0a) 1)) 1) 0) (br (fcmp .lss .f32 (z01 x1) (gF q0c (ixO 0 (addI .i64 (z00 (z01 x1) q0c q0a (subI .i64 (Int.ofNat q0a) 1)) 1) 1))) (br (fcmp .eql .f32 (fop .sub .f32 (gF q0c (ixO 0 (addI .i64 (z00 (z01 x1) q0c q0a (subI .i64 (Int.ofNat q0a) 1)) 1) 1)) (fop .sub .f32 (gF q0c (ixO 0 (z00 (z01 x1) q0c q0a (subI .i64 (Int.ofNat q0a) 1)) 1)) 1065353216)) 0) (k_ (z00 (z01 x1) q0c q0a (subI .i64 (Int.ofNat q0a) 1)) (addI .i64 (z00 (z01 x1) q0c q0a (subI .i64 (Int.ofNat q0a) 1)) 1) 0 (fop .sub .f32 (gF q0c (ixO 0 (addI .i64 (z00 (z01 x1) q0c q0a (subI .i64 (Int.ofNat q0a) 1)) 1) 1)) (fop .sub .f32 (gF q0c (ixO 0 (z00 (z01 x1) q0c q0a (subI .i64 (Int.ofNat q0a) 1)) 1)) 1065353216))) (k_ (z00 (z01 x1) q0c q0a (subI .i64 (Int.ofNat q0a) 1)) (addI .i64 (z00 (z01 x1) q0c q0a (subI .i64 (Int.ofNat q0a) 1)) 1) (fop .quo .f32 (fop .sub .f32 (z01 x1) (fop .sub .f32 (gF q0c (ixO 0 (z00 (z01 x1) q0c q0a (subI .i64 (Int.ofNat q0a) 1)) 1)) 1065353216)) (fop .sub .f32 (gF q0c (ixO 0 (addI .i64 (z00 (z01 x1) q0c q0a (subI .i64 (Int.ofNat q0a) 1)) 1) 1)) (fop .sub .f32 (gF q0c (ixO 0 (z00 (z01 x1) q0c q0a (subI .i64 (Int.ofNat q0a) 1)) 1)) 1065353216))) (fop .sub .f32 (gF q0c (ixO 0 (addI .i64 (z00 (z01 x1) q0c q0a (subI .i64 (Int.ofNat q0a) 1)) 1) 1)) (fop .sub .f32 (gF q0c (ixO 0 (z00 (z01 x1) q0c q0a (subI .i64 (Int.ofNat q0a) 1)) 1)) 1065353216)))) (br (eqI (addI .i64 (z00 (z01 x1) q0c q0a (subI .i64 (Int.ofNat q0a) 1)) 1) 0) (br (fcmp .eql .f32 (fop .sub .f32 (fop .add .f32 (gF q0c (ixO 0 (addI .i64 (z00 (z01 x1) q0c q0a (subI .i64 (Int.ofNat q0a) 1)) 1) 1)) 1065353216) (gF q0c (ixO 0 (z00 (z01 x1) q0c q0a (subI .i64 (Int.ofNat q0a) 1)) 1))) 0) (k_ (z00 (z01 x1) q0c q0a (subI .i64 (Int.ofNat q0a) 1)) (addI .i64 (z00 (z01 x1) q0c q0a (subI .i64 (Int.ofNat q0a) 1)) 1) 0 (fop .sub .f32 (fop .add .f32 (gF q0c (ixO 0 (addI .i64 (z00 (z01 x1) q0c q0a (subI .i64 (Int.ofNat q0a) 1)) 1) 1)) 1065353216) (gF q0c (ixO 0 (z00 (z01 x1) q0c q0a (subI .i64 (Int.ofNat q0a) 1)) 1)))) (k_ (z00 (z01 x1) q0c q0a (subI .i64 (Int.ofNat q0a) 1)) (addI .i64 (z00 (z01 x1) q0c q0a (subI .i64 (Int.ofNat q0a) 1)) 1) (fop .quo .f32 (fop .sub .f32 (z01 x1) (gF q0c (ixO 0 (z00 (z01 x1) q0c q0a (subI .i64 (Int.ofNat q0a) 1)) 1))) (fop .sub .f32 (fop .add .f32 (gF q0c (ixO 0 (addI .i64 (z00 (z01 x1) q0c q0a (subI .i64 (Int.ofNat q0a) 1)) 1) 1)) 1065353216) (gF q0c (ixO 0 (z00 (z01 x1) q0c q0a (subI .i64 (Int.ofNat q0a) 1)) 1)))) (fop .sub .f32 (fop .add .f32 (gF q0c (ixO 0 (addI .i64 (z00 (z01 x1) q0c q0a (subI .i64 (Int.ofNat q0a) 1)) 1) 1)) 1065353216) (gF q0c (ixO 0 (z00 (z01 x1) q0c q0a (subI .i64 (Int.ofNat q0a) 1)) 1))))) (br (fcmp .eql .f32 (fop .sub .f32 (gF q0c (ixO 0 (addI .i64 (z00 (z01 x1) q0c q0a (subI .i64 (Int.ofNat q0a) 1)) 1) 1)) (gF q0c (ixO 0 (z00 (z01 x1) q0c q0a (subI .i64 (Int.ofNat q0a) 1)) 1))) 0) (k_ (z00 (z01 x1) q0c q0a (subI .i64 (Int.ofNat q0a) 1)) (addI .i64 (z00 (z01 x1) q0c q0a (subI .i64 (Int.ofNat q0a) 1)) 1) 0 (fop .sub .f32 (gF q0c (ixO 0 (addI .i64 (z00 (z01 x1) q0c q0a (subI .i64 (Int.ofNat q0a) 1)) 1) 1)) (gF q0c (ixO 0 (z00 (z01 x1) q0c q0a (subI .i64 (Int.ofNat q0a) 1)) 1)))) (k_ (z00 (z01 x1) q0c q0a (subI .i64 (Int.ofNat q0a) 1)) (addI .i64 (z00 (z01 x1) q0c q0a (subI .i64 (Int.ofNat q0a) 1)) 1) (fop .quo .f32 (fop .sub .f32 (z01 x1) (gF q0c (ixO 0 (z00 (z01 x1) q0c q0a (subI .i64 (Int.ofNat q0a) 1)) 1))) (fop .sub .f32 (gF q0c (ixO 0 (addI .i64 (z00 (z01 x1) q0c q0a (subI .i64 (Int.ofNat q0a) 1)) 1) 1)) (gF q0c (ixO 0 (z00 (z01 x1) q0c q0a (subI .i64 (Int.ofNat q0a) 1)) 1)))) (fop .sub .f32 (gF q0c (ixO 0 (addI .i64 (z00 (z01 x1) q0c q0a (subI .i64 (Int.ofNat q0a) 1)) 1) 1)) (gF q0c (ixO 0 (z00 (z01 x1) q0c q0a (subI .i64 (Int.ofNat q0a) 1)) 1))))))) (br (eqI (addI .i64 (z00 (z01 x1) q0c q0a (subI .i64 (Int.ofNat q0a) 1)) 1) 0) (br (fcmp .eql .f32 (fop .sub .f32 (fop .add .f32 (gF q0c (ixO 0 (addI .i64 (z00 (z01 x1) q0c q0a (subI .i64 (Int.ofNat q0a) 1)) 1) 1)) 1065353216) (gF q0c (ixO 0 (z00 (z01 x1) q0c q0a (subI .i64 (Int.ofNat q0a) 1)) 1))) 0) (k_ (z00 (z01 x1) q0c q0a (subI .i64 (Int.ofNat q0a) 1)) (addI .i64 (z00 (z01 x1) q0c q0a (subI .i64 (Int.ofNat q0a) 1)) 1) 0 (fop .sub .f32 (fop .add .f32 (gF q0c (ixO 0 (addI .i64 (z00 (z01 x1) q0c q0a (subI .i64 (Int.ofNat q0a) 1)) 1) 1)) 1065353216) (gF q0c (ixO 0 (z00 (z01 x1) q0c q0a (subI .i64 (Int.ofNat q0a) 1)) 1)))) (k_ (z00 (z01 x1) q0c q0a (subI .i64 (Int.ofNat q0a) 1)) (addI .i64 (z00 (z01 x1) q0c q0a (subI .i64 (Int.ofNat q0a) 1)) 1) (fop .quo .f32 (fop .sub .f32 (z01 x1) (gF q0c (ixO 0 (z00 (z01 x1) q0c q0a (subI .i64 (Int.ofNat q0a) 1)) 1))) (fop .sub .f32 (fop .add .f32 (gF q0c (ixO 0 (addI .i64 (z00 (z01 x1) q0c q0a (subI .i64 (Int.ofNat q0a) 1)) 1) 1)) 1065353216) (gF q0c (ixO 0 (z00 (z01 x1) q0c q0a (subI .i64 (Int.ofNat q0a) 1)) 1)))) (fop .sub .f32 (fop .add .f32 (gF q0c (ixO 0 (addI .i64 (z00 (z01 x1) q0c q0a (subI .i64 (Int.ofNat q0a) 1)) 1) 1)) 1065353216) (gF q0c (ixO 0 (z00 (z01 x1) q0c q0a (subI .i64 (Int.ofNat q0a) 1)) 1))))) (br (fcmp .eql .f32 (fop .sub .f32 (gF q0c (ixO 0 (addI .i64 (z00 (z01 x1) q0c q0a (subI .i64 (Int.ofNat q0a) 1)) 1) 1)) (gF q0c (ixO 0 (z00 (z01 x1) q0c q0a (subI .i64 (Int.ofNat q0a) 1)) 1))) 0) (k_ (z00 (z01 x1) q0c q0a (subI .i64 (Int.ofNat q0a) 1)) (addI .i64 (z00 (z01 x1) q0c q0a (subI .i64 (Int.ofNat q0a) 1)) 1) 0 (fop .sub .f32 (gF q0c (ixO 0 (addI .i64 (z00 (z01 x1) q0c q0a (subI .i64 (Int.ofNat q0a) 1)) 1) 1)) (gF q0c (ixO 0 (z00 (z01 x1) q0c q0a (subI .i64 (Int.ofNat q0a) 1)) 1)))) (k_ (z00 (z01 x1) q0c q0a (subI .i64 (Int.ofNat q0a) 1)) (addI .i64 (z00 (z01 x1) q0c q0a (subI .i64 (Int.ofNat q0a) 1)) 1) (fop .quo .f32 (fop .sub .f32 (z01 x1) (gF q0c (ixO 0 (z00 (z01 x1) q0c q0a (subI .i64 (Int.ofNat q0a) 1)) 1))) (fop .sub .f32 (gF q0c (ixO 0 (addI .i64 (z00 (z01 x1) q0c q0a (subI .i64 (Int.ofNat q0a) 1)) 1) 1)) (gF q0c (ixO 0 (z00 (z01 x1) q0c q0a (subI .i64 (Int.ofNat q0a) 1)) 1)))) (fop .sub .f32 (gF q0c (ixO 0 (addI .i64 (z00 (z01 x1) q0c q0a (subI .i64 (Int.ofNat q0a) 1)) 1) 1)) (gF q0c (ixO 0 (z00 (z01 x1) q0c q0a (subI .i64 (Int.ofNat q0a) 1)) 1)))))))))))))
noncomputable def zrj (q0a : Nat) (q0c : List Nat) (q0s : Nat) (q0v : List Nat) (q0r : Nat) (q0w : List Nat) (x1 : Nat) : Option (Int × Int × Nat × Nat) := zr9 q0a q0c q0s q0v q0r q0w x1 (fun c0_ c1_ c2_ c3_ => some (c0_, c1_, c2_, c3_))
noncomputable def z4d {R : Type} (q36 : Nat) (t43 : Int) (b0 : List Nat) (q0x : Nat) (t44 : Int) (kn_ : Int → Option R) (k0_ : Unit → Option R) (k1_ : Int → Bool → Option R) : Option R := (br (ltI t44 t43) (grd (okIx t44 q36) (grd (zic (gF b0 (ixO 0 t44 1)) 3204448256 1056964608) (br (bnot (zer (gF b0 (ixO 0 t44 1)) 3204448256 1056964608)) (k0_ ()) (br (ltI 0 t44) (grd (okIx (subI .i64 t44 1) q0x) (br (fcmp .geq .f32 (gF b0 (ixO 0 (subI .i64 t44 1) 1)) (gF b0 (ixO 0 t44 1))) (k0_ ()) (kn_ (addI .i64 t44 1)))) (kn_ (addI .i64 t44 1)))))) (k1_ t44 (ltI t44 t43)))
theorem zsx {R R' : Type} (o : Option R → Option R') (h0 : o none = none) (q36 : Nat) (t43 : Int) (b0 : List Nat) (q0x : Nat) (t44 : Int) (kn_ : Int → Option R) (k0_ : Unit → Option R) (k1_ : Int → Bool → Option R) : z4d q36 t43 b0 q0x t44 (fun t44' => o (kn_ t44')) (fun _ => o (k0_ ())) (fun c0_ c1_ => o (k1_ c0_ c1_)) = o (z4d q36 t43 b0 q0x t44 kn_ k0_ k1_) := by
  unfold z4d
  repeat (first | refine z0k h0 ?_ | refine z0r ?_ ?_ | rfl | exact h0.symm)
noncomputable def z2d (q36 : Nat) (t43 : Int) (b0 : List Nat) (q0x : Nat) : Nat → Int → Option ((Unit) ⊕ (Int × Bool))
  | 0, _ => none
  | n + 1, t44 => z4d q36 t43 b0 q0x  t44  (fun t44' => z2d q36 t43 b0 q0x n t44') (fun _ => some (Sum.inl ())) (fun c0_ c1_ => some (Sum.inr (c0_, c1_)))
theorem zku (q36 : Nat) (t43 : Int) (b0 : List Nat) (q0x : Nat) (n : Nat) (t44 : Int) : z2d q36 t43 b0 q0x (n + 1) t44 = z4d q36 t43 b0 q0x  t44  (fun t44' => z2d q36 t43 b0 q0x n t44') (fun _ => some (Sum.inl ())) (fun c0_ c1_ => some (Sum.inr (c0_, c1_))) := rfl
noncomputable def z6c (q36 : Nat) (t43 : Int) (b0 : List Nat) (q0x : Nat) (t44 : Int) : Bool := (z2d q36 t43 b0 q0x big t44).isSome
noncomputable def z5t (q36 : Nat) (t43 : Int) (b0 : List Nat) (q0x : Nat) (t44 : Int) : Bool := oL (z2d q36 t43 b0 q0x big t44)
noncomputable def zdz (q36 : Nat) (t43 : Int) (b0 : List Nat) (q0x : Nat) (t44 : Int) : Int := ((tR (z2d q36 t43 b0 q0x big t44)).getD default).1
noncomputable def zdv (q36 : Nat) (t43 : Int) (b0 : List Nat) (q0x : Nat) (t44 : Int) : Bool := ((tR (z2d q36 t43 b0 q0x big t44)).getD default).2
theorem zux {q36 : Nat} {t43 : Int} {b0 : List Nat} {q0x : Nat} {t44 : Int} {m : Nat} {r : Unit} (hm : m = big) (h : z2d q36 t43 b0 q0x m t44 = some (Sum.inl r)) : z6c q36 t43 b0 q0x t44 = true ∧ z5t q36 t43 b0 q0x t44 = true := by
  subst hm
  unfold z6c z5t
  rw [h]
  exact ⟨rfl, rfl⟩
theorem zv2 {q36 : Nat} {t43 : Int} {b0 : List Nat} {q0x : Nat} {t44 : Int} {m : Nat} {r : Int × Bool} (hm : m = big) (h : z2d q36 t43 b0 q0x m t44 = some (Sum.inr r)) : z6c q36 t43 b0 q0x t44 = true ∧ z5t q36 t43 b0 q0x t44 = false ∧ zdz q36 t43 b0 q0x t44 = r.1 ∧ zdv q36 t43 b0 q0x t44 = r.2 := by
  subst hm
  unfold z6c z5t zdz zdv
  rw [h]
  exact ⟨rfl, rfl, rfl, rfl⟩
noncomputable def z9c {R : Type} (q0a : Nat) (q0c : List Nat) (q0s : Nat) (q0v : List Nat) (q0r : Nat) (q0w : List Nat) (k_ : Bool → Option R) : Option R := (br (ltI (Int.ofNat q0a) 2) (k_ Bool.false) (br (ltI 24 (Int.ofNat q0a)) (k_ Bool.false) (br (neI (Int.ofNat q0s) (Int.ofNat q0a)) (k_ Bool.false) (br (neI (Int.ofNat q0r) (Int.ofNat q0a)) (k_ Bool.false) (grd (zet q0s (pF q0v 0 (muN q0s 1))) (br (bnot (zdo q0s (pF q0v 0 (muN q0s 1)))) (k_ Bool.false) (grd (zly q0r (pF q0w 0 (muN q0r 1))) (br (bnot (zla q0r (pF q0w 0 (muN q0r 1)))) (k_ Bool.false) (grd (z6c q0a (Int.ofNat q0a) q0c q0a 0) (br (z5t q0a (Int.ofNat q0a) q0c q0a 0) (k_ Bool.false) (k_ Bool.true)))))))))))
noncomputable def z9b (q0a : Nat) (q0c : List Nat) (q0s : Nat) (q0v : List Nat) (q0r : Nat) (q0w : List Nat) : Option (Bool) := z9c q0a q0c q0s q0v q0r q0w (fun c0_ => some c0_)
theorem zvk {R R' : Type} (o : Option R → Option R') (h0 : o none = none) (q0a : Nat) (q0c : List Nat) (q0s : Nat) (q0v : List Nat) (q0r : Nat) (q0w : List Nat) (k_ : Bool → Option R) : z9c q0a q0c q0s q0v q0r q0w (fun c0_ => o (k_ c0_)) = o (z9c q0a q0c q0s q0v q0r q0w k_) := by
  unfold z9c
  repeat (first | refine z0k h0 ?_ | refine z0r ?_ ?_ | rfl | exact h0.symm)
noncomputable def zfm (q0a : Nat) (q0c : List Nat) (q0s : Nat) (q0v : List Nat) (q0r : Nat) (q0w : List Nat) : Bool := (z9b q0a q0c q0s q0v q0r q0w).isSome
noncomputable def zdy (q0a : Nat) (q0c : List Nat) (q0s : Nat) (q0v : List Nat) (q0r : Nat) (q0w : List Nat) : Bool := ((z9b q0a q0c q0s q0v q0r q0w).getD default)
theorem zyt {q0a : Nat} {q0c : List Nat} {q0s : Nat} {q0v : List Nat} {q0r : Nat} {q0w : List Nat} {r : Bool} (h : z9b q0a q0c q0s q0v q0r q0w = some r) : zfm q0a q0c q0s q0v q0r q0w = true ∧ zdy q0a q0c q0s q0v q0r q0w = r := by
  unfold zfm zdy
  rw [h]
  exact ⟨rfl, rfl⟩
noncomputable def zaw {R : Type} (q0h : Nat) (q0n : List Nat) (q0j : Nat) (q0p : List Nat) (q0k : Nat) (q0q : List Nat) (q0z : Nat) (q1y : List Nat) (q2y : Nat) (k_ : Nat → Option R) : Option R := (grd (zc7 q0h (pF q0n 0 (muN q0h 1)) q0j (pF q0p 0 (muN q0j 1)) q0k (pF q0q 0 (muN q0k 1)) q2y) (br (fcmp .neq .f32 (z4v q0h (pF q0n 0 (muN q0h 1)) q0j (pF q0p 0 (muN q0j 1)) q0k (pF q0q 0 (muN q0k 1)) q2y) (z77 q0h (pF q0n 0 (muN q0h 1)) q0j (pF q0p 0 (muN q0j 1)) q0k (pF q0q 0 (muN q0k 1)) q2y)) (grd (okIx (z41 q0h (pF q0n 0 (muN q0h 1)) q0j (pF q0p 0 (muN q0j 1)) q0k (pF q0q 0 (muN q0k 1)) q2y) q0z) (grd (okIx (z42 q0h (pF q0n 0 (muN q0h 1)) q0j (pF q0p 0 (muN q0j 1)) q0k (pF q0q 0 (muN q0k 1)) q2y) q0z) (grd (zmh (gF q1y (ixO 0 (z41 q0h (pF q0n 0 (muN q0h 1)) q0j (pF q0p 0 (muN q0j 1)) q0k (pF q0q 0 (muN q0k 1)) q2y) 1)) (gF q1y (ixO 0 (z42 q0h (pF q0n 0 (muN q0h 1)) q0j (pF q0p 0 (muN q0j 1)) q0k (pF q0q 0 (muN q0k 1)) q2y) 1)) (fop .quo .f32 (fop .sub .f32 (z93 q0h (pF q0n 0 (muN q0h 1)) q0j (pF q0p 0 (muN q0j 1)) q0k (pF q0q 0 (muN q0k 1)) q2y) (z4v q0h (pF q0n 0 (muN q0h 1)) q0j (pF q0p 0 (muN q0j 1)) q0k (pF q0q 0 (muN q0k 1)) q2y)) (fop .sub .f32 (z77 q0h (pF q0n 0 (muN q0h 1)) q0j (pF q0p 0 (muN q0j 1)) q0k (pF q0q 0 (muN q0k 1)) q2y) (z4v q0h (pF q0n 0 (muN q0h 1)) q0j (pF q0p 0 (muN q0j 1)) q0k (pF q0q 0 (muN q0k 1)) q2y)))) (k_ (zlc (gF q1y (ixO 0 (z41 q0h (pF q0n 0 (muN q0h 1)) q0j (pF q0p 0 (muN q0j 1)) q0k (pF q0q 0 (muN q0k 1)) q2y) 1)) (gF q1y (ixO 0 (z42 q0h (pF q0n 0 (muN q0h 1)) q0j (pF q0p 0 (muN q0j 1)) q0k (pF q0q 0 (muN q0k 1)) q2y) 1)) (fop .quo .f32 (fop .sub .f32 (z93 q0h (pF q0n 0 (muN q0h 1)) q0j (pF q0p 0 (muN q0j 1)) q0k (pF q0q 0 (muN q0k 1)) q2y) (z4v q0h (pF q0n 0 (muN q0h 1)) q0j (pF q0p 0 (muN q0j 1)) q0k (pF q0q 0 (muN q0k 1)) q2y)) (fop .sub .f32 (z77 q0h (pF q0n 0 (muN q0h 1)) q0j (pF q0p 0 (muN q0j 1)) q0k (pF q0q 0 (muN q0k 1)) q2y) (z4v q0h (pF q0n 0 (muN q0h 1)) q0j (pF q0p 0 (muN q0j 1)) q0k (pF q0q 0 (muN q0k 1)) q2y)))))))) (grd (okIx (z41 q0h (pF q0n 0 (muN q0h 1)) q0j (pF q0p 0 (muN q0j 1)) q0k (pF q0q 0 (muN q0k 1)) q2y) q0z) (grd (okIx (z42 q0h (pF q0n 0 (muN q0h 1)) q0j (pF q0p 0 (muN q0j 1)) q0k (pF q0q 0 (muN q0k 1)) q2y) q0z) (grd (zmh (gF q1y (ixO 0 (z41 q0h (pF q0n 0 (muN q0h 1)) q0j (pF q0p 0 (muN q0j 1)) q0k (pF q0q 0 (muN q0k 1)) q2y) 1)) (gF q1y (ixO 0 (z42 q0h (pF q0n 0 (muN q0h 1)) q0j (pF q0p 0 (muN q0j 1)) q0k (pF q0q 0 (muN q0k 1)) q2y) 1)) 0) (k_ (zlc (gF q1y (ixO 0 (z41 q0h (pF q0n 0 (muN q0h 1)) q0j (pF q0p 0 (muN q0j 1)) q0k (pF q0q 0 (muN q0k 1)) q2y) 1)) (gF q1y (ixO 0 (z42 q0h (pF q0n 0 (muN q0h 1)) q0j (pF q0p 0 (muN q0j 1)) q0k (pF q0q 0 (muN q0k 1)) q2y) 1)) 0)))))))
noncomputable def z81 (q0h : Nat) (q0n : List Nat) (q0j : Nat) (q0p : List Nat) (q0k : Nat) (q0q : List Nat) (q0z : Nat) (q1y : List Nat) (q2y : Nat) : Option (Nat) := zaw q0h q0n q0j q0p q0k q0q q0z q1y q2y (fun c0_ => some c0_)
theorem zxo {R R' : Type} (o : Option R → Option R') (h0 : o none = none) (q0h : Nat) (q0n : List Nat) (q0j : Nat) (q0p : List Nat) (q0k : Nat) (q0q : List Nat) (q0z : Nat) (q1y : List Nat) (q2y : Nat) (k_ : Nat → Option R) : zaw q0h q0n q0j q0p q0k q0q q0z q1y q2y (fun c0_ => o (k_ c0_)) = o (zaw q0h q0n q0j q0p q0k q0q q0z q1y q2y k_) := by
  unfold zaw
  repeat (first | refine z0k h0 ?_ | refine z0r ?_ ?_ | rfl | exact h0.symm)
noncomputable def zdg (q0h : Nat) (q0n : List Nat) (q0j : Nat) (q0p : List Nat) (q0k : Nat) (q0q : List Nat) (q0z : Nat) (q1y : List Nat) (q2y : Nat) : Bool := (z81 q0h q0n q0j q0p q0k q0q q0z q1y q2y).isSome
noncomputable def z8q (q0h : Nat) (q0n : List Nat) (q0j : Nat) (q0p : List Nat) (q0k : Nat) (q0q : List Nat) (q0z : Nat) (q1y : List Nat) (q2y : Nat) : Nat := ((z81 q0h q0n q0j q0p q0k q0q q0z q1y q2y).getD default)
theorem zs9 {q0h : Nat} {q0n : List Nat} {q0j : Nat} {q0p : List Nat} {q0k : Nat} {q0q : List Nat} {q0z : Nat} {q1y : List Nat} {q2y : Nat} {r : Nat} (h : z81 q0h q0n q0j q0p q0k q0q q0z q1y q2y = some r) : zdg q0h q0n q0j q0p q0k q0q q0z q1y q2y = true ∧ z8q q0h q0n q0j q0p q0k q0q q0z q1y q2y = r := by
  unfold zdg z8q
  rw [h]
  exact ⟨rfl, rfl⟩
noncomputable def z96 {R : Type} (q00 : Nat) (q04 : List Nat) (q01 : Nat) (q05 : List Nat) (q02 : Nat) (q06 : List Nat) (q07 : Nat) (q09 : List Nat) (q0b : Int) (q0e : Nat) (q0d : Nat) (i : Int) (q11 : Nat) (q29 : Nat) (k_ : Nat → Nat → Option R) : Option R := (grd (okIx i q07) (grd (zdg q00 (pF q04 0 (muN q00 1)) q01 (pF q05 0 (muN q01 1)) q02 (pF q06 0 (muN q02 1)) q01 (pF q05 0 (muN q01 1)) (fop .sub .f32 (fop .sub .f32 q11 (gF q09 (Nat.succ (Nat.succ (ixO 0 i 3))))) q29)) (grd (zdg q00 (pF q04 0 (muN q00 1)) q01 (pF q05 0 (muN q01 1)) q02 (pF q06 0 (muN q02 1)) q02 (pF q06 0 (muN q02 1)) (fop .sub .f32 (fop .sub .f32 q11 (gF q09 (Nat.succ (Nat.succ (ixO 0 i 3))))) q29)) (grd (zc3 q11) (grd (zc3 (fop .add .f32 q11 1048576000)) (k_ (fop .add .f32 (fop .mul .f32 (z8q q00 (pF q04 0 (muN q00 1)) q01 (pF q05 0 (muN q01 1)) q02 (pF q06 0 (muN q02 1)) q01 (pF q05 0 (muN q01 1)) (fop .sub .f32 (fop .sub .f32 q11 (gF q09 (Nat.succ (Nat.succ (ixO 0 i 3))))) q29)) (z86 (fop .add .f32 q11 1048576000))) (fop .mul .f32 (z8q q00 (pF q04 0 (muN q00 1)) q01 (pF q05 0 (muN q01 1)) q02 (pF q06 0 (muN q02 1)) q02 (pF q06 0 (muN q02 1)) (fop .sub .f32 (fop .sub .f32 q11 (gF q09 (Nat.succ (Nat.succ (ixO 0 i 3))))) q29)) (z86 q11))) (fop .sub .f32 (fop .mul .f32 (z8q q00 (pF q04 0 (muN q00 1)) q01 (pF q05 0 (muN q01 1)) q02 (pF q06 0 (muN q02 1)) q01 (pF q05 0 (muN q01 1)) (fop .sub .f32 (fop .sub .f32 q11 (gF q09 (Nat.succ (Nat.succ (ixO 0 i 3))))) q29)) (z86 q11)) (fop .mul .f32 (z8q q00 (pF q04 0 (muN q00 1)) q01 (pF q05 0 (muN q01 1)) q02 (pF q06 0 (muN q02 1)) q02 (pF q06 0 (muN q02 1)) (fop .sub .f32 (fop .sub .f32 q11 (gF q09 (Nat.succ (Nat.succ (ixO 0 i 3))))) q29)) (z86 (fop .add .f32 q11 1048576000))))))))))
noncomputable def z6l (q00 : Nat) (q04 : List Nat) (q01 : Nat) (q05 : List Nat) (q02 : Nat) (q06 : List Nat) (q07 : Nat) (q09 : List Nat) (q0b : Int) (q0e : Nat) (q0d : Nat) (i : Int) (q11 : Nat) (q29 : Nat) : Option (Nat × Nat) := z96 q00 q04 q01 q05 q02 q06 q07 q09 q0b q0e q0d i q11 q29 (fun c0_ c1_ => some (c0_, c1_))
theorem zvb {R R' : Type} (o : Option R → Option R') (h0 : o none = none) (q00 : Nat) (q04 : List Nat) (q01 : Nat) (q05 : List Nat) (q02 : Nat) (q06 : List Nat) (q07 : Nat) (q09 : List Nat) (q0b : Int) (q0e : Nat) (q0d : Nat) (i : Int) (q11 : Nat) (q29 : Nat) (k_ : Nat → Nat → Option R) : z96 q00 q04 q01 q05 q02 q06 q07 q09 q0b q0e q0d i q11 q29 (fun c0_ c1_ => o (k_ c0_ c1_)) = o (z96 q00 q04 q01 q05 q02 q06 q07 q09 q0b q0e q0d i q11 q29 k_) := by
  unfold z96
  repeat (first | refine z0k h0 ?_ | refine z0r ?_ ?_ | rfl | exact h0.symm)
noncomputable def zfi (q00 : Nat) (q04 : List Nat) (q01 : Nat) (q05 : List Nat) (q02 : Nat) (q06 : List Nat) (q07 : Nat) (q09 : List Nat) (q0b : Int) (q0e : Nat) (q0d : Nat) (i : Int) (q11 : Nat) (q29 : Nat) : Bool := (z6l q00 q04 q01 q05 q02 q06 q07 q09 q0b q0e q0d i q11 q29).isSome
noncomputable def z7k (q00 : Nat) (q04 : List Nat) (q01 : Nat) (q05 : List Nat) (q02 : Nat) (q06 : List Nat) (q07 : Nat) (q09 : List Nat) (q0b : Int) (q0e : Nat) (q0d : Nat) (i : Int) (q11 : Nat) (q29 : Nat) : Nat := ((z6l q00 q04 q01 q05 q02 q06 q07 q09 q0b q0e q0d i q11 q29).getD default).1
noncomputable def z7d (q00 : Nat) (q04 : List Nat) (q01 : Nat) (q05 : List Nat) (q02 : Nat) (q06 : List Nat) (q07 : Nat) (q09 : List Nat) (q0b : Int) (q0e : Nat) (q0d : Nat) (i : Int) (q11 : Nat) (q29 : Nat) : Nat := ((z6l q00 q04 q01 q05 q02 q06 q07 q09 q0b q0e q0d i q11 q29).getD default).2
theorem zz3 {q00 : Nat} {q04 : List Nat} {q01 : Nat} {q05 : List Nat} {q02 : Nat} {q06 : List Nat} {q07 : Nat} {q09 : List Nat} {q0b : Int} {q0e : Nat} {q0d : Nat} {i : Int} {q11 : Nat} {q29 : Nat} {r : Nat × Nat} (h : z6l q00 q04 q01 q05 q02 q06 q07 q09 q0b q0e q0d i q11 q29 = some r) : zfi q00 q04 q01 q05 q02 q06 q07 q09 q0b q0e q0d i q11 q29 = true ∧ z7k q00 q04 q01 q05 q02 q06 q07 q09 q0b q0e q0d i q11 q29 = r.1 ∧ z7d q00 q04 q01 q05 q02 q06 q07 q09 q0b q0e q0d i q11 q29 = r.2 := by
  unfold zfi z7k z7d
  rw [h]
  exact ⟨rfl, rfl, rfl⟩
noncomputable def z51 {R : Type} (q30 : Nat) (t44 : Int) (b3 : List Nat) (q22 : Nat) (t4 : Nat) (t45 : Int) (kn_ : Nat → Int → Option R) (k0_ : Unit → Option R) (k1_ : Nat → Int → Bool → Option R) : Option R := (br (ltI t45 t44) (grd (okIx t45 q30) (br (fcmp .gtr .f32 (gF b3 (ixO 0 t45 3)) t4) (br (bnot (fcmp .lss .f32 (gF b3 (ixO 0 t45 3)) q22)) (k0_ ()) (grd (za2 1 (pF [(gF b3 (Nat.succ (ixO 0 t45 3)))] 0 (muN 1 1))) (br (bnot (z9a 1 (pF [(gF b3 (Nat.succ (ixO 0 t45 3)))] 0 (muN 1 1)))) (k0_ ()) (grd (z4m (gF b3 (Nat.succ (Nat.succ (ixO 0 t45 3))))) (br (bnot (z46 (gF b3 (Nat.succ (Nat.succ (ixO 0 t45 3)))))) (k0_ ()) (kn_ (gF b3 (ixO 0 t45 3)) (addI .i64 t45 1))))))) (br (bnot Bool.false) (k0_ ()) (grd (za2 1 (pF [(gF b3 (Nat.succ (ixO 0 t45 3)))] 0 (muN 1 1))) (br (bnot (z9a 1 (pF [(gF b3 (Nat.succ (ixO 0 t45 3)))] 0 (muN 1 1)))) (k0_ ()) (grd (z4m (gF b3 (Nat.succ (Nat.succ (ixO 0 t45 3))))) (br (bnot (z46 (gF b3 (Nat.succ (Nat.succ (ixO 0 t45 3)))))) (k0_ ()) (kn_ (gF b3 (ixO 0 t45 3)) (addI .i64 t45 1))))))))) (k1_ t4 t45 (ltI t45 t44)))
theorem zur {R R' : Type} (o : Option R → Option R') (h0 : o none = none) (q30 : Nat) (t44 : Int) (b3 : List Nat) (q22 : Nat) (t4 : Nat) (t45 : Int) (kn_ : Nat → Int → Option R) (k0_ : Unit → Option R) (k1_ : Nat → Int → Bool → Option R) : z51 q30 t44 b3 q22 t4 t45 (fun t4' t45' => o (kn_ t4' t45')) (fun _ => o (k0_ ())) (fun c0_ c1_ c2_ => o (k1_ c0_ c1_ c2_)) = o (z51 q30 t44 b3 q22 t4 t45 kn_ k0_ k1_) := by
  unfold z51
  repeat (first | refine z0k h0 ?_ | refine z0r ?_ ?_ | rfl | exact h0.symm)
noncomputable def z1m (q30 : Nat) (t44 : Int) (b3 : List Nat) (q22 : Nat) : Nat → Nat → Int → Option ((Unit) ⊕ (Nat × Int × Bool))
  | 0, _, _ => none
  | n + 1, t4, t45 => z51 q30 t44 b3 q22  t4 t45  (fun t4' t45' => z1m q30 t44 b3 q22 n t4' t45') (fun _ => some (Sum.inl ())) (fun c0_ c1_ c2_ => some (Sum.inr (c0_, c1_, c2_)))
theorem zm1 (q30 : Nat) (t44 : Int) (b3 : List Nat) (q22 : Nat) (n : Nat) (t4 : Nat) (t45 : Int) : z1m q30 t44 b3 q22 (n + 1) t4 t45 = z51 q30 t44 b3 q22  t4 t45  (fun t4' t45' => z1m q30 t44 b3 q22 n t4' t45') (fun _ => some (Sum.inl ())) (fun c0_ c1_ c2_ => some (Sum.inr (c0_, c1_, c2_))) := rfl
noncomputable def z7c (q30 : Nat) (t44 : Int) (b3 : List Nat) (q22 : Nat) (t4 : Nat) (t45 : Int) : Bool := (z1m q30 t44 b3 q22 big t4 t45).isSome
noncomputable def z6v (q30 : Nat) (t44 : Int) (b3 : List Nat) (q22 : Nat) (t4 : Nat) (t45 : Int) : Bool := oL (z1m q30 t44 b3 q22 big t4 t45)
noncomputable def zg4 (q30 : Nat) (t44 : Int) (b3 : List Nat) (q22 : Nat) (t4 : Nat) (t45 : Int) : Nat := ((tR (z1m q30 t44 b3 q22 big t4 t45)).getD default).1
noncomputable def zg1 (q30 : Nat) (t44 : Int) (b3 : List Nat) (q22 : Nat) (t4 : Nat) (t45 : Int) : Int := ((tR (z1m q30 t44 b3 q22 big t4 t45)).getD default).2.1
noncomputable def zg0 (q30 : Nat) (t44 : Int) (b3 : List Nat) (q22 : Nat) (t4 : Nat) (t45 : Int) : Bool := ((tR (z1m q30 t44 b3 q22 big t4 t45)).getD default).2.2
theorem zwp {q30 : Nat} {t44 : Int} {b3 : List Nat} {q22 : Nat} {t4 : Nat} {t45 : Int} {m : Nat} {r : Unit} (hm : m = big) (h : z1m q30 t44 b3 q22 m t4 t45 = some (Sum.inl r)) : z7c q30 t44 b3 q22 t4 t45 = true ∧ z6v q30 t44 b3 q22 t4 t45 = true := by
  subst hm
  unfold z7c z6v
  rw [h]
  exact ⟨rfl, rfl⟩
theorem zx3 {q30 : Nat} {t44 : Int} {b3 : List Nat} {q22 : Nat} {t4 : Nat} {t45 : Int} {m : Nat} {r : Nat × Int × Bool} (hm : m = big) (h : z1m q30 t44 b3 q22 m t4 t45 = some (Sum.inr r)) : z7c q30 t44 b3 q22 t4 t45 = true ∧ z6v q30 t44 b3 q22 t4 t45 = false ∧ zg4 q30 t44 b3 q22 t4 t45 = r.1 ∧ zg1 q30 t44 b3 q22 t4 t45 = r.2.1 ∧ zg0 q30 t44 b3 q22 t4 t45 = r.2.2 := by
  subst hm
  unfold z7c z6v zg4 zg1 zg0
  rw [h]
  exact ⟨rfl, rfl, rfl, rfl, rfl⟩
noncomputable def zb3 {R : Type} (q10 : Nat) (q19 : List Nat) (q12 : Nat) (q1e : List Nat) (q13 : Nat) (q1d : List Nat) (q1i : Nat) (q21 : List Nat) (q2a : Int) (q2h : Nat) (q2i : Nat) (k_ : Bool → Option R) : Option R := (grd (zfm q10 (pF q19 0 (muN q10 1)) q12 (pF q1e 0 (muN q12 1)) q13 (pF q1d 0 (muN q13 1))) (br (bnot (zdy q10 (pF q19 0 (muN q10 1)) q12 (pF q1e 0 (muN q12 1)) q13 (pF q1d 0 (muN q13 1)))) (k_ Bool.false) (grd (zge q2a 1 6) (br (bnot (zei q2a 1 6)) (k_ Bool.false) (br (ltI (Int.ofNat q1i) 2) (k_ Bool.false) (br (ltI 12 (Int.ofNat q1i)) (k_ Bool.false) (grd (zkf q2h) (br (bnot (zhp q2h)) (k_ Bool.false) (grd (z4m q2i) (br (bnot (z46 q2i)) (k_ Bool.false) (grd (z7c q1i (Int.ofNat q1i) q21 q2i q2h 0) (br (z6v q1i (Int.ofNat q1i) q21 q2i q2h 0) (k_ Bool.false) (k_ Bool.true)))))))))))))
noncomputable def zb9 (q10 : Nat) (q19 : List Nat) (q12 : Nat) (q1e : List Nat) (q13 : Nat) (q1d : List Nat) (q1i : Nat) (q21 : List Nat) (q2a : Int) (q2h : Nat) (q2i : Nat) : Option (Bool) := zb3 q10 q19 q12 q1e q13 q1d q1i q21 q2a q2h q2i (fun c0_ => some c0_)
theorem zxf {R R' : Type} (o : Option R → Option R') (h0 : o none = none) (q10 : Nat) (q19 : List Nat) (q12 : Nat) (q1e : List Nat) (q13 : Nat) (q1d : List Nat) (q1i : Nat) (q21 : List Nat) (q2a : Int) (q2h : Nat) (q2i : Nat) (k_ : Bool → Option R) : zb3 q10 q19 q12 q1e q13 q1d q1i q21 q2a q2h q2i (fun c0_ => o (k_ c0_)) = o (zb3 q10 q19 q12 q1e q13 q1d q1i q21 q2a q2h q2i k_) := by
  unfold zb3
  repeat (first | refine z0k h0 ?_ | refine z0r ?_ ?_ | rfl | exact h0.symm)
noncomputable def z34 (q10 : Nat) (q19 : List Nat) (q12 : Nat) (q1e : List Nat) (q13 : Nat) (q1d : List Nat) (q1i : Nat) (q21 : List Nat) (q2a : Int) (q2h : Nat) (q2i : Nat) : Bool := (zb9 q10 q19 q12 q1e q13 q1d q1i q21 q2a q2h q2i).isSome
noncomputable def z2q (q10 : Nat) (q19 : List Nat) (q12 : Nat) (q1e : List Nat) (q13 : Nat) (q1d : List Nat) (q1i : Nat) (q21 : List Nat) (q2a : Int) (q2h : Nat) (q2i : Nat) : Bool := ((zb9 q10 q19 q12 q1e q13 q1d q1i q21 q2a q2h q2i).getD default)
theorem z3x {q10 : Nat} {q19 : List Nat} {q12 : Nat} {q1e : List Nat} {q13 : Nat} {q1d : List Nat} {q1i : Nat} {q21 : List Nat} {q2a : Int} {q2h : Nat} {q2i : Nat} {r : Bool} (h : zb9 q10 q19 q12 q1e q13 q1d q1i q21 q2a q2h q2i = some r) : z34 q10 q19 q12 q1e q13 q1d q1i q21 q2a q2h q2i = true ∧ z2q q10 q19 q12 q1e q13 q1d q1i q21 q2a q2h q2i = r := by
  unfold z34 z2q
  rw [h]
  exact ⟨rfl, rfl⟩
noncomputable def z3t {R : Type} (b0 : List Int) (q0g : Nat) (q0l : Int) (q0m : Int) (kn_ : Unit → Option R) (k0_ : Int → Int → Int → Option R) : Option R := (br (ltI q0l (Int.ofNat q0g)) (grd (okIx q0l q0g) (br (leI (addI .i64 q0l 1) (Int.ofNat q0g)) (k0_ (cvI .i64 (gI b0 (ixO 0 q0l 1))) (addI .i64 q0l 1) (addI .u64 (addI .u64 (mulI .u64 q0m 6364136223846793005) (cvI .u64 (cvI .i64 (gI b0 (ixO 0 q0l 1))))) 1442695040888963407)) (k0_ (cvI .i64 (bitI .and .u64 (shI Bool.false .u64 (addI .u64 (addI .u64 (mulI .u64 q0m 6364136223846793005) (cvI .u64 (cvI .i64 (gI b0 (ixO 0 q0l 1))))) 1442695040888963407) 40) 255)) (addI .i64 q0l 1) (addI .u64 (addI .u64 (mulI .u64 q0m 6364136223846793005) (cvI .u64 (cvI .i64 (gI b0 (ixO 0 q0l 1))))) 1442695040888963407)))) (br (leI (addI .i64 q0l 1) (Int.ofNat q0g)) (k0_ 0 (addI .i64 q0l 1) (addI .u64 (addI .u64 (mulI .u64 q0m 6364136223846793005) (cvI .u64 0)) 1442695040888963407)) (k0_ (cvI .i64 (bitI .and .u64 (shI Bool.false .u64 (addI .u64 (addI .u64 (mulI .u64 q0m 6364136223846793005) (cvI .u64 0)) 1442695040888963407) 40) 255)) (addI .i64 q0l 1) (addI .u64 (addI .u64 (mulI .u64 q0m 6364136223846793005) (cvI .u64 0)) 1442695040888963407))))
theorem zno {R R' : Type} (o : Option R → Option R') (h0 : o none = none) (b0 : List Int) (q0g : Nat) (q0l : Int) (q0m : Int) (kn_ : Unit → Option R) (k0_ : Int → Int → Int → Option R) : z3t b0 q0g q0l q0m (fun _ => o (kn_ ())) (fun c0_ c1_ c2_ => o (k0_ c0_ c1_ c2_)) = o (z3t b0 q0g q0l q0m kn_ k0_) := by
  unfold z3t
  repeat (first | refine z0k h0 ?_ | refine z0r ?_ ?_ | rfl | exact h0.symm)
noncomputable def z1j (b0 : List Int) (q0g : Nat) (q0l : Int) (q0m : Int) : Nat → Option ((Int × Int × Int))
  | 0 => none
  | n + 1 => z3t b0 q0g q0l q0m    (fun _ => z1j b0 q0g q0l q0m n ) (fun c0_ c1_ c2_ => some (c0_, c1_, c2_))
theorem znh (b0 : List Int) (q0g : Nat) (q0l : Int) (q0m : Int) (n : Nat)  : z1j b0 q0g q0l q0m (n + 1)  = z3t b0 q0g q0l q0m    (fun _ => z1j b0 q0g q0l q0m n ) (fun c0_ c1_ c2_ => some (c0_, c1_, c2_)) := rfl
noncomputable def z4s (b0 : List Int) (q0g : Nat) (q0l : Int) (q0m : Int) : Bool := (z1j b0 q0g q0l q0m big ).isSome
noncomputable def z40 (b0 : List Int) (q0g : Nat) (q0l : Int) (q0m : Int) : Int := ((z1j b0 q0g q0l q0m big ).getD default).1
noncomputable def z10 (b0 : List Int) (q0g : Nat) (q0l : Int) (q0m : Int) : Int := ((z1j b0 q0g q0l q0m big ).getD default).2.1
noncomputable def z11 (b0 : List Int) (q0g : Nat) (q0l : Int) (q0m : Int) : Int := ((z1j b0 q0g q0l q0m big ).getD default).2.2
theorem zoy {b0 : List Int} {q0g : Nat} {q0l : Int} {q0m : Int} {m : Nat} {r : Int × Int × Int} (hm : m = big) (h : z1j b0 q0g q0l q0m m  = some r) : z4s b0 q0g q0l q0m = true ∧ z40 b0 q0g q0l q0m = r.1 ∧ z10 b0 q0g q0l q0m = r.2.1 ∧ z11 b0 q0g q0l q0m = r.2.2 := by
  subst hm
  unfold z4s z40 z10 z11
  rw [h]
  exact ⟨rfl, rfl, rfl, rfl⟩
noncomputable def zb0 {R : Type} (q00 : Nat) (q04 : List Nat) (q01 : Nat) (q05 : List Nat) (q02 : Nat) (q06 : List Nat) (q07 : Nat) (q09 : List Nat) (q0b : Int) (q0e : Nat) (q0d : Nat) (i : Int) (k_ : Nat → Bool → Option R) : Option R := (grd (z34 q00 (pF q04 0 (muN q00 1)) q01 (pF q05 0 (muN q01 1)) q02 (pF q06 0 (muN q02 1)) q07 (pF q09 0 (muN q07 3)) q0b q0e q0d) (br (bnot (z2q q00 (pF q04 0 (muN q00 1)) q01 (pF q05 0 (muN q01 1)) q02 (pF q06 0 (muN q02 1)) q07 (pF q09 0 (muN q07 3)) q0b q0e q0d)) (k_ 0 Bool.false) (grd (z69 q00 (pF q04 0 (muN q00 1)) q01 (pF q05 0 (muN q01 1)) q02 (pF q06 0 (muN q02 1)) q07 (pF q09 0 (muN q07 3)) q0b q0e q0d i) (br (bnot (z5s q00 (pF q04 0 (muN q00 1)) q01 (pF q05 0 (muN q01 1)) q02 (pF q06 0 (muN q02 1)) q07 (pF q09 0 (muN q07 3)) q0b q0e q0d i)) (k_ 0 Bool.false) (grd (zd4 q00 (pF q04 0 (muN q00 1)) q01 (pF q05 0 (muN q01 1)) q02 (pF q06 0 (muN q02 1)) q07 (pF q09 0 (muN q07 3)) q0b q0e q0d i) (grd (zej (z7t q00 (pF q04 0 (muN q00 1)) q01 (pF q05 0 (muN q01 1)) q02 (pF q06 0 (muN q02 1)) q07 (pF q09 0 (muN q07 3)) q0b q0e q0d i)) (k_ (zcv (z7t q00 (pF q04 0 (muN q00 1)) q01 (pF q05 0 (muN q01 1)) q02 (pF q06 0 (muN q02 1)) q07 (pF q09 0 (muN q07 3)) q0b q0e q0d i)) (zcx (z7t q00 (pF q04 0 (muN q00 1)) q01 (pF q05 0 (muN q01 1)) q02 (pF q06 0 (muN q02 1)) q07 (pF q09 0 (muN q07 3)) q0b q0e q0d i)))))))))
noncomputable def z6n (q00 : Nat) (q04 : List Nat) (q01 : Nat) (q05 : List Nat) (q02 : Nat) (q06 : List Nat) (q07 : Nat) (q09 : List Nat) (q0b : Int) (q0e : Nat) (q0d : Nat) (i : Int) : Option (Nat × Bool) := zb0 q00 q04 q01 q05 q02 q06 q07 q09 q0b q0e q0d i (fun c0_ c1_ => some (c0_, c1_))
theorem zxt {R R' : Type} (o : Option R → Option R') (h0 : o none = none) (q00 : Nat) (q04 : List Nat) (q01 : Nat) (q05 : List Nat) (q02 : Nat) (q06 : List Nat) (q07 : Nat) (q09 : List Nat) (q0b : Int) (q0e : Nat) (q0d : Nat) (i : Int) (k_ : Nat → Bool → Option R) : zb0 q00 q04 q01 q05 q02 q06 q07 q09 q0b q0e q0d i (fun c0_ c1_ => o (k_ c0_ c1_)) = o (zb0 q00 q04 q01 q05 q02 q06 q07 q09 q0b q0e q0d i k_) := by
  unfold zb0
  repeat (first | refine z0k h0 ?_ | refine z0r ?_ ?_ | rfl | exact h0.symm)
noncomputable def zdn (q00 : Nat) (q04 : List Nat) (q01 : Nat) (q05 : List Nat) (q02 : Nat) (q06 : List Nat) (q07 : Nat) (q09 : List Nat) (q0b : Int) (q0e : Nat) (q0d : Nat) (i : Int) : Bool := (z6n q00 q04 q01 q05 q02 q06 q07 q09 q0b q0e q0d i).isSome
noncomputable def zcd (q00 : Nat) (q04 : List Nat) (q01 : Nat) (q05 : List Nat) (q02 : Nat) (q06 : List Nat) (q07 : Nat) (q09 : List Nat) (q0b : Int) (q0e : Nat) (q0d : Nat) (i : Int) : Nat := ((z6n q00 q04 q01 q05 q02 q06 q07 q09 q0b q0e q0d i).getD default).1
noncomputable def zcj (q00 : Nat) (q04 : List Nat) (q01 : Nat) (q05 : List Nat) (q02 : Nat) (q06 : List Nat) (q07 : Nat) (q09 : List Nat) (q0b : Int) (q0e : Nat) (q0d : Nat) (i : Int) : Bool := ((z6n q00 q04 q01 q05 q02 q06 q07 q09 q0b q0e q0d i).getD default).2
theorem zs3 {q00 : Nat} {q04 : List Nat} {q01 : Nat} {q05 : List Nat} {q02 : Nat} {q06 : List Nat} {q07 : Nat} {q09 : List Nat} {q0b : Int} {q0e : Nat} {q0d : Nat} {i : Int} {r : Nat × Bool} (h : z6n q00 q04 q01 q05 q02 q06 q07 q09 q0b q0e q0d i = some r) : zdn q00 q04 q01 q05 q02 q06 q07 q09 q0b q0e q0d i = true ∧ zcd q00 q04 q01 q05 q02 q06 q07 q09 q0b q0e q0d i = r.1 ∧ zcj q00 q04 q01 q05 q02 q06 q07 q09 q0b q0e q0d i = r.2 := by
  unfold zdn zcd zcj
  rw [h]
  exact ⟨rfl, rfl, rfl⟩
noncomputable def zau {R : Type} (q00 : Nat) (q04 : List Nat) (q01 : Nat) (q05 : List Nat) (q02 : Nat) (q06 : List Nat) (q07 : Nat) (q09 : List Nat) (q0b : Int) (q0e : Nat) (q0d : Nat) (i : Int) (q11 : Nat) (k_ : Nat → Bool → Option R) : Option R := (grd (z34 q00 (pF q04 0 (muN q00 1)) q01 (pF q05 0 (muN q01 1)) q02 (pF q06 0 (muN q02 1)) q07 (pF q09 0 (muN q07 3)) q0b q0e q0d) (br (bnot (z2q q00 (pF q04 0 (muN q00 1)) q01 (pF q05 0 (muN q01 1)) q02 (pF q06 0 (muN q02 1)) q07 (pF q09 0 (muN q07 3)) q0b q0e q0d)) (k_ 0 Bool.false) (grd (z69 q00 (pF q04 0 (muN q00 1)) q01 (pF q05 0 (muN q01 1)) q02 (pF q06 0 (muN q02 1)) q07 (pF q09 0 (muN q07 3)) q0b q0e q0d i) (br (bnot (z5s q00 (pF q04 0 (muN q00 1)) q01 (pF q05 0 (muN q01 1)) q02 (pF q06 0 (muN q02 1)) q07 (pF q09 0 (muN q07 3)) q0b q0e q0d i)) (k_ 0 Bool.false) (grd (zlj q11) (br (bnot (zki q11)) (k_ 0 Bool.false) (grd (zcw q00 (pF q04 0 (muN q00 1)) q01 (pF q05 0 (muN q01 1)) q02 (pF q06 0 (muN q02 1)) q07 (pF q09 0 (muN q07 3)) q0b q0e q0d i q11) (grd (zej (z7u q00 (pF q04 0 (muN q00 1)) q01 (pF q05 0 (muN q01 1)) q02 (pF q06 0 (muN q02 1)) q07 (pF q09 0 (muN q07 3)) q0b q0e q0d i q11)) (k_ (zcv (z7u q00 (pF q04 0 (muN q00 1)) q01 (pF q05 0 (muN q01 1)) q02 (pF q06 0 (muN q02 1)) q07 (pF q09 0 (muN q07 3)) q0b q0e q0d i q11)) (zcx (z7u q00 (pF q04 0 (muN q00 1)) q01 (pF q05 0 (muN q01 1)) q02 (pF q06 0 (muN q02 1)) q07 (pF q09 0 (muN q07 3)) q0b q0e q0d i q11)))))))))))
noncomputable def z6o (q00 : Nat) (q04 : List Nat) (q01 : Nat) (q05 : List Nat) (q02 : Nat) (q06 : List Nat) (q07 : Nat) (q09 : List Nat) (q0b : Int) (q0e : Nat) (q0d : Nat) (i : Int) (q11 : Nat) : Option (Nat × Bool) := zau q00 q04 q01 q05 q02 q06 q07 q09 q0b q0e q0d i q11 (fun c0_ c1_ => some (c0_, c1_))
theorem zyg {R R' : Type} (o : Option R → Option R') (h0 : o none = none) (q00 : Nat) (q04 : List Nat) (q01 : Nat) (q05 : List Nat) (q02 : Nat) (q06 : List Nat) (q07 : Nat) (q09 : List Nat) (q0b : Int) (q0e : Nat) (q0d : Nat) (i : Int) (q11 : Nat) (k_ : Nat → Bool → Option R) : zau q00 q04 q01 q05 q02 q06 q07 q09 q0b q0e q0d i q11 (fun c0_ c1_ => o (k_ c0_ c1_)) = o (zau q00 q04 q01 q05 q02 q06 q07 q09 q0b q0e q0d i q11 k_) := by
  unfold zau
  repeat (first | refine z0k h0 ?_ | refine z0r ?_ ?_ | rfl | exact h0.symm)
noncomputable def zdj (q00 : Nat) (q04 : List Nat) (q01 : Nat) (q05 : List Nat) (q02 : Nat) (q06 : List Nat) (q07 : Nat) (q09 : List Nat) (q0b : Int) (q0e : Nat) (q0d : Nat) (i : Int) (q11 : Nat) : Bool := (z6o q00 q04 q01 q05 q02 q06 q07 q09 q0b q0e q0d i q11).isSome
noncomputable def zce (q00 : Nat) (q04 : List Nat) (q01 : Nat) (q05 : List Nat) (q02 : Nat) (q06 : List Nat) (q07 : Nat) (q09 : List Nat) (q0b : Int) (q0e : Nat) (q0d : Nat) (i : Int) (q11 : Nat) : Nat := ((z6o q00 q04 q01 q05 q02 q06 q07 q09 q0b q0e q0d i q11).getD default).1
noncomputable def zcf (q00 : Nat) (q04 : List Nat) (q01 : Nat) (q05 : List Nat) (q02 : Nat) (q06 : List Nat) (q07 : Nat) (q09 : List Nat) (q0b : Int) (q0e : Nat) (q0d : Nat) (i : Int) (q11 : Nat) : Bool := ((z6o q00 q04 q01 q05 q02 q06 q07 q09 q0b q0e q0d i q11).getD default).2
theorem zsi {q00 : Nat} {q04 : List Nat} {q01 : Nat} {q05 : List Nat} {q02 : Nat} {q06 : List Nat} {q07 : Nat} {q09 : List Nat} {q0b : Int} {q0e : Nat} {q0d : Nat} {i : Int} {q11 : Nat} {r : Nat × Bool} (h : z6o q00 q04 q01 q05 q02 q06 q07 q09 q0b q0e q0d i q11 = some r) : zdj q00 q04 q01 q05 q02 q06 q07 q09 q0b q0e q0d i q11 = true ∧ zce q00 q04 q01 q05 q02 q06 q07 q09 q0b q0e q0d i q11 = r.1 ∧ zcf q00 q04 q01 q05 q02 q06 q07 q09 q0b q0e q0d i q11 = r.2 := by
  unfold zdj zce zcf
  rw [h]
  exact ⟨rfl, rfl, rfl⟩
noncomputable def zcs {R : Type} (q00 : Nat) (q04 : List Nat) (q01 : Nat) (q05 : List Nat) (q02 : Nat) (q06 : List Nat) (q07 : Nat) (q09 : List Nat) (q0b : Int) (q0e : Nat) (q0d : Nat) (i : Int) (q11 : Nat) (q29 : Nat) (k_ : Nat → Nat → Bool → Option R) : Option R := (grd (z34 q00 (pF q04 0 (muN q00 1)) q01 (pF q05 0 (muN q01 1)) q02 (pF q06 0 (muN q02 1)) q07 (pF q09 0 (muN q07 3)) q0b q0e q0d) (br (bnot (z2q q00 (pF q04 0 (muN q00 1)) q01 (pF q05 0 (muN q01 1)) q02 (pF q06 0 (muN q02 1)) q07 (pF q09 0 (muN q07 3)) q0b q0e q0d)) (k_ 0 0 Bool.false) (grd (z69 q00 (pF q04 0 (muN q00 1)) q01 (pF q05 0 (muN q01 1)) q02 (pF q06 0 (muN q02 1)) q07 (pF q09 0 (muN q07 3)) q0b q0e q0d i) (br (bnot (z5s q00 (pF q04 0 (muN q00 1)) q01 (pF q05 0 (muN q01 1)) q02 (pF q06 0 (muN q02 1)) q07 (pF q09 0 (muN q07 3)) q0b q0e q0d i)) (k_ 0 0 Bool.false) (grd (zlj q11) (br (bnot (zki q11)) (k_ 0 0 Bool.false) (grd (z4m q29) (br (bnot (z46 q29)) (k_ 0 0 Bool.false) (grd (okIx i q07) (grd (z4m (fop .sub .f32 (fop .sub .f32 q11 (gF q09 (Nat.succ (Nat.succ (ixO 0 i 3))))) q29)) (br (bnot (z46 (fop .sub .f32 (fop .sub .f32 q11 (gF q09 (Nat.succ (Nat.succ (ixO 0 i 3))))) q29))) (k_ 0 0 Bool.false) (grd (zfi q00 (pF q04 0 (muN q00 1)) q01 (pF q05 0 (muN q01 1)) q02 (pF q06 0 (muN q02 1)) q07 (pF q09 0 (muN q07 3)) q0b q0e q0d i q11 q29) (grd (zj9 (z7k q00 (pF q04 0 (muN q00 1)) q01 (pF q05 0 (muN q01 1)) q02 (pF q06 0 (muN q02 1)) q07 (pF q09 0 (muN q07 3)) q0b q0e q0d i q11 q29) (z7d q00 (pF q04 0 (muN q00 1)) q01 (pF q05 0 (muN q01 1)) q02 (pF q06 0 (muN q02 1)) q07 (pF q09 0 (muN q07 3)) q0b q0e q0d i q11 q29)) (k_ (zi2 (z7k q00 (pF q04 0 (muN q00 1)) q01 (pF q05 0 (muN q01 1)) q02 (pF q06 0 (muN q02 1)) q07 (pF q09 0 (muN q07 3)) q0b q0e q0d i q11 q29) (z7d q00 (pF q04 0 (muN q00 1)) q01 (pF q05 0 (muN q01 1)) q02 (pF q06 0 (muN q02 1)) q07 (pF q09 0 (muN q07 3)) q0b q0e q0d i q11 q29)) (zhq (z7k q00 (pF q04 0 (muN q00 1)) q01 (pF q05 0 (muN q01 1)) q02 (pF q06 0 (muN q02 1)) q07 (pF q09 0 (muN q07 3)) q0b q0e q0d i q11 q29) (z7d q00 (pF q04 0 (muN q00 1)) q01 (pF q05 0 (muN q01 1)) q02 (pF q06 0 (muN q02 1)) q07 (pF q09 0 (muN q07 3)) q0b q0e q0d i q11 q29)) (zgq (z7k q00 (pF q04 0 (muN q00 1)) q01 (pF q05 0 (muN q01 1)) q02 (pF q06 0 (muN q02 1)) q07 (pF q09 0 (muN q07 3)) q0b q0e q0d i q11 q29) (z7d q00 (pF q04 0 (muN q00 1)) q01 (pF q05 0 (muN q01 1)) q02 (pF q06 0 (muN q02 1)) q07 (pF q09 0 (muN q07 3)) q0b q0e q0d i q11 q29))))))))))))))))
noncomputable def z94 (q00 : Nat) (q04 : List Nat) (q01 : Nat) (q05 : List Nat) (q02 : Nat) (q06 : List Nat) (q07 : Nat) (q09 : List Nat) (q0b : Int) (q0e : Nat) (q0d : Nat) (i : Int) (q11 : Nat) (q29 : Nat) : Option (Nat × Nat × Bool) := zcs q00 q04 q01 q05 q02 q06 q07 q09 q0b q0e q0d i q11 q29 (fun c0_ c1_ c2_ => some (c0_, c1_, c2_))
theorem y0j {R R' : Type} (o : Option R → Option R') (h0 : o none = none) (q00 : Nat) (q04 : List Nat) (q01 : Nat) (q05 : List Nat) (q02 : Nat) (q06 : List Nat) (q07 : Nat) (q09 : List Nat) (q0b : Int) (q0e : Nat) (q0d : Nat) (i : Int) (q11 : Nat) (q29 : Nat) (k_ : Nat → Nat → Bool → Option R) : zcs q00 q04 q01 q05 q02 q06 q07 q09 q0b q0e q0d i q11 q29 (fun c0_ c1_ c2_ => o (k_ c0_ c1_ c2_)) = o (zcs q00 q04 q01 q05 q02 q06 q07 q09 q0b q0e q0d i q11 q29 k_) := by
  unfold zcs
  repeat (first | refine z0k h0 ?_ | refine z0r ?_ ?_ | rfl | exact h0.symm)
noncomputable def zhr (q00 : Nat) (q04 : List Nat) (q01 : Nat) (q05 : List Nat) (q02 : Nat) (q06 : List Nat) (q07 : Nat) (q09 : List Nat) (q0b : Int) (q0e : Nat) (q0d : Nat) (i : Int) (q11 : Nat) (q29 : Nat) : Bool := (z94 q00 q04 q01 q05 q02 q06 q07 q09 q0b q0e q0d i q11 q29).isSome
noncomputable def zez (q00 : Nat) (q04 : List Nat) (q01 : Nat) (q05 : List Nat) (q02 : Nat) (q06 : List Nat) (q07 : Nat) (q09 : List Nat) (q0b : Int) (q0e : Nat) (q0d : Nat) (i : Int) (q11 : Nat) (q29 : Nat) : Nat := ((z94 q00 q04 q01 q05 q02 q06 q07 q09 q0b q0e q0d i q11 q29).getD default).1
noncomputable def zeu (q00 : Nat) (q04 : List Nat) (q01 : Nat) (q05 : List Nat) (q02 : Nat) (q06 : List Nat) (q07 : Nat) (q09 : List Nat) (q0b : Int) (q0e : Nat) (q0d : Nat) (i : Int) (q11 : Nat) (q29 : Nat) : Nat := ((z94 q00 q04 q01 q05 q02 q06 q07 q09 q0b q0e q0d i q11 q29).getD default).2.1
noncomputable def zf7 (q00 : Nat) (q04 : List Nat) (q01 : Nat) (q05 : List Nat) (q02 : Nat) (q06 : List Nat) (q07 : Nat) (q09 : List Nat) (q0b : Int) (q0e : Nat) (q0d : Nat) (i : Int) (q11 : Nat) (q29 : Nat) : Bool := ((z94 q00 q04 q01 q05 q02 q06 q07 q09 q0b q0e q0d i q11 q29).getD default).2.2
theorem zun {q00 : Nat} {q04 : List Nat} {q01 : Nat} {q05 : List Nat} {q02 : Nat} {q06 : List Nat} {q07 : Nat} {q09 : List Nat} {q0b : Int} {q0e : Nat} {q0d : Nat} {i : Int} {q11 : Nat} {q29 : Nat} {r : Nat × Nat × Bool} (h : z94 q00 q04 q01 q05 q02 q06 q07 q09 q0b q0e q0d i q11 q29 = some r) : zhr q00 q04 q01 q05 q02 q06 q07 q09 q0b q0e q0d i q11 q29 = true ∧ zez q00 q04 q01 q05 q02 q06 q07 q09 q0b q0e q0d i q11 q29 = r.1 ∧ zeu q00 q04 q01 q05 q02 q06 q07 q09 q0b q0e q0d i q11 q29 = r.2.1 ∧ zf7 q00 q04 q01 q05 q02 q06 q07 q09 q0b q0e q0d i q11 q29 = r.2.2 := by
  unfold zhr zez zeu zf7
  rw [h]
  exact ⟨rfl, rfl, rfl, rfl⟩
noncomputable def zd3 {R : Type} (q00 : Nat) (q04 : List Nat) (q01 : Nat) (q05 : List Nat) (q02 : Nat) (q06 : List Nat) (q07 : Nat) (q09 : List Nat) (q0b : Int) (q0e : Nat) (q0d : Nat) (q3r : Nat) (q3k : Nat) (k_ : Nat → Bool → Option R) : Option R := (grd (z34 q00 (pF q04 0 (muN q00 1)) q01 (pF q05 0 (muN q01 1)) q02 (pF q06 0 (muN q02 1)) q07 (pF q09 0 (muN q07 3)) q0b q0e q0d) (br (bnot (z2q q00 (pF q04 0 (muN q00 1)) q01 (pF q05 0 (muN q01 1)) q02 (pF q06 0 (muN q02 1)) q07 (pF q09 0 (muN q07 3)) q0b q0e q0d)) (k_ 0 Bool.false) (grd (za2 2 (pF [q3r, q3k] 0 (muN 2 1))) (br (bnot (z9a 2 (pF [q3r, q3k] 0 (muN 2 1)))) (k_ 0 Bool.false) (grd (zej (fop .quo .f32 (fop .mul .f32 q3k q0d) q3r)) (k_ (zcv (fop .quo .f32 (fop .mul .f32 q3k q0d) q3r)) (zcx (fop .quo .f32 (fop .mul .f32 q3k q0d) q3r))))))))
noncomputable def z8g (q00 : Nat) (q04 : List Nat) (q01 : Nat) (q05 : List Nat) (q02 : Nat) (q06 : List Nat) (q07 : Nat) (q09 : List Nat) (q0b : Int) (q0e : Nat) (q0d : Nat) (q3r : Nat) (q3k : Nat) : Option (Nat × Bool) := zd3 q00 q04 q01 q05 q02 q06 q07 q09 q0b q0e q0d q3r q3k (fun c0_ c1_ => some (c0_, c1_))
theorem y0u {R R' : Type} (o : Option R → Option R') (h0 : o none = none) (q00 : Nat) (q04 : List Nat) (q01 : Nat) (q05 : List Nat) (q02 : Nat) (q06 : List Nat) (q07 : Nat) (q09 : List Nat) (q0b : Int) (q0e : Nat) (q0d : Nat) (q3r : Nat) (q3k : Nat) (k_ : Nat → Bool → Option R) : zd3 q00 q04 q01 q05 q02 q06 q07 q09 q0b q0e q0d q3r q3k (fun c0_ c1_ => o (k_ c0_ c1_)) = o (zd3 q00 q04 q01 q05 q02 q06 q07 q09 q0b q0e q0d q3r q3k k_) := by
  unfold zd3
  repeat (first | refine z0k h0 ?_ | refine z0r ?_ ?_ | rfl | exact h0.symm)
noncomputable def zhx (q00 : Nat) (q04 : List Nat) (q01 : Nat) (q05 : List Nat) (q02 : Nat) (q06 : List Nat) (q07 : Nat) (q09 : List Nat) (q0b : Int) (q0e : Nat) (q0d : Nat) (q3r : Nat) (q3k : Nat) : Bool := (z8g q00 q04 q01 q05 q02 q06 q07 q09 q0b q0e q0d q3r q3k).isSome
noncomputable def zes (q00 : Nat) (q04 : List Nat) (q01 : Nat) (q05 : List Nat) (q02 : Nat) (q06 : List Nat) (q07 : Nat) (q09 : List Nat) (q0b : Int) (q0e : Nat) (q0d : Nat) (q3r : Nat) (q3k : Nat) : Nat := ((z8g q00 q04 q01 q05 q02 q06 q07 q09 q0b q0e q0d q3r q3k).getD default).1
noncomputable def zf6 (q00 : Nat) (q04 : List Nat) (q01 : Nat) (q05 : List Nat) (q02 : Nat) (q06 : List Nat) (q07 : Nat) (q09 : List Nat) (q0b : Int) (q0e : Nat) (q0d : Nat) (q3r : Nat) (q3k : Nat) : Bool := ((z8g q00 q04 q01 q05 q02 q06 q07 q09 q0b q0e q0d q3r q3k).getD default).2
theorem zv8 {q00 : Nat} {q04 : List Nat} {q01 : Nat} {q05 : List Nat} {q02 : Nat} {q06 : List Nat} {q07 : Nat} {q09 : List Nat} {q0b : Int} {q0e : Nat} {q0d : Nat} {q3r : Nat} {q3k : Nat} {r : Nat × Bool} (h : z8g q00 q04 q01 q05 q02 q06 q07 q09 q0b q0e q0d q3r q3k = some r) : zhx q00 q04 q01 q05 q02 q06 q07 q09 q0b q0e q0d q3r q3k = true ∧ zes q00 q04 q01 q05 q02 q06 q07 q09 q0b q0e q0d q3r q3k = r.1 ∧ zf6 q00 q04 q01 q05 q02 q06 q07 q09 q0b q0e q0d q3r q3k = r.2 := by
  unfold zhx zes zf6
  rw [h]
  exact ⟨rfl, rfl, rfl⟩
noncomputable def zar {R : Type} (q00 : Nat) (q04 : List Nat) (q01 : Nat) (q05 : List Nat) (q02 : Nat) (q06 : List Nat) (q07 : Nat) (q09 : List Nat) (q0b : Int) (q0e : Nat) (q0d : Nat) (i : Int) (q1j : Nat) (q1x : Nat) (q1w : Nat) (k_ : Nat → Nat → Nat → Nat → Int → Nat → Nat → Bool → (List Nat) → (List Nat) → (List Nat) → (List Nat) → Option R) : Option R := (grd (z34 q00 (pF q04 0 (muN q00 1)) q01 (pF q05 0 (muN q01 1)) q02 (pF q06 0 (muN q02 1)) q07 (pF q09 0 (muN q07 3)) q0b q0e q0d) (br (bnot (z2q q00 (pF q04 0 (muN q00 1)) q01 (pF q05 0 (muN q01 1)) q02 (pF q06 0 (muN q02 1)) q07 (pF q09 0 (muN q07 3)) q0b q0e q0d)) (k_ 0 0 0 0 0 0 0 Bool.false [] [] [] []) (grd (z69 q00 (pF q04 0 (muN q00 1)) q01 (pF q05 0 (muN q01 1)) q02 (pF q06 0 (muN q02 1)) q07 (pF q09 0 (muN q07 3)) q0b q0e q0d i) (br (bnot (z5s q00 (pF q04 0 (muN q00 1)) q01 (pF q05 0 (muN q01 1)) q02 (pF q06 0 (muN q02 1)) q07 (pF q09 0 (muN q07 3)) q0b q0e q0d i)) (k_ 0 0 0 0 0 0 0 Bool.false [] [] [] []) (grd (zbw q00 (pF q04 0 (muN q00 1)) q01 (pF q05 0 (muN q01 1)) q02 (pF q06 0 (muN q02 1)) q07 (pF q09 0 (muN q07 3)) q0b q0e q0d) (grd (okIx i (z0t q00 (pF q04 0 (muN q00 1)) q01 (pF q05 0 (muN q01 1)) q02 (pF q06 0 (muN q02 1)) q07 (pF q09 0 (muN q07 3)) q0b q0e q0d)) (grd (z34 (z1z q00 (pF q04 0 (muN q00 1)) q01 (pF q05 0 (muN q01 1)) q02 (pF q06 0 (muN q02 1)) q07 (pF q09 0 (muN q07 3)) q0b q0e q0d) (pF (z49 q00 (pF q04 0 (muN q00 1)) q01 (pF q05 0 (muN q01 1)) q02 (pF q06 0 (muN q02 1)) q07 (pF q09 0 (muN q07 3)) q0b q0e q0d) 0 (muN (z1z q00 (pF q04 0 (muN q00 1)) q01 (pF q05 0 (muN q01 1)) q02 (pF q06 0 (muN q02 1)) q07 (pF q09 0 (muN q07 3)) q0b q0e q0d) 1)) (z1y q00 (pF q04 0 (muN q00 1)) q01 (pF q05 0 (muN q01 1)) q02 (pF q06 0 (muN q02 1)) q07 (pF q09 0 (muN q07 3)) q0b q0e q0d) (pF (z4b q00 (pF q04 0 (muN q00 1)) q01 (pF q05 0 (muN q01 1)) q02 (pF q06 0 (muN q02 1)) q07 (pF q09 0 (muN q07 3)) q0b q0e q0d) 0 (muN (z1y q00 (pF q04 0 (muN q00 1)) q01 (pF q05 0 (muN q01 1)) q02 (pF q06 0 (muN q02 1)) q07 (pF q09 0 (muN q07 3)) q0b q0e q0d) 1)) (z20 q00 (pF q04 0 (muN q00 1)) q01 (pF q05 0 (muN q01 1)) q02 (pF q06 0 (muN q02 1)) q07 (pF q09 0 (muN q07 3)) q0b q0e q0d) (pF (z4a q00 (pF q04 0 (muN q00 1)) q01 (pF q05 0 (muN q01 1)) q02 (pF q06 0 (muN q02 1)) q07 (pF q09 0 (muN q07 3)) q0b q0e q0d) 0 (muN (z20 q00 (pF q04 0 (muN q00 1)) q01 (pF q05 0 (muN q01 1)) q02 (pF q06 0 (muN q02 1)) q07 (pF q09 0 (muN q07 3)) q0b q0e q0d) 1)) (z0t q00 (pF q04 0 (muN q00 1)) q01 (pF q05 0 (muN q01 1)) q02 (pF q06 0 (muN q02 1)) q07 (pF q09 0 (muN q07 3)) q0b q0e q0d) (pF (sF (sF (sF (z3j q00 (pF q04 0 (muN q00 1)) q01 (pF q05 0 (muN q01 1)) q02 (pF q06 0 (muN q02 1)) q07 (pF q09 0 (muN q07 3)) q0b q0e q0d) (ixO 0 i 3) q1j) (Nat.succ (ixO 0 i 3)) q1x) (Nat.succ (Nat.succ (ixO 0 i 3))) q1w) 0 (muN (z0t q00 (pF q04 0 (muN q00 1)) q01 (pF q05 0 (muN q01 1)) q02 (pF q06 0 (muN q02 1)) q07 (pF q09 0 (muN q07 3)) q0b q0e q0d) 3)) q0b q0e q0d) (br (bnot (z2q (z1z q00 (pF q04 0 (muN q00 1)) q01 (pF q05 0 (muN q01 1)) q02 (pF q06 0 (muN q02 1)) q07 (pF q09 0 (muN q07 3)) q0b q0e q0d) (pF (z49 q00 (pF q04 0 (muN q00 1)) q01 (pF q05 0 (muN q01 1)) q02 (pF q06 0 (muN q02 1)) q07 (pF q09 0 (muN q07 3)) q0b q0e q0d) 0 (muN (z1z q00 (pF q04 0 (muN q00 1)) q01 (pF q05 0 (muN q01 1)) q02 (pF q06 0 (muN q02 1)) q07 (pF q09 0 (muN q07 3)) q0b q0e q0d) 1)) (z1y q00 (pF q04 0 (muN q00 1)) q01 (pF q05 0 (muN q01 1)) q02 (pF q06 0 (muN q02 1)) q07 (pF q09 0 (muN q07 3)) q0b q0e q0d) (pF (z4b q00 (pF q04 0 (muN q00 1)) q01 (pF q05 0 (muN q01 1)) q02 (pF q06 0 (muN q02 1)) q07 (pF q09 0 (muN q07 3)) q0b q0e q0d) 0 (muN (z1y q00 (pF q04 0 (muN q00 1)) q01 (pF q05 0 (muN q01 1)) q02 (pF q06 0 (muN q02 1)) q07 (pF q09 0 (muN q07 3)) q0b q0e q0d) 1)) (z20 q00 (pF q04 0 (muN q00 1)) q01 (pF q05 0 (muN q01 1)) q02 (pF q06 0 (muN q02 1)) q07 (pF q09 0 (muN q07 3)) q0b q0e q0d) (pF (z4a q00 (pF q04 0 (muN q00 1)) q01 (pF q05 0 (muN q01 1)) q02 (pF q06 0 (muN q02 1)) q07 (pF q09 0 (muN q07 3)) q0b q0e q0d) 0 (muN (z20 q00 (pF q04 0 (muN q00 1)) q01 (pF q05 0 (muN q01 1)) q02 (pF q06 0 (muN q02 1)) q07 (pF q09 0 (muN q07 3)) q0b q0e q0d) 1)) (z0t q00 (pF q04 0 (muN q00 1)) q01 (pF q05 0 (muN q01 1)) q02 (pF q06 0 (muN q02 1)) q07 (pF q09 0 (muN q07 3)) q0b q0e q0d) (pF (sF (sF (sF (z3j q00 (pF q04 0 (muN q00 1)) q01 (pF q05 0 (muN q01 1)) q02 (pF q06 0 (muN q02 1)) q07 (pF q09 0 (muN q07 3)) q0b q0e q0d) (ixO 0 i 3) q1j) (Nat.succ (ixO 0 i 3)) q1x) (Nat.succ (Nat.succ (ixO 0 i 3))) q1w) 0 (muN (z0t q00 (pF q04 0 (muN q00 1)) q01 (pF q05 0 (muN q01 1)) q02 (pF q06 0 (muN q02 1)) q07 (pF q09 0 (muN q07 3)) q0b q0e q0d) 3)) q0b q0e q0d)) (k_ 0 0 0 0 0 0 0 Bool.false [] [] [] []) (k_ (z1z q00 (pF q04 0 (muN q00 1)) q01 (pF q05 0 (muN q01 1)) q02 (pF q06 0 (muN q02 1)) q07 (pF q09 0 (muN q07 3)) q0b q0e q0d) (z1y q00 (pF q04 0 (muN q00 1)) q01 (pF q05 0 (muN q01 1)) q02 (pF q06 0 (muN q02 1)) q07 (pF q09 0 (muN q07 3)) q0b q0e q0d) (z20 q00 (pF q04 0 (muN q00 1)) q01 (pF q05 0 (muN q01 1)) q02 (pF q06 0 (muN q02 1)) q07 (pF q09 0 (muN q07 3)) q0b q0e q0d) (z0t q00 (pF q04 0 (muN q00 1)) q01 (pF q05 0 (muN q01 1)) q02 (pF q06 0 (muN q02 1)) q07 (pF q09 0 (muN q07 3)) q0b q0e q0d) q0b q0e q0d Bool.true (z49 q00 (pF q04 0 (muN q00 1)) q01 (pF q05 0 (muN q01 1)) q02 (pF q06 0 (muN q02 1)) q07 (pF q09 0 (muN q07 3)) q0b q0e q0d) (z4b q00 (pF q04 0 (muN q00 1)) q01 (pF q05 0 (muN q01 1)) q02 (pF q06 0 (muN q02 1)) q07 (pF q09 0 (muN q07 3)) q0b q0e q0d) (z4a q00 (pF q04 0 (muN q00 1)) q01 (pF q05 0 (muN q01 1)) q02 (pF q06 0 (muN q02 1)) q07 (pF q09 0 (muN q07 3)) q0b q0e q0d) (sF (sF (sF (z3j q00 (pF q04 0 (muN q00 1)) q01 (pF q05 0 (muN q01 1)) q02 (pF q06 0 (muN q02 1)) q07 (pF q09 0 (muN q07 3)) q0b q0e q0d) (ixO 0 i 3) q1j) (Nat.succ (ixO 0 i 3)) q1x) (Nat.succ (Nat.succ (ixO 0 i 3))) q1w))))))))))
noncomputable def z1w (q00 : Nat) (q04 : List Nat) (q01 : Nat) (q05 : List Nat) (q02 : Nat) (q06 : List Nat) (q07 : Nat) (q09 : List Nat) (q0b : Int) (q0e : Nat) (q0d : Nat) (i : Int) (q1j : Nat) (q1x : Nat) (q1w : Nat) : Option (Nat × Nat × Nat × Nat × Int × Nat × Nat × Bool × (List Nat) × (List Nat) × (List Nat) × (List Nat)) := zar q00 q04 q01 q05 q02 q06 q07 q09 q0b q0e q0d i q1j q1x q1w (fun c0_ c1_ c2_ c3_ c4_ c5_ c6_ c7_ c8_ c9_ c10_ c11_ => some (c0_, c1_, c2_, c3_, c4_, c5_, c6_, c7_, c8_, c9_, c10_, c11_))
theorem zxd {R R' : Type} (o : Option R → Option R') (h0 : o none = none) (q00 : Nat) (q04 : List Nat) (q01 : Nat) (q05 : List Nat) (q02 : Nat) (q06 : List Nat) (q07 : Nat) (q09 : List Nat) (q0b : Int) (q0e : Nat) (q0d : Nat) (i : Int) (q1j : Nat) (q1x : Nat) (q1w : Nat) (k_ : Nat → Nat → Nat → Nat → Int → Nat → Nat → Bool → (List Nat) → (List Nat) → (List Nat) → (List Nat) → Option R) : zar q00 q04 q01 q05 q02 q06 q07 q09 q0b q0e q0d i q1j q1x q1w (fun c0_ c1_ c2_ c3_ c4_ c5_ c6_ c7_ c8_ c9_ c10_ c11_ => o (k_ c0_ c1_ c2_ c3_ c4_ c5_ c6_ c7_ c8_ c9_ c10_ c11_)) = o (zar q00 q04 q01 q05 q02 q06 q07 q09 q0b q0e q0d i q1j q1x q1w k_) := by
  unfold zar
  repeat (first | refine z0k h0 ?_ | refine z0r ?_ ?_ | rfl | exact h0.symm)
noncomputable def zja (q00 : Nat) (q04 : List Nat) (q01 : Nat) (q05 : List Nat) (q02 : Nat) (q06 : List Nat) (q07 : Nat) (q09 : List Nat) (q0b : Int) (q0e : Nat) (q0d : Nat) (i : Int) (q1j : Nat) (q1x : Nat) (q1w : Nat) : Bool := (z1w q00 q04 q01 q05 q02 q06 q07 q09 q0b q0e q0d i q1j q1x q1w).isSome
noncomputable def zi6 (q00 : Nat) (q04 : List Nat) (q01 : Nat) (q05 : List Nat) (q02 : Nat) (q06 : List Nat) (q07 : Nat) (q09 : List Nat) (q0b : Int) (q0e : Nat) (q0d : Nat) (i : Int) (q1j : Nat) (q1x : Nat) (q1w : Nat) : Nat := ((z1w q00 q04 q01 q05 q02 q06 q07 q09 q0b q0e q0d i q1j q1x q1w).getD default).1
noncomputable def zhm (q00 : Nat) (q04 : List Nat) (q01 : Nat) (q05 : List Nat) (q02 : Nat) (q06 : List Nat) (q07 : Nat) (q09 : List Nat) (q0b : Int) (q0e : Nat) (q0d : Nat) (i : Int) (q1j : Nat) (q1x : Nat) (q1w : Nat) : Nat := ((z1w q00 q04 q01 q05 q02 q06 q07 q09 q0b q0e q0d i q1j q1x q1w).getD default).2.1
noncomputable def zhc (q00 : Nat) (q04 : List Nat) (q01 : Nat) (q05 : List Nat) (q02 : Nat) (q06 : List Nat) (q07 : Nat) (q09 : List Nat) (q0b : Int) (q0e : Nat) (q0d : Nat) (i : Int) (q1j : Nat) (q1x : Nat) (q1w : Nat) : Nat := ((z1w q00 q04 q01 q05 q02 q06 q07 q09 q0b q0e q0d i q1j q1x q1w).getD default).2.2.1
noncomputable def zhg (q00 : Nat) (q04 : List Nat) (q01 : Nat) (q05 : List Nat) (q02 : Nat) (q06 : List Nat) (q07 : Nat) (q09 : List Nat) (q0b : Int) (q0e : Nat) (q0d : Nat) (i : Int) (q1j : Nat) (q1x : Nat) (q1w : Nat) : Nat := ((z1w q00 q04 q01 q05 q02 q06 q07 q09 q0b q0e q0d i q1j q1x q1w).getD default).2.2.2.1
noncomputable def zh6 (q00 : Nat) (q04 : List Nat) (q01 : Nat) (q05 : List Nat) (q02 : Nat) (q06 : List Nat) (q07 : Nat) (q09 : List Nat) (q0b : Int) (q0e : Nat) (q0d : Nat) (i : Int) (q1j : Nat) (q1x : Nat) (q1w : Nat) : Int := ((z1w q00 q04 q01 q05 q02 q06 q07 q09 q0b q0e q0d i q1j q1x q1w).getD default).2.2.2.2.1
noncomputable def zgo (q00 : Nat) (q04 : List Nat) (q01 : Nat) (q05 : List Nat) (q02 : Nat) (q06 : List Nat) (q07 : Nat) (q09 : List Nat) (q0b : Int) (q0e : Nat) (q0d : Nat) (i : Int) (q1j : Nat) (q1x : Nat) (q1w : Nat) : Nat := ((z1w q00 q04 q01 q05 q02 q06 q07 q09 q0b q0e q0d i q1j q1x q1w).getD default).2.2.2.2.2.1
noncomputable def zhw (q00 : Nat) (q04 : List Nat) (q01 : Nat) (q05 : List Nat) (q02 : Nat) (q06 : List Nat) (q07 : Nat) (q09 : List Nat) (q0b : Int) (q0e : Nat) (q0d : Nat) (i : Int) (q1j : Nat) (q1x : Nat) (q1w : Nat) : Nat := ((z1w q00 q04 q01 q05 q02 q06 q07 q09 q0b q0e q0d i q1j q1x q1w).getD default).2.2.2.2.2.2.1
noncomputable def zi8 (q00 : Nat) (q04 : List Nat) (q01 : Nat) (q05 : List Nat) (q02 : Nat) (q06 : List Nat) (q07 : Nat) (q09 : List Nat) (q0b : Int) (q0e : Nat) (q0d : Nat) (i : Int) (q1j : Nat) (q1x : Nat) (q1w : Nat) : Bool := ((z1w q00 q04 q01 q05 q02 q06 q07 q09 q0b q0e q0d i q1j q1x q1w).getD default).2.2.2.2.2.2.2.1
noncomputable def zhd (q00 : Nat) (q04 : List Nat) (q01 : Nat) (q05 : List Nat) (q02 : Nat) (q06 : List Nat) (q07 : Nat) (q09 : List Nat) (q0b : Int) (q0e : Nat) (q0d : Nat) (i : Int) (q1j : Nat) (q1x : Nat) (q1w : Nat) : List Nat := ((z1w q00 q04 q01 q05 q02 q06 q07 q09 q0b q0e q0d i q1j q1x q1w).getD default).2.2.2.2.2.2.2.2.1
noncomputable def zh1 (q00 : Nat) (q04 : List Nat) (q01 : Nat) (q05 : List Nat) (q02 : Nat) (q06 : List Nat) (q07 : Nat) (q09 : List Nat) (q0b : Int) (q0e : Nat) (q0d : Nat) (i : Int) (q1j : Nat) (q1x : Nat) (q1w : Nat) : List Nat := ((z1w q00 q04 q01 q05 q02 q06 q07 q09 q0b q0e q0d i q1j q1x q1w).getD default).2.2.2.2.2.2.2.2.2.1
noncomputable def zfg (q00 : Nat) (q04 : List Nat) (q01 : Nat) (q05 : List Nat) (q02 : Nat) (q06 : List Nat) (q07 : Nat) (q09 : List Nat) (q0b : Int) (q0e : Nat) (q0d : Nat) (i : Int) (q1j : Nat) (q1x : Nat) (q1w : Nat) : List Nat := ((z1w q00 q04 q01 q05 q02 q06 q07 q09 q0b q0e q0d i q1j q1x q1w).getD default).2.2.2.2.2.2.2.2.2.2.1
noncomputable def zfe (q00 : Nat) (q04 : List Nat) (q01 : Nat) (q05 : List Nat) (q02 : Nat) (q06 : List Nat) (q07 : Nat) (q09 : List Nat) (q0b : Int) (q0e : Nat) (q0d : Nat) (i : Int) (q1j : Nat) (q1x : Nat) (q1w : Nat) : List Nat := ((z1w q00 q04 q01 q05 q02 q06 q07 q09 q0b q0e q0d i q1j q1x q1w).getD default).2.2.2.2.2.2.2.2.2.2.2
theorem y2f {q00 : Nat} {q04 : List Nat} {q01 : Nat} {q05 : List Nat} {q02 : Nat} {q06 : List Nat} {q07 : Nat} {q09 : List Nat} {q0b : Int} {q0e : Nat} {q0d : Nat} {i : Int} {q1j : Nat} {q1x : Nat} {q1w : Nat} {r : Nat × Nat × Nat × Nat × Int × Nat × Nat × Bool × (List Nat) × (List Nat) × (List Nat) × (List Nat)} (h : z1w q00 q04 q01 q05 q02 q06 q07 q09 q0b q0e q0d i q1j q1x q1w = some r) : zja q00 q04 q01 q05 q02 q06 q07 q09 q0b q0e q0d i q1j q1x q1w = true ∧ zi6 q00 q04 q01 q05 q02 q06 q07 q09 q0b q0e q0d i q1j q1x q1w = r.1 ∧ zhm q00 q04 q01 q05 q02 q06 q07 q09 q0b q0e q0d i q1j q1x q1w = r.2.1 ∧ zhc q00 q04 q01 q05 q02 q06 q07 q09 q0b q0e q0d i q1j q1x q1w = r.2.2.1 ∧ zhg q00 q04 q01 q05 q02 q06 q07 q09 q0b q0e q0d i q1j q1x q1w = r.2.2.2.1 ∧ zh6 q00 q04 q01 q05 q02 q06 q07 q09 q0b q0e q0d i q1j q1x q1w = r.2.2.2.2.1 ∧ zgo q00 q04 q01 q05 q02 q06 q07 q09 q0b q0e q0d i q1j q1x q1w = r.2.2.2.2.2.1 ∧ zhw q00 q04 q01 q05 q02 q06 q07 q09 q0b q0e q0d i q1j q1x q1w = r.2.2.2.2.2.2.1 ∧ zi8 q00 q04 q01 q05 q02 q06 q07 q09 q0b q0e q0d i q1j q1x q1w = r.2.2.2.2.2.2.2.1 ∧ zhd q00 q04 q01 q05 q02 q06 q07 q09 q0b q0e q0d i q1j q1x q1w = r.2.2.2.2.2.2.2.2.1 ∧ zh1 q00 q04 q01 q05 q02 q06 q07 q09 q0b q0e q0d i q1j q1x q1w = r.2.2.2.2.2.2.2.2.2.1 ∧ zfg q00 q04 q01 q05 q02 q06 q07 q09 q0b q0e q0d i q1j q1x q1w = r.2.2.2.2.2.2.2.2.2.2.1 ∧ zfe q00 q04 q01 q05 q02 q06 q07 q09 q0b q0e q0d i q1j q1x q1w = r.2.2.2.2.2.2.2.2.2.2.2 := by
  unfold zja zi6 zhm zhc zhg zh6 zgo zhw zi8 zhd zh1 zfg zfe
  rw [h]
  exact ⟨rfl, rfl, rfl, rfl, rfl, rfl, rfl, rfl, rfl, rfl, rfl, rfl, rfl⟩
noncomputable def z3g {R : Type} (b0 : List Int) (q0g : Nat) (q0l : Int) (q0m : Int) (kn_ : Unit → Option R) (k0_ : Int → Int → Int → Option R) : Option R := (br (ltI q0l (Int.ofNat q0g)) (grd (okIx q0l q0g) (br (leI (addI .i64 q0l 1) (Int.ofNat q0g)) (k0_ (cvI .i64 (gI b0 (ixO 0 q0l 1))) (addI .i64 q0l 1) (addI .u64 (addI .u64 (mulI .u64 q0m 6364136223846793005) (cvI .u64 (cvI .i64 (gI b0 (ixO 0 q0l 1))))) 1442695040888963407)) (k0_ (cvI .i64 (bitI .and .u64 (shI Bool.false .u64 (addI .u64 (addI .u64 (mulI .u64 q0m 6364136223846793005) (cvI .u64 (cvI .i64 (gI b0 (ixO 0 q0l 1))))) 1442695040888963407) 40) 255)) (addI .i64 q0l 1) (addI .u64 (addI .u64 (mulI .u64 q0m 6364136223846793005) (cvI .u64 (cvI .i64 (gI b0 (ixO 0 q0l 1))))) 1442695040888963407)))) (br (leI (addI .i64 q0l 1) (Int.ofNat q0g)) (k0_ 0 (addI .i64 q0l 1) (addI .u64 (addI .u64 (mulI .u64 q0m 6364136223846793005) (cvI .u64 0)) 1442695040888963407)) (k0_ (cvI .i64 (bitI .and .u64 (shI Bool.false .u64 (addI .u64 (addI .u64 (mulI .u64 q0m 6364136223846793005) (cvI .u64 0)) 1442695040888963407) 40) 255)) (addI .i64 q0l 1) (addI .u64 (addI .u64 (mulI .u64 q0m 6364136223846793005) (cvI .u64 0)) 1442695040888963407))))
theorem zmo {R R' : Type} (o : Option R → Option R') (h0 : o none = none) (b0 : List Int) (q0g : Nat) (q0l : Int) (q0m : Int) (kn_ : Unit → Option R) (k0_ : Int → Int → Int → Option R) : z3g b0 q0g q0l q0m (fun _ => o (kn_ ())) (fun c0_ c1_ c2_ => o (k0_ c0_ c1_ c2_)) = o (z3g b0 q0g q0l q0m kn_ k0_) := by
  unfold z3g
  repeat (first | refine z0k h0 ?_ | refine z0r ?_ ?_ | rfl | exact h0.symm)
noncomputable def z1d (b0 : List Int) (q0g : Nat) (q0l : Int) (q0m : Int) : Nat → Option ((Int × Int × Int))
  | 0 => none
  | n + 1 => z3g b0 q0g q0l q0m    (fun _ => z1d b0 q0g q0l q0m n ) (fun c0_ c1_ c2_ => some (c0_, c1_, c2_))
theorem zm6 (b0 : List Int) (q0g : Nat) (q0l : Int) (q0m : Int) (n : Nat)  : z1d b0 q0g q0l q0m (n + 1)  = z3g b0 q0g q0l q0m    (fun _ => z1d b0 q0g q0l q0m n ) (fun c0_ c1_ c2_ => some (c0_, c1_, c2_)) := rfl
noncomputable def z2o (b0 : List Int) (q0g : Nat) (q0l : Int) (q0m : Int) : Bool := (z1d b0 q0g q0l q0m big ).isSome
noncomputable def z28 (b0 : List Int) (q0g : Nat) (q0l : Int) (q0m : Int) : Int := ((z1d b0 q0g q0l q0m big ).getD default).1
noncomputable def z25 (b0 : List Int) (q0g : Nat) (q0l : Int) (q0m : Int) : Int := ((z1d b0 q0g q0l q0m big ).getD default).2.1
noncomputable def z24 (b0 : List Int) (q0g : Nat) (q0l : Int) (q0m : Int) : Int := ((z1d b0 q0g q0l q0m big ).getD default).2.2
theorem znu {b0 : List Int} {q0g : Nat} {q0l : Int} {q0m : Int} {m : Nat} {r : Int × Int × Int} (hm : m = big) (h : z1d b0 q0g q0l q0m m  = some r) : z2o b0 q0g q0l q0m = true ∧ z28 b0 q0g q0l q0m = r.1 ∧ z25 b0 q0g q0l q0m = r.2.1 ∧ z24 b0 q0g q0l q0m = r.2.2 := by
  subst hm
  unfold z2o z28 z25 z24
  rw [h]
  exact ⟨rfl, rfl, rfl, rfl⟩
noncomputable def z3f {R : Type} (b0 : List Int) (q0g : Nat) (q0l : Int) (q0m : Int) (kn_ : Unit → Option R) (k0_ : Int → Int → Int → Option R) : Option R := (br (ltI q0l (Int.ofNat q0g)) (grd (okIx q0l q0g) (br (leI (addI .i64 q0l 1) (Int.ofNat q0g)) (k0_ (cvI .i64 (gI b0 (ixO 0 q0l 1))) (addI .i64 q0l 1) (addI .u64 (addI .u64 (mulI .u64 q0m 6364136223846793005) (cvI .u64 (cvI .i64 (gI b0 (ixO 0 q0l 1))))) 1442695040888963407)) (k0_ (cvI .i64 (bitI .and .u64 (shI Bool.false .u64 (addI .u64 (addI .u64 (mulI .u64 q0m 6364136223846793005) (cvI .u64 (cvI .i64 (gI b0 (ixO 0 q0l 1))))) 1442695040888963407) 40) 255)) (addI .i64 q0l 1) (addI .u64 (addI .u64 (mulI .u64 q0m 6364136223846793005) (cvI .u64 (cvI .i64 (gI b0 (ixO 0 q0l 1))))) 1442695040888963407)))) (br (leI (addI .i64 q0l 1) (Int.ofNat q0g)) (k0_ 0 (addI .i64 q0l 1) (addI .u64 (addI .u64 (mulI .u64 q0m 6364136223846793005) (cvI .u64 0)) 1442695040888963407)) (k0_ (cvI .i64 (bitI .and .u64 (shI Bool.false .u64 (addI .u64 (addI .u64 (mulI .u64 q0m 6364136223846793005) (cvI .u64 0)) 1442695040888963407) 40) 255)) (addI .i64 q0l 1) (addI .u64 (addI .u64 (mulI .u64 q0m 6364136223846793005) (cvI .u64 0)) 1442695040888963407))))
theorem zmn {R R' : Type} (o : Option R → Option R') (h0 : o none = none) (b0 : List Int) (q0g : Nat) (q0l : Int) (q0m : Int) (kn_ : Unit → Option R) (k0_ : Int → Int → Int → Option R) : z3f b0 q0g q0l q0m (fun _ => o (kn_ ())) (fun c0_ c1_ c2_ => o (k0_ c0_ c1_ c2_)) = o (z3f b0 q0g q0l q0m kn_ k0_) := by
  unfold z3f
  repeat (first | refine z0k h0 ?_ | refine z0r ?_ ?_ | rfl | exact h0.symm)
noncomputable def z1c (b0 : List Int) (q0g : Nat) (q0l : Int) (q0m : Int) : Nat → Option ((Int × Int × Int))
  | 0 => none
  | n + 1 => z3f b0 q0g q0l q0m    (fun _ => z1c b0 q0g q0l q0m n ) (fun c0_ c1_ c2_ => some (c0_, c1_, c2_))
theorem zm5 (b0 : List Int) (q0g : Nat) (q0l : Int) (q0m : Int) (n : Nat)  : z1c b0 q0g q0l q0m (n + 1)  = z3f b0 q0g q0l q0m    (fun _ => z1c b0 q0g q0l q0m n ) (fun c0_ c1_ c2_ => some (c0_, c1_, c2_)) := rfl
noncomputable def z23 (b0 : List Int) (q0g : Nat) (q0l : Int) (q0m : Int) : Bool := (z1c b0 q0g q0l q0m big ).isSome
noncomputable def z1b (b0 : List Int) (q0g : Nat) (q0l : Int) (q0m : Int) : Int := ((z1c b0 q0g q0l q0m big ).getD default).1
noncomputable def z09 (b0 : List Int) (q0g : Nat) (q0l : Int) (q0m : Int) : Int := ((z1c b0 q0g q0l q0m big ).getD default).2.1
noncomputable def z0a (b0 : List Int) (q0g : Nat) (q0l : Int) (q0m : Int) : Int := ((z1c b0 q0g q0l q0m big ).getD default).2.2
theorem znn {b0 : List Int} {q0g : Nat} {q0l : Int} {q0m : Int} {m : Nat} {r : Int × Int × Int} (hm : m = big) (h : z1c b0 q0g q0l q0m m  = some r) : z23 b0 q0g q0l q0m = true ∧ z1b b0 q0g q0l q0m = r.1 ∧ z09 b0 q0g q0l q0m = r.2.1 ∧ z0a b0 q0g q0l q0m = r.2.2 := by
  subst hm
  unfold z23 z1b z09 z0a
  rw [h]
  exact ⟨rfl, rfl, rfl, rfl⟩
noncomputable def z52 {R : Type} (by_ : Nat) (q3f : Nat) (t27 : Int) (b3 : List Nat) (q1v : Nat) (t28 : Int) (b9 : List Nat) (kn_ : Int → (List Nat) → Option R) (k0_ : Int → Bool → (List Nat) → Option R) : Option R := (br (ltI t28 t27) (grd (okIx t28 q3f) (grd (okIx t28 q1v) (grd (okIx t28 q1v) (kn_ (addI .i64 t28 1) (sF (sF b9 (ixO 0 t28 3) (fop .mul .f32 by_ (gF b3 (ixO 0 t28 3)))) (Nat.succ (ixO 0 t28 3)) (fop .mul .f32 by_ (gF b3 (Nat.succ (ixO 0 t28 3))))))))) (k0_ t28 (ltI t28 t27) b9))
theorem zu8 {R R' : Type} (o : Option R → Option R') (h0 : o none = none) (by_ : Nat) (q3f : Nat) (t27 : Int) (b3 : List Nat) (q1v : Nat) (t28 : Int) (b9 : List Nat) (kn_ : Int → (List Nat) → Option R) (k0_ : Int → Bool → (List Nat) → Option R) : z52 by_ q3f t27 b3 q1v t28 b9 (fun t28' b9' => o (kn_ t28' b9')) (fun c0_ c1_ c2_ => o (k0_ c0_ c1_ c2_)) = o (z52 by_ q3f t27 b3 q1v t28 b9 kn_ k0_) := by
  unfold z52
  repeat (first | refine z0k h0 ?_ | refine z0r ?_ ?_ | rfl | exact h0.symm)
noncomputable def z1o (by_ : Nat) (q3f : Nat) (t27 : Int) (b3 : List Nat) (q1v : Nat) : Nat → Int → (List Nat) → Option ((Int × Bool × (List Nat)))
  | 0, _, _ => none
  | n + 1, t28, b9 => z52 by_ q3f t27 b3 q1v  t28 b9  (fun t28' b9' => z1o by_ q3f t27 b3 q1v n t28' b9') (fun c0_ c1_ c2_ => some (c0_, c1_, c2_))
theorem zlv (by_ : Nat) (q3f : Nat) (t27 : Int) (b3 : List Nat) (q1v : Nat) (n : Nat) (t28 : Int) (b9 : List Nat) : z1o by_ q3f t27 b3 q1v (n + 1) t28 b9 = z52 by_ q3f t27 b3 q1v  t28 b9  (fun t28' b9' => z1o by_ q3f t27 b3 q1v n t28' b9') (fun c0_ c1_ c2_ => some (c0_, c1_, c2_)) := rfl
noncomputable def zdt (by_ : Nat) (q3f : Nat) (t27 : Int) (b3 : List Nat) (q1v : Nat) (t28 : Int) (b9 : List Nat) : Bool := (z1o by_ q3f t27 b3 q1v big t28 b9).isSome
noncomputable def zg6 (by_ : Nat) (q3f : Nat) (t27 : Int) (b3 : List Nat) (q1v : Nat) (t28 : Int) (b9 : List Nat) : Int := ((z1o by_ q3f t27 b3 q1v big t28 b9).getD default).1
noncomputable def zg5 (by_ : Nat) (q3f : Nat) (t27 : Int) (b3 : List Nat) (q1v : Nat) (t28 : Int) (b9 : List Nat) : Bool := ((z1o by_ q3f t27 b3 q1v big t28 b9).getD default).2.1
noncomputable def z76 (by_ : Nat) (q3f : Nat) (t27 : Int) (b3 : List Nat) (q1v : Nat) (t28 : Int) (b9 : List Nat) : List Nat := ((z1o by_ q3f t27 b3 q1v big t28 b9).getD default).2.2
theorem zwa {by_ : Nat} {q3f : Nat} {t27 : Int} {b3 : List Nat} {q1v : Nat} {t28 : Int} {b9 : List Nat} {m : Nat} {r : Int × Bool × (List Nat)} (hm : m = big) (h : z1o by_ q3f t27 b3 q1v m t28 b9 = some r) : zdt by_ q3f t27 b3 q1v t28 b9 = true ∧ zg6 by_ q3f t27 b3 q1v t28 b9 = r.1 ∧ zg5 by_ q3f t27 b3 q1v t28 b9 = r.2.1 ∧ z76 by_ q3f t27 b3 q1v t28 b9 = r.2.2 := by
  subst hm
  unfold zdt zg6 zg5 z76
  rw [h]
  exact ⟨rfl, rfl, rfl, rfl⟩
noncomputable def z50 {R : Type} (by_ : Nat) (t16 : Int) (q1v : Nat) (t17 : Int) (b9 : List Nat) (kn_ : Int → (List Nat) → Option R) (k0_ : Int → Bool → (List Nat) → Option R) : Option R := (br (ltI t17 t16) (grd (okIx t17 q1v) (grd (okIx t17 q1v) (kn_ (addI .i64 t17 1) (sF b9 (Nat.succ (Nat.succ (ixO 0 t17 3))) (fop .add .f32 (gF b9 (Nat.succ (Nat.succ (ixO 0 t17 3)))) by_))))) (k0_ t17 (ltI t17 t16) b9))
theorem zva {R R' : Type} (o : Option R → Option R') (h0 : o none = none) (by_ : Nat) (t16 : Int) (q1v : Nat) (t17 : Int) (b9 : List Nat) (kn_ : Int → (List Nat) → Option R) (k0_ : Int → Bool → (List Nat) → Option R) : z50 by_ t16 q1v t17 b9 (fun t17' b9' => o (kn_ t17' b9')) (fun c0_ c1_ c2_ => o (k0_ c0_ c1_ c2_)) = o (z50 by_ t16 q1v t17 b9 kn_ k0_) := by
  unfold z50
  repeat (first | refine z0k h0 ?_ | refine z0r ?_ ?_ | rfl | exact h0.symm)
noncomputable def z1p (by_ : Nat) (t16 : Int) (q1v : Nat) : Nat → Int → (List Nat) → Option ((Int × Bool × (List Nat)))
  | 0, _, _ => none
  | n + 1, t17, b9 => z50 by_ t16 q1v  t17 b9  (fun t17' b9' => z1p by_ t16 q1v n t17' b9') (fun c0_ c1_ c2_ => some (c0_, c1_, c2_))
theorem zm0 (by_ : Nat) (t16 : Int) (q1v : Nat) (n : Nat) (t17 : Int) (b9 : List Nat) : z1p by_ t16 q1v (n + 1) t17 b9 = z50 by_ t16 q1v  t17 b9  (fun t17' b9' => z1p by_ t16 q1v n t17' b9') (fun c0_ c1_ c2_ => some (c0_, c1_, c2_)) := rfl
noncomputable def zdw (by_ : Nat) (t16 : Int) (q1v : Nat) (t17 : Int) (b9 : List Nat) : Bool := (z1p by_ t16 q1v big t17 b9).isSome
noncomputable def zg7 (by_ : Nat) (t16 : Int) (q1v : Nat) (t17 : Int) (b9 : List Nat) : Int := ((z1p by_ t16 q1v big t17 b9).getD default).1
noncomputable def zfy (by_ : Nat) (t16 : Int) (q1v : Nat) (t17 : Int) (b9 : List Nat) : Bool := ((z1p by_ t16 q1v big t17 b9).getD default).2.1
noncomputable def z7a (by_ : Nat) (t16 : Int) (q1v : Nat) (t17 : Int) (b9 : List Nat) : List Nat := ((z1p by_ t16 q1v big t17 b9).getD default).2.2
theorem zwk {by_ : Nat} {t16 : Int} {q1v : Nat} {t17 : Int} {b9 : List Nat} {m : Nat} {r : Int × Bool × (List Nat)} (hm : m = big) (h : z1p by_ t16 q1v m t17 b9 = some r) : zdw by_ t16 q1v t17 b9 = true ∧ zg7 by_ t16 q1v t17 b9 = r.1 ∧ zfy by_ t16 q1v t17 b9 = r.2.1 ∧ z7a by_ t16 q1v t17 b9 = r.2.2 := by
  subst hm
  unfold zdw zg7 zfy z7a
  rw [h]
  exact ⟨rfl, rfl, rfl, rfl⟩
noncomputable def z5i {R : Type} (q0t : Int) (hub : Nat) (tip : Nat) (q16 : Nat) (q18 : Nat) (t29 : Int) (t30 : Int) (q0y : Nat) (b12 : List Nat) (kn_ : Int → Nat → (List Nat) → Option R) (k0_ : Int → Bool → Nat → (List Nat) → Option R) : Option R := (br (ltI t30 t29) (grd (okA2 q0y 1 12 (nF (pF [(fop .add .f32 hub (fop .mul .f32 (fop .sub .f32 tip hub) (fop .quo .f32 (fop .add .f32 (fOI .f32 t30) 1056964608) (fOI .f32 q0t)))), q16, q18] 0 (muN 1 3))) (nF b12) 3) (kn_ (addI .i64 t30 1) (adN q0y 1) (aF b12 (pF [(fop .add .f32 hub (fop .mul .f32 (fop .sub .f32 tip hub) (fop .quo .f32 (fop .add .f32 (fOI .f32 t30) 1056964608) (fOI .f32 q0t)))), q16, q18] 0 (muN 1 3))))) (k0_ t30 (ltI t30 t29) q0y b12))
theorem zvj {R R' : Type} (o : Option R → Option R') (h0 : o none = none) (q0t : Int) (hub : Nat) (tip : Nat) (q16 : Nat) (q18 : Nat) (t29 : Int) (t30 : Int) (q0y : Nat) (b12 : List Nat) (kn_ : Int → Nat → (List Nat) → Option R) (k0_ : Int → Bool → Nat → (List Nat) → Option R) : z5i q0t hub tip q16 q18 t29 t30 q0y b12 (fun t30' q0y' b12' => o (kn_ t30' q0y' b12')) (fun c0_ c1_ c2_ c3_ => o (k0_ c0_ c1_ c2_ c3_)) = o (z5i q0t hub tip q16 q18 t29 t30 q0y b12 kn_ k0_) := by
  unfold z5i
  repeat (first | refine z0k h0 ?_ | refine z0r ?_ ?_ | rfl | exact h0.symm)
noncomputable def z1n (q0t : Int) (hub : Nat) (tip : Nat) (q16 : Nat) (q18 : Nat) (t29 : Int) : Nat → Int → Nat → (List Nat) → Option ((Int × Bool × Nat × (List Nat)))
  | 0, _, _, _ => none
  | n + 1, t30, q0y, b12 => z5i q0t hub tip q16 q18 t29  t30 q0y b12  (fun t30' q0y' b12' => z1n q0t hub tip q16 q18 t29 n t30' q0y' b12') (fun c0_ c1_ c2_ c3_ => some (c0_, c1_, c2_, c3_))
theorem zmu (q0t : Int) (hub : Nat) (tip : Nat) (q16 : Nat) (q18 : Nat) (t29 : Int) (n : Nat) (t30 : Int) (q0y : Nat) (b12 : List Nat) : z1n q0t hub tip q16 q18 t29 (n + 1) t30 q0y b12 = z5i q0t hub tip q16 q18 t29  t30 q0y b12  (fun t30' q0y' b12' => z1n q0t hub tip q16 q18 t29 n t30' q0y' b12') (fun c0_ c1_ c2_ c3_ => some (c0_, c1_, c2_, c3_)) := rfl
noncomputable def zff (q0t : Int) (hub : Nat) (tip : Nat) (q16 : Nat) (q18 : Nat) (t29 : Int) (t30 : Int) (q0y : Nat) (b12 : List Nat) : Bool := (z1n q0t hub tip q16 q18 t29 big t30 q0y b12).isSome
noncomputable def zij (q0t : Int) (hub : Nat) (tip : Nat) (q16 : Nat) (q18 : Nat) (t29 : Int) (t30 : Int) (q0y : Nat) (b12 : List Nat) : Int := ((z1n q0t hub tip q16 q18 t29 big t30 q0y b12).getD default).1
noncomputable def zii (q0t : Int) (hub : Nat) (tip : Nat) (q16 : Nat) (q18 : Nat) (t29 : Int) (t30 : Int) (q0y : Nat) (b12 : List Nat) : Bool := ((z1n q0t hub tip q16 q18 t29 big t30 q0y b12).getD default).2.1
noncomputable def z54 (q0t : Int) (hub : Nat) (tip : Nat) (q16 : Nat) (q18 : Nat) (t29 : Int) (t30 : Int) (q0y : Nat) (b12 : List Nat) : Nat := ((z1n q0t hub tip q16 q18 t29 big t30 q0y b12).getD default).2.2.1
noncomputable def z7y (q0t : Int) (hub : Nat) (tip : Nat) (q16 : Nat) (q18 : Nat) (t29 : Int) (t30 : Int) (q0y : Nat) (b12 : List Nat) : List Nat := ((z1n q0t hub tip q16 q18 t29 big t30 q0y b12).getD default).2.2.2
theorem zx8 {q0t : Int} {hub : Nat} {tip : Nat} {q16 : Nat} {q18 : Nat} {t29 : Int} {t30 : Int} {q0y : Nat} {b12 : List Nat} {m : Nat} {r : Int × Bool × Nat × (List Nat)} (hm : m = big) (h : z1n q0t hub tip q16 q18 t29 m t30 q0y b12 = some r) : zff q0t hub tip q16 q18 t29 t30 q0y b12 = true ∧ zij q0t hub tip q16 q18 t29 t30 q0y b12 = r.1 ∧ zii q0t hub tip q16 q18 t29 t30 q0y b12 = r.2.1 ∧ z54 q0t hub tip q16 q18 t29 t30 q0y b12 = r.2.2.1 ∧ z7y q0t hub tip q16 q18 t29 t30 q0y b12 = r.2.2.2 := by
  subst hm
  unfold zff zij zii z54 z7y
  rw [h]
  exact ⟨rfl, rfl, rfl, rfl, rfl⟩
noncomputable def zao {R : Type} (q00 : Nat) (q04 : List Nat) (q01 : Nat) (q05 : List Nat) (q02 : Nat) (q06 : List Nat) (q07 : Nat) (q09 : List Nat) (q0b : Int) (q0e : Nat) (q0d : Nat) (by_ : Nat) (k_ : Nat → Nat → Nat → Nat → Int → Nat → Nat → Bool → (List Nat) → (List Nat) → (List Nat) → (List Nat) → Option R) : Option R := (grd (z34 q00 (pF q04 0 (muN q00 1)) q01 (pF q05 0 (muN q01 1)) q02 (pF q06 0 (muN q02 1)) q07 (pF q09 0 (muN q07 3)) q0b q0e q0d) (br (bnot (z2q q00 (pF q04 0 (muN q00 1)) q01 (pF q05 0 (muN q01 1)) q02 (pF q06 0 (muN q02 1)) q07 (pF q09 0 (muN q07 3)) q0b q0e q0d)) (k_ 0 0 0 0 0 0 0 Bool.false [] [] [] []) (grd (zbw q00 (pF q04 0 (muN q00 1)) q01 (pF q05 0 (muN q01 1)) q02 (pF q06 0 (muN q02 1)) q07 (pF q09 0 (muN q07 3)) q0b q0e q0d) (grd (zdt by_ q07 (Int.ofNat q07) q09 (z0t q00 (pF q04 0 (muN q00 1)) q01 (pF q05 0 (muN q01 1)) q02 (pF q06 0 (muN q02 1)) q07 (pF q09 0 (muN q07 3)) q0b q0e q0d) 0 (z3j q00 (pF q04 0 (muN q00 1)) q01 (pF q05 0 (muN q01 1)) q02 (pF q06 0 (muN q02 1)) q07 (pF q09 0 (muN q07 3)) q0b q0e q0d)) (grd (z34 (z1z q00 (pF q04 0 (muN q00 1)) q01 (pF q05 0 (muN q01 1)) q02 (pF q06 0 (muN q02 1)) q07 (pF q09 0 (muN q07 3)) q0b q0e q0d) (pF (z49 q00 (pF q04 0 (muN q00 1)) q01 (pF q05 0 (muN q01 1)) q02 (pF q06 0 (muN q02 1)) q07 (pF q09 0 (muN q07 3)) q0b q0e q0d) 0 (muN (z1z q00 (pF q04 0 (muN q00 1)) q01 (pF q05 0 (muN q01 1)) q02 (pF q06 0 (muN q02 1)) q07 (pF q09 0 (muN q07 3)) q0b q0e q0d) 1)) (z1y q00 (pF q04 0 (muN q00 1)) q01 (pF q05 0 (muN q01 1)) q02 (pF q06 0 (muN q02 1)) q07 (pF q09 0 (muN q07 3)) q0b q0e q0d) (pF (z4b q00 (pF q04 0 (muN q00 1)) q01 (pF q05 0 (muN q01 1)) q02 (pF q06 0 (muN q02 1)) q07 (pF q09 0 (muN q07 3)) q0b q0e q0d) 0 (muN (z1y q00 (pF q04 0 (muN q00 1)) q01 (pF q05 0 (muN q01 1)) q02 (pF q06 0 (muN q02 1)) q07 (pF q09 0 (muN q07 3)) q0b q0e q0d) 1)) (z20 q00 (pF q04 0 (muN q00 1)) q01 (pF q05 0 (muN q01 1)) q02 (pF q06 0 (muN q02 1)) q07 (pF q09 0 (muN q07 3)) q0b q0e q0d) (pF (z4a q00 (pF q04 0 (muN q00 1)) q01 (pF q05 0 (muN q01 1)) q02 (pF q06 0 (muN q02 1)) q07 (pF q09 0 (muN q07 3)) q0b q0e q0d) 0 (muN (z20 q00 (pF q04 0 (muN q00 1)) q01 (pF q05 0 (muN q01 1)) q02 (pF q06 0 (muN q02 1)) q07 (pF q09 0 (muN q07 3)) q0b q0e q0d) 1)) (z0t q00 (pF q04 0 (muN q00 1)) q01 (pF q05 0 (muN q01 1)) q02 (pF q06 0 (muN q02 1)) q07 (pF q09 0 (muN q07 3)) q0b q0e q0d) (pF (z76 by_ q07 (Int.ofNat q07) q09 (z0t q00 (pF q04 0 (muN q00 1)) q01 (pF q05 0 (muN q01 1)) q02 (pF q06 0 (muN q02 1)) q07 (pF q09 0 (muN q07 3)) q0b q0e q0d) 0 (z3j q00 (pF q04 0 (muN q00 1)) q01 (pF q05 0 (muN q01 1)) q02 (pF q06 0 (muN q02 1)) q07 (pF q09 0 (muN q07 3)) q0b q0e q0d)) 0 (muN (z0t q00 (pF q04 0 (muN q00 1)) q01 (pF q05 0 (muN q01 1)) q02 (pF q06 0 (muN q02 1)) q07 (pF q09 0 (muN q07 3)) q0b q0e q0d) 3)) q0b (fop .mul .f32 by_ q0e) (fop .mul .f32 by_ q0d)) (br (bnot (z2q (z1z q00 (pF q04 0 (muN q00 1)) q01 (pF q05 0 (muN q01 1)) q02 (pF q06 0 (muN q02 1)) q07 (pF q09 0 (muN q07 3)) q0b q0e q0d) (pF (z49 q00 (pF q04 0 (muN q00 1)) q01 (pF q05 0 (muN q01 1)) q02 (pF q06 0 (muN q02 1)) q07 (pF q09 0 (muN q07 3)) q0b q0e q0d) 0 (muN (z1z q00 (pF q04 0 (muN q00 1)) q01 (pF q05 0 (muN q01 1)) q02 (pF q06 0 (muN q02 1)) q07 (pF q09 0 (muN q07 3)) q0b q0e q0d) 1)) (z1y q00 (pF q04 0 (muN q00 1)) q01 (pF q05 0 (muN q01 1)) q02 (pF q06 0 (muN q02 1)) q07 (pF q09 0 (muN q07 3)) q0b q0e q0d) (pF (z4b q00 (pF q04 0 (muN q00 1)) q01 (pF q05 0 (muN q01 1)) q02 (pF q06 0 (muN q02 1)) q07 (pF q09 0 (muN q07 3)) q0b q0e q0d) 0 (muN (z1y q00 (pF q04 0 (muN q00 1)) q01 (pF q05 0 (muN q01 1)) q02 (pF q06 0 (muN q02 1)) q07 (pF q09 0 (muN q07 3)) q0b q0e q0d) 1)) (z20 q00 (pF q04 0 (muN q00 1)) q01 (pF q05 0 (muN q01 1)) q02 (pF q06 0 (muN q02 1)) q07 (pF q09 0 (muN q07 3)) q0b q0e q0d) (pF (z4a q00 (pF q04 0 (muN q00 1)) q01 (pF q05 0 (muN q01 1)) q02 (pF q06 0 (muN q02 1)) q07 (pF q09 0 (muN q07 3)) q0b q0e q0d) 0 (muN (z20 q00 (pF q04 0 (muN q00 1)) q01 (pF q05 0 (muN q01 1)) q02 (pF q06 0 (muN q02 1)) q07 (pF q09 0 (muN q07 3)) q0b q0e q0d) 1)) (z0t q00 (pF q04 0 (muN q00 1)) q01 (pF q05 0 (muN q01 1)) q02 (pF q06 0 (muN q02 1)) q07 (pF q09 0 (muN q07 3)) q0b q0e q0d) (pF (z76 by_ q07 (Int.ofNat q07) q09 (z0t q00 (pF q04 0 (muN q00 1)) q01 (pF q05 0 (muN q01 1)) q02 (pF q06 0 (muN q02 1)) q07 (pF q09 0 (muN q07 3)) q0b q0e q0d) 0 (z3j q00 (pF q04 0 (muN q00 1)) q01 (pF q05 0 (muN q01 1)) q02 (pF q06 0 (muN q02 1)) q07 (pF q09 0 (muN q07 3)) q0b q0e q0d)) 0 (muN (z0t q00 (pF q04 0 (muN q00 1)) q01 (pF q05 0 (muN q01 1)) q02 (pF q06 0 (muN q02 1)) q07 (pF q09 0 (muN q07 3)) q0b q0e q0d) 3)) q0b (fop .mul .f32 by_ q0e) (fop .mul .f32 by_ q0d))) (k_ 0 0 0 0 0 0 0 Bool.false [] [] [] []) (k_ (z1z q00 (pF q04 0 (muN q00 1)) q01 (pF q05 0 (muN q01 1)) q02 (pF q06 0 (muN q02 1)) q07 (pF q09 0 (muN q07 3)) q0b q0e q0d) (z1y q00 (pF q04 0 (muN q00 1)) q01 (pF q05 0 (muN q01 1)) q02 (pF q06 0 (muN q02 1)) q07 (pF q09 0 (muN q07 3)) q0b q0e q0d) (z20 q00 (pF q04 0 (muN q00 1)) q01 (pF q05 0 (muN q01 1)) q02 (pF q06 0 (muN q02 1)) q07 (pF q09 0 (muN q07 3)) q0b q0e q0d) (z0t q00 (pF q04 0 (muN q00 1)) q01 (pF q05 0 (muN q01 1)) q02 (pF q06 0 (muN q02 1)) q07 (pF q09 0 (muN q07 3)) q0b q0e q0d) q0b (fop .mul .f32 by_ q0e) (fop .mul .f32 by_ q0d) Bool.true (z49 q00 (pF q04 0 (muN q00 1)) q01 (pF q05 0 (muN q01 1)) q02 (pF q06 0 (muN q02 1)) q07 (pF q09 0 (muN q07 3)) q0b q0e q0d) (z4b q00 (pF q04 0 (muN q00 1)) q01 (pF q05 0 (muN q01 1)) q02 (pF q06 0 (muN q02 1)) q07 (pF q09 0 (muN q07 3)) q0b q0e q0d) (z4a q00 (pF q04 0 (muN q00 1)) q01 (pF q05 0 (muN q01 1)) q02 (pF q06 0 (muN q02 1)) q07 (pF q09 0 (muN q07 3)) q0b q0e q0d) (z76 by_ q07 (Int.ofNat q07) q09 (z0t q00 (pF q04 0 (muN q00 1)) q01 (pF q05 0 (muN q01 1)) q02 (pF q06 0 (muN q02 1)) q07 (pF q09 0 (muN q07 3)) q0b q0e q0d) 0 (z3j q00 (pF q04 0 (muN q00 1)) q01 (pF q05 0 (muN q01 1)) q02 (pF q06 0 (muN q02 1)) q07 (pF q09 0 (muN q07 3)) q0b q0e q0d)))))))))
noncomputable def z1x (q00 : Nat) (q04 : List Nat) (q01 : Nat) (q05 : List Nat) (q02 : Nat) (q06 : List Nat) (q07 : Nat) (q09 : List Nat) (q0b : Int) (q0e : Nat) (q0d : Nat) (by_ : Nat) : Option (Nat × Nat × Nat × Nat × Int × Nat × Nat × Bool × (List Nat) × (List Nat) × (List Nat) × (List Nat)) := zao q00 q04 q01 q05 q02 q06 q07 q09 q0b q0e q0d by_ (fun c0_ c1_ c2_ c3_ c4_ c5_ c6_ c7_ c8_ c9_ c10_ c11_ => some (c0_, c1_, c2_, c3_, c4_, c5_, c6_, c7_, c8_, c9_, c10_, c11_))
theorem zyl {R R' : Type} (o : Option R → Option R') (h0 : o none = none) (q00 : Nat) (q04 : List Nat) (q01 : Nat) (q05 : List Nat) (q02 : Nat) (q06 : List Nat) (q07 : Nat) (q09 : List Nat) (q0b : Int) (q0e : Nat) (q0d : Nat) (by_ : Nat) (k_ : Nat → Nat → Nat → Nat → Int → Nat → Nat → Bool → (List Nat) → (List Nat) → (List Nat) → (List Nat) → Option R) : zao q00 q04 q01 q05 q02 q06 q07 q09 q0b q0e q0d by_ (fun c0_ c1_ c2_ c3_ c4_ c5_ c6_ c7_ c8_ c9_ c10_ c11_ => o (k_ c0_ c1_ c2_ c3_ c4_ c5_ c6_ c7_ c8_ c9_ c10_ c11_)) = o (zao q00 q04 q01 q05 q02 q06 q07 q09 q0b q0e q0d by_ k_) := by
  unfold zao
  repeat (first | refine z0k h0 ?_ | refine z0r ?_ ?_ | rfl | exact h0.symm)
noncomputable def zjj (q00 : Nat) (q04 : List Nat) (q01 : Nat) (q05 : List Nat) (q02 : Nat) (q06 : List Nat) (q07 : Nat) (q09 : List Nat) (q0b : Int) (q0e : Nat) (q0d : Nat) (by_ : Nat) : Bool := (z1x q00 q04 q01 q05 q02 q06 q07 q09 q0b q0e q0d by_).isSome
noncomputable def zhb (q00 : Nat) (q04 : List Nat) (q01 : Nat) (q05 : List Nat) (q02 : Nat) (q06 : List Nat) (q07 : Nat) (q09 : List Nat) (q0b : Int) (q0e : Nat) (q0d : Nat) (by_ : Nat) : Nat := ((z1x q00 q04 q01 q05 q02 q06 q07 q09 q0b q0e q0d by_).getD default).1
noncomputable def zgn (q00 : Nat) (q04 : List Nat) (q01 : Nat) (q05 : List Nat) (q02 : Nat) (q06 : List Nat) (q07 : Nat) (q09 : List Nat) (q0b : Int) (q0e : Nat) (q0d : Nat) (by_ : Nat) : Nat := ((z1x q00 q04 q01 q05 q02 q06 q07 q09 q0b q0e q0d by_).getD default).2.1
noncomputable def zi7 (q00 : Nat) (q04 : List Nat) (q01 : Nat) (q05 : List Nat) (q02 : Nat) (q06 : List Nat) (q07 : Nat) (q09 : List Nat) (q0b : Int) (q0e : Nat) (q0d : Nat) (by_ : Nat) : Nat := ((z1x q00 q04 q01 q05 q02 q06 q07 q09 q0b q0e q0d by_).getD default).2.2.1
noncomputable def zid (q00 : Nat) (q04 : List Nat) (q01 : Nat) (q05 : List Nat) (q02 : Nat) (q06 : List Nat) (q07 : Nat) (q09 : List Nat) (q0b : Int) (q0e : Nat) (q0d : Nat) (by_ : Nat) : Nat := ((z1x q00 q04 q01 q05 q02 q06 q07 q09 q0b q0e q0d by_).getD default).2.2.2.1
noncomputable def zi0 (q00 : Nat) (q04 : List Nat) (q01 : Nat) (q05 : List Nat) (q02 : Nat) (q06 : List Nat) (q07 : Nat) (q09 : List Nat) (q0b : Int) (q0e : Nat) (q0d : Nat) (by_ : Nat) : Int := ((z1x q00 q04 q01 q05 q02 q06 q07 q09 q0b q0e q0d by_).getD default).2.2.2.2.1
noncomputable def zhz (q00 : Nat) (q04 : List Nat) (q01 : Nat) (q05 : List Nat) (q02 : Nat) (q06 : List Nat) (q07 : Nat) (q09 : List Nat) (q0b : Int) (q0e : Nat) (q0d : Nat) (by_ : Nat) : Nat := ((z1x q00 q04 q01 q05 q02 q06 q07 q09 q0b q0e q0d by_).getD default).2.2.2.2.2.1
noncomputable def zhi (q00 : Nat) (q04 : List Nat) (q01 : Nat) (q05 : List Nat) (q02 : Nat) (q06 : List Nat) (q07 : Nat) (q09 : List Nat) (q0b : Int) (q0e : Nat) (q0d : Nat) (by_ : Nat) : Nat := ((z1x q00 q04 q01 q05 q02 q06 q07 q09 q0b q0e q0d by_).getD default).2.2.2.2.2.2.1
noncomputable def zgr (q00 : Nat) (q04 : List Nat) (q01 : Nat) (q05 : List Nat) (q02 : Nat) (q06 : List Nat) (q07 : Nat) (q09 : List Nat) (q0b : Int) (q0e : Nat) (q0d : Nat) (by_ : Nat) : Bool := ((z1x q00 q04 q01 q05 q02 q06 q07 q09 q0b q0e q0d by_).getD default).2.2.2.2.2.2.2.1
noncomputable def zi5 (q00 : Nat) (q04 : List Nat) (q01 : Nat) (q05 : List Nat) (q02 : Nat) (q06 : List Nat) (q07 : Nat) (q09 : List Nat) (q0b : Int) (q0e : Nat) (q0d : Nat) (by_ : Nat) : List Nat := ((z1x q00 q04 q01 q05 q02 q06 q07 q09 q0b q0e q0d by_).getD default).2.2.2.2.2.2.2.2.1
noncomputable def zh3 (q00 : Nat) (q04 : List Nat) (q01 : Nat) (q05 : List Nat) (q02 : Nat) (q06 : List Nat) (q07 : Nat) (q09 : List Nat) (q0b : Int) (q0e : Nat) (q0d : Nat) (by_ : Nat) : List Nat := ((z1x q00 q04 q01 q05 q02 q06 q07 q09 q0b q0e q0d by_).getD default).2.2.2.2.2.2.2.2.2.1
noncomputable def zfj (q00 : Nat) (q04 : List Nat) (q01 : Nat) (q05 : List Nat) (q02 : Nat) (q06 : List Nat) (q07 : Nat) (q09 : List Nat) (q0b : Int) (q0e : Nat) (q0d : Nat) (by_ : Nat) : List Nat := ((z1x q00 q04 q01 q05 q02 q06 q07 q09 q0b q0e q0d by_).getD default).2.2.2.2.2.2.2.2.2.2.1
noncomputable def zfb (q00 : Nat) (q04 : List Nat) (q01 : Nat) (q05 : List Nat) (q02 : Nat) (q06 : List Nat) (q07 : Nat) (q09 : List Nat) (q0b : Int) (q0e : Nat) (q0d : Nat) (by_ : Nat) : List Nat := ((z1x q00 q04 q01 q05 q02 q06 q07 q09 q0b q0e q0d by_).getD default).2.2.2.2.2.2.2.2.2.2.2
theorem y27 {q00 : Nat} {q04 : List Nat} {q01 : Nat} {q05 : List Nat} {q02 : Nat} {q06 : List Nat} {q07 : Nat} {q09 : List Nat} {q0b : Int} {q0e : Nat} {q0d : Nat} {by_ : Nat} {r : Nat × Nat × Nat × Nat × Int × Nat × Nat × Bool × (List Nat) × (List Nat) × (List Nat) × (List Nat)} (h : z1x q00 q04 q01 q05 q02 q06 q07 q09 q0b q0e q0d by_ = some r) : zjj q00 q04 q01 q05 q02 q06 q07 q09 q0b q0e q0d by_ = true ∧ zhb q00 q04 q01 q05 q02 q06 q07 q09 q0b q0e q0d by_ = r.1 ∧ zgn q00 q04 q01 q05 q02 q06 q07 q09 q0b q0e q0d by_ = r.2.1 ∧ zi7 q00 q04 q01 q05 q02 q06 q07 q09 q0b q0e q0d by_ = r.2.2.1 ∧ zid q00 q04 q01 q05 q02 q06 q07 q09 q0b q0e q0d by_ = r.2.2.2.1 ∧ zi0 q00 q04 q01 q05 q02 q06 q07 q09 q0b q0e q0d by_ = r.2.2.2.2.1 ∧ zhz q00 q04 q01 q05 q02 q06 q07 q09 q0b q0e q0d by_ = r.2.2.2.2.2.1 ∧ zhi q00 q04 q01 q05 q02 q06 q07 q09 q0b q0e q0d by_ = r.2.2.2.2.2.2.1 ∧ zgr q00 q04 q01 q05 q02 q06 q07 q09 q0b q0e q0d by_ = r.2.2.2.2.2.2.2.1 ∧ zi5 q00 q04 q01 q05 q02 q06 q07 q09 q0b q0e q0d by_ = r.2.2.2.2.2.2.2.2.1 ∧ zh3 q00 q04 q01 q05 q02 q06 q07 q09 q0b q0e q0d by_ = r.2.2.2.2.2.2.2.2.2.1 ∧ zfj q00 q04 q01 q05 q02 q06 q07 q09 q0b q0e q0d by_ = r.2.2.2.2.2.2.2.2.2.2.1 ∧ zfb q00 q04 q01 q05 q02 q06 q07 q09 q0b q0e q0d by_ = r.2.2.2.2.2.2.2.2.2.2.2 := by
  unfold zjj zhb zgn zi7 zid zi0 zhz zhi zgr zi5 zh3 zfj zfb
  rw [h]
  exact ⟨rfl, rfl, rfl, rfl, rfl, rfl, rfl, rfl, rfl, rfl, rfl, rfl, rfl⟩
end Go.Rf
