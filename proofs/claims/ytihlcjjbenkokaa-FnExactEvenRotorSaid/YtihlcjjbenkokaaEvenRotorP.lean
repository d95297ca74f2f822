import Derived.Test.YtihlcjjbenkokaaB
set_option linter.unusedVariables false
set_option linter.unusedSimpArgs false
set_option maxRecDepth 100000
set_option maxHeartbeats 4000000
namespace Go.Rf
open Go
noncomputable def zcf {R : Type} (a : Nat) (b : Nat) (k_ : Bool → Option R) : Option R := (br (fcmp BinOp.neq FloatKind.f64 a a) (br (fcmp BinOp.neq FloatKind.f64 a a) (k_ (fcmp BinOp.neq FloatKind.f64 b b)) (k_ Bool.false)) (br (fcmp BinOp.neq FloatKind.f64 b b) (br (fcmp BinOp.neq FloatKind.f64 a a) (k_ (fcmp BinOp.neq FloatKind.f64 b b)) (k_ Bool.false)) (br (fcmp BinOp.eql FloatKind.f64 a 0) (br (fcmp BinOp.eql FloatKind.f64 b 0) (k_ (beqB (fcmp BinOp.gtr FloatKind.f64 (fop BinOp.quo FloatKind.f64 4607182418800017408 a) 0) (fcmp BinOp.gtr FloatKind.f64 (fop BinOp.quo FloatKind.f64 4607182418800017408 b) 0))) (k_ (fcmp BinOp.eql FloatKind.f64 a b))) (k_ (fcmp BinOp.eql FloatKind.f64 a b)))))
noncomputable def zci (a : Nat) (b : Nat) : Option (Bool) := zcf a b (fun c0_ => some c0_)
theorem zmq {R R' : Type} (o : Option R → Option R') (h0 : o none = none) (a : Nat) (b : Nat) (k_ : Bool → Option R) : zcf a b (fun c0_ => o (k_ c0_)) = o (zcf a b k_) := by
  unfold zcf
  repeat (first | refine grd_out h0 ?_ | refine br_out ?_ ?_ | rfl | exact h0.symm)
noncomputable def z8h (a : Nat) (b : Nat) : Bool := (zci a b).isSome
noncomputable def z85 (a : Nat) (b : Nat) : Bool := ((zci a b).getD default)
theorem zbw {a : Nat} {b : Nat} {r : Bool} (h : zci a b = some r) : z8h a b = true ∧ z85 a b = r := by
  unfold z8h z85
  rw [h]
  exact ⟨rfl, rfl⟩
noncomputable def zbq {R : Type} (a_n : Nat) (a : List Nat) (q2o : Int) (k_ : Int → Option R) : Option R := (br (ltI (subI IntKind.i64 q2o (Int.ofNat a_n)) 0) (k_ (Int.negSucc 0)) (k_ (subI IntKind.i64 q2o (Int.ofNat a_n))))
noncomputable def zbt (a_n : Nat) (a : List Nat) (q2o : Int) : Option (Int) := zbq a_n a q2o (fun c0_ => some c0_)
theorem zlw {R R' : Type} (o : Option R → Option R') (h0 : o none = none) (a_n : Nat) (a : List Nat) (q2o : Int) (k_ : Int → Option R) : zbq a_n a q2o (fun c0_ => o (k_ c0_)) = o (zbq a_n a q2o k_) := by
  unfold zbq
  repeat (first | refine grd_out h0 ?_ | refine br_out ?_ ?_ | rfl | exact h0.symm)
noncomputable def zbu (a_n : Nat) (a : List Nat) (q2o : Int) : Bool := (zbt a_n a q2o).isSome
noncomputable def z4w (a_n : Nat) (a : List Nat) (q2o : Int) : Int := ((zbt a_n a q2o).getD default)
theorem zj7 {a_n : Nat} {a : List Nat} {q2o : Int} {r : Int} (h : zbt a_n a q2o = some r) : zbu a_n a q2o = true ∧ z4w a_n a q2o = r := by
  unfold zbu z4w
  rw [h]
  exact ⟨rfl, rfl⟩
noncomputable def zf3 {R : Type} (x : Nat) (k_ : Bool → Option R) : Option R := (k_ (fcmp BinOp.eql FloatKind.f32 (fop BinOp.sub FloatKind.f32 x x) 0))
noncomputable def zf9 (x : Nat) : Option (Bool) := zf3 x (fun c0_ => some c0_)
theorem znp {R R' : Type} (o : Option R → Option R') (h0 : o none = none) (x : Nat) (k_ : Bool → Option R) : zf3 x (fun c0_ => o (k_ c0_)) = o (zf3 x k_) := by
  unfold zf3
  repeat (first | refine grd_out h0 ?_ | refine br_out ?_ ?_ | rfl | exact h0.symm)
noncomputable def z8t (x : Nat) : Bool := (zf9 x).isSome
noncomputable def z8f (x : Nat) : Bool := ((zf9 x).getD default)
theorem zdu {x : Nat} {r : Bool} (h : zf9 x = some r) : z8t x = true ∧ z8f x = r := by
  unfold z8t z8f
  rw [h]
  exact ⟨rfl, rfl⟩
noncomputable def zdv {R : Type} (x : Nat) (k_ : Bool → Option R) : Option R := (k_ (fcmp BinOp.eql FloatKind.f32 (fop BinOp.sub FloatKind.f32 x x) 0))
noncomputable def zdq (x : Nat) : Option (Bool) := zdv x (fun c0_ => some c0_)
theorem zmr {R R' : Type} (o : Option R → Option R') (h0 : o none = none) (x : Nat) (k_ : Bool → Option R) : zdv x (fun c0_ => o (k_ c0_)) = o (zdv x k_) := by
  unfold zdv
  repeat (first | refine grd_out h0 ?_ | refine br_out ?_ ?_ | rfl | exact h0.symm)
noncomputable def z71 (x : Nat) : Bool := (zdq x).isSome
noncomputable def z6m (x : Nat) : Bool := ((zdq x).getD default)
theorem zcz {x : Nat} {r : Bool} (h : zdq x = some r) : z71 x = true ∧ z6m x = r := by
  unfold z71 z6m
  rw [h]
  exact ⟨rfl, rfl⟩
noncomputable def zgx {R : Type} (n_ : Int) (low : Int) (q21 : Int) (k_ : Bool → Option R) : Option R := (br (leI low n_) (k_ (leI n_ q21)) (k_ Bool.false))
noncomputable def zgy (n_ : Int) (low : Int) (q21 : Int) : Option (Bool) := zgx n_ low q21 (fun c0_ => some c0_)
theorem zow {R R' : Type} (o : Option R → Option R') (h0 : o none = none) (n_ : Int) (low : Int) (q21 : Int) (k_ : Bool → Option R) : zgx n_ low q21 (fun c0_ => o (k_ c0_)) = o (zgx n_ low q21 k_) := by
  unfold zgx
  repeat (first | refine grd_out h0 ?_ | refine br_out ?_ ?_ | rfl | exact h0.symm)
noncomputable def zj1 (n_ : Int) (low : Int) (q21 : Int) : Bool := (zgy n_ low q21).isSome
noncomputable def zik (n_ : Int) (low : Int) (q21 : Int) : Bool := ((zgy n_ low q21).getD default)
theorem zn6 {n_ : Int} {low : Int} {q21 : Int} {r : Bool} (h : zgy n_ low q21 = some r) : zj1 n_ low q21 = true ∧ zik n_ low q21 = r := by
  unfold zj1 zik
  rw [h]
  exact ⟨rfl, rfl⟩
noncomputable def zes {R : Type} (q06 : Nat) (q09 : List Nat) (q08 : Nat) (q0c : List Nat) (q07 : Nat) (q0b : List Nat) (k_ : Nat → Nat → Nat → (List Nat) → (List Nat) → (List Nat) → Option R) : Option R := (grd (okA2 0 q06 4 (nF (pF q09 0 (muN q06 1))) (nF []) 1) (grd (okA2 0 q08 4 (nF (pF q0c 0 (muN q08 1))) (nF []) 1) (grd (okA2 0 q07 4 (nF (pF q0b 0 (muN q07 1))) (nF []) 1) (k_ (adN 0 q06) (adN 0 q08) (adN 0 q07) (aF [] (pF q09 0 (muN q06 1))) (aF [] (pF q0c 0 (muN q08 1))) (aF [] (pF q0b 0 (muN q07 1)))))))
noncomputable def z8i (q06 : Nat) (q09 : List Nat) (q08 : Nat) (q0c : List Nat) (q07 : Nat) (q0b : List Nat) : Option (Nat × Nat × Nat × (List Nat) × (List Nat) × (List Nat)) := zes q06 q09 q08 q0c q07 q0b (fun c0_ c1_ c2_ c3_ c4_ c5_ => some (c0_, c1_, c2_, c3_, c4_, c5_))
theorem zok {R R' : Type} (o : Option R → Option R') (h0 : o none = none) (q06 : Nat) (q09 : List Nat) (q08 : Nat) (q0c : List Nat) (q07 : Nat) (q0b : List Nat) (k_ : Nat → Nat → Nat → (List Nat) → (List Nat) → (List Nat) → Option R) : zes q06 q09 q08 q0c q07 q0b (fun c0_ c1_ c2_ c3_ c4_ c5_ => o (k_ c0_ c1_ c2_ c3_ c4_ c5_)) = o (zes q06 q09 q08 q0c q07 q0b k_) := by
  unfold zes
  repeat (first | refine grd_out h0 ?_ | refine br_out ?_ ?_ | rfl | exact h0.symm)
noncomputable def zjj (q06 : Nat) (q09 : List Nat) (q08 : Nat) (q0c : List Nat) (q07 : Nat) (q0b : List Nat) : Bool := (z8i q06 q09 q08 q0c q07 q0b).isSome
noncomputable def zae (q06 : Nat) (q09 : List Nat) (q08 : Nat) (q0c : List Nat) (q07 : Nat) (q0b : List Nat) : Nat := ((z8i q06 q09 q08 q0c q07 q0b).getD default).1
noncomputable def zah (q06 : Nat) (q09 : List Nat) (q08 : Nat) (q0c : List Nat) (q07 : Nat) (q0b : List Nat) : Nat := ((z8i q06 q09 q08 q0c q07 q0b).getD default).2.1
noncomputable def za7 (q06 : Nat) (q09 : List Nat) (q08 : Nat) (q0c : List Nat) (q07 : Nat) (q0b : List Nat) : Nat := ((z8i q06 q09 q08 q0c q07 q0b).getD default).2.2.1
noncomputable def zdk (q06 : Nat) (q09 : List Nat) (q08 : Nat) (q0c : List Nat) (q07 : Nat) (q0b : List Nat) : List Nat := ((z8i q06 q09 q08 q0c q07 q0b).getD default).2.2.2.1
noncomputable def zdi (q06 : Nat) (q09 : List Nat) (q08 : Nat) (q0c : List Nat) (q07 : Nat) (q0b : List Nat) : List Nat := ((z8i q06 q09 q08 q0c q07 q0b).getD default).2.2.2.2.1
noncomputable def zdm (q06 : Nat) (q09 : List Nat) (q08 : Nat) (q0c : List Nat) (q07 : Nat) (q0b : List Nat) : List Nat := ((z8i q06 q09 q08 q0c q07 q0b).getD default).2.2.2.2.2
theorem zpi {q06 : Nat} {q09 : List Nat} {q08 : Nat} {q0c : List Nat} {q07 : Nat} {q0b : List Nat} {r : Nat × Nat × Nat × (List Nat) × (List Nat) × (List Nat)} (h : z8i q06 q09 q08 q0c q07 q0b = some r) : zjj q06 q09 q08 q0c q07 q0b = true ∧ zae q06 q09 q08 q0c q07 q0b = r.1 ∧ zah q06 q09 q08 q0c q07 q0b = r.2.1 ∧ za7 q06 q09 q08 q0c q07 q0b = r.2.2.1 ∧ zdk q06 q09 q08 q0c q07 q0b = r.2.2.2.1 ∧ zdi q06 q09 q08 q0c q07 q0b = r.2.2.2.2.1 ∧ zdm q06 q09 q08 q0c q07 q0b = r.2.2.2.2.2 := by
  unfold zjj zae zah za7 zdk zdi zdm
  rw [h]
  exact ⟨rfl, rfl, rfl, rfl, rfl, rfl, rfl⟩
noncomputable def zet {R : Type} (n_ : Int) (low : Int) (q21 : Int) (k_ : Bool → Option R) : Option R := (br (leI low n_) (k_ (leI n_ q21)) (k_ Bool.false))
noncomputable def zeu (n_ : Int) (low : Int) (q21 : Int) : Option (Bool) := zet n_ low q21 (fun c0_ => some c0_)
theorem zob {R R' : Type} (o : Option R → Option R') (h0 : o none = none) (n_ : Int) (low : Int) (q21 : Int) (k_ : Bool → Option R) : zet n_ low q21 (fun c0_ => o (k_ c0_)) = o (zet n_ low q21 k_) := by
  unfold zet
  repeat (first | refine grd_out h0 ?_ | refine br_out ?_ ?_ | rfl | exact h0.symm)
noncomputable def zin (n_ : Int) (low : Int) (q21 : Int) : Bool := (zeu n_ low q21).isSome
noncomputable def zhq (n_ : Int) (low : Int) (q21 : Int) : Bool := ((zeu n_ low q21).getD default)
theorem zm5 {n_ : Int} {low : Int} {q21 : Int} {r : Bool} (h : zeu n_ low q21 = some r) : zin n_ low q21 = true ∧ zhq n_ low q21 = r := by
  unfold zin zhq
  rw [h]
  exact ⟨rfl, rfl⟩
noncomputable def zcu {R : Type} (x : Nat) (low : Nat) (q21 : Nat) (k_ : Bool → Option R) : Option R := (br (fcmp BinOp.geq FloatKind.f32 x low) (k_ (fcmp BinOp.leq FloatKind.f32 x q21)) (k_ Bool.false))
noncomputable def zcp (x : Nat) (low : Nat) (q21 : Nat) : Option (Bool) := zcu x low q21 (fun c0_ => some c0_)
theorem znm {R R' : Type} (o : Option R → Option R') (h0 : o none = none) (x : Nat) (low : Nat) (q21 : Nat) (k_ : Bool → Option R) : zcu x low q21 (fun c0_ => o (k_ c0_)) = o (zcu x low q21 k_) := by
  unfold zcu
  repeat (first | refine grd_out h0 ?_ | refine br_out ?_ ?_ | rfl | exact h0.symm)
noncomputable def zir (x : Nat) (low : Nat) (q21 : Nat) : Bool := (zcp x low q21).isSome
noncomputable def zid (x : Nat) (low : Nat) (q21 : Nat) : Bool := ((zcp x low q21).getD default)
theorem zop {x : Nat} {low : Nat} {q21 : Nat} {r : Bool} (h : zcp x low q21 = some r) : zir x low q21 = true ∧ zid x low q21 = r := by
  unfold zir zid
  rw [h]
  exact ⟨rfl, rfl⟩
noncomputable def z8a {R : Type} (s_n : Nat) (s : List Nat) (k_ : Nat → (List Nat) → Option R) : Option R := (unk (okZ s_n) (k_ 0 []) (grd (okA2 0 s_n 4 (nF (pF s 0 (muN s_n 1))) (nF []) 1) (k_ (adN 0 s_n) (aF [] (pF s 0 (muN s_n 1))))))
noncomputable def z78 (s_n : Nat) (s : List Nat) : Option (Nat × (List Nat)) := z8a s_n s (fun c0_ c1_ => some (c0_, c1_))
theorem zjv {R R' : Type} (o : Option R → Option R') (h0 : o none = none) (hi : ∀ a b, o a = o b → a = b) (s_n : Nat) (s : List Nat) (k_ : Nat → (List Nat) → Option R) : z8a s_n s (fun c0_ c1_ => o (k_ c0_ c1_)) = o (z8a s_n s k_) := by
  unfold z8a
  repeat (first | refine unk_out h0 hi ?_ ?_ | refine grd_out h0 ?_ | refine br_out ?_ ?_ | rfl | exact h0.symm)
noncomputable def z8e (s_n : Nat) (s : List Nat) : Bool := (z78 s_n s).isSome
noncomputable def z87 (s_n : Nat) (s : List Nat) : Nat := ((z78 s_n s).getD default).1
noncomputable def z89 (s_n : Nat) (s : List Nat) : List Nat := ((z78 s_n s).getD default).2
theorem zds {s_n : Nat} {s : List Nat} {r : Nat × (List Nat)} (h : z78 s_n s = some r) : z8e s_n s = true ∧ z87 s_n s = r.1 ∧ z89 s_n s = r.2 := by
  unfold z8e z87 z89
  rw [h]
  exact ⟨rfl, rfl, rfl⟩
noncomputable def zcd {R : Type} (q0d : Nat) (q0t : List Nat) (q0h : Nat) (q0x : List Nat) (q0j : Nat) (q10 : List Nat) (q2o : Int) (k_ : Int → Option R) : Option R := (grd (zbu q0d (pF q0t 0 (muN q0d 1)) q2o) (br (ltI (z4w q0d (pF q0t 0 (muN q0d 1)) q2o) 0) (k_ (Int.negSucc 0)) (grd (zbu q0h (pF q0x 0 (muN q0h 1)) (z4w q0d (pF q0t 0 (muN q0d 1)) q2o)) (br (ltI (z4w q0h (pF q0x 0 (muN q0h 1)) (z4w q0d (pF q0t 0 (muN q0d 1)) q2o)) 0) (k_ (Int.negSucc 0)) (grd (zbu q0j (pF q10 0 (muN q0j 1)) (z4w q0h (pF q0x 0 (muN q0h 1)) (z4w q0d (pF q0t 0 (muN q0d 1)) q2o))) (br (ltI (z4w q0j (pF q10 0 (muN q0j 1)) (z4w q0h (pF q0x 0 (muN q0h 1)) (z4w q0d (pF q0t 0 (muN q0d 1)) q2o))) 0) (k_ (Int.negSucc 0)) (k_ (z4w q0j (pF q10 0 (muN q0j 1)) (z4w q0h (pF q0x 0 (muN q0h 1)) (z4w q0d (pF q0t 0 (muN q0d 1)) q2o))))))))))
noncomputable def zcc (q0d : Nat) (q0t : List Nat) (q0h : Nat) (q0x : List Nat) (q0j : Nat) (q10 : List Nat) (q2o : Int) : Option (Int) := zcd q0d q0t q0h q0x q0j q10 q2o (fun c0_ => some c0_)
theorem zn1 {R R' : Type} (o : Option R → Option R') (h0 : o none = none) (q0d : Nat) (q0t : List Nat) (q0h : Nat) (q0x : List Nat) (q0j : Nat) (q10 : List Nat) (q2o : Int) (k_ : Int → Option R) : zcd q0d q0t q0h q0x q0j q10 q2o (fun c0_ => o (k_ c0_)) = o (zcd q0d q0t q0h q0x q0j q10 q2o k_) := by
  unfold zcd
  repeat (first | refine grd_out h0 ?_ | refine br_out ?_ ?_ | rfl | exact h0.symm)
noncomputable def zdo (q0d : Nat) (q0t : List Nat) (q0h : Nat) (q0x : List Nat) (q0j : Nat) (q10 : List Nat) (q2o : Int) : Bool := (zcc q0d q0t q0h q0x q0j q10 q2o).isSome
noncomputable def zd2 (q0d : Nat) (q0t : List Nat) (q0h : Nat) (q0x : List Nat) (q0j : Nat) (q10 : List Nat) (q2o : Int) : Int := ((zcc q0d q0t q0h q0x q0j q10 q2o).getD default)
theorem zo7 {q0d : Nat} {q0t : List Nat} {q0h : Nat} {q0x : List Nat} {q0j : Nat} {q10 : List Nat} {q2o : Int} {r : Int} (h : zcc q0d q0t q0h q0x q0j q10 q2o = some r) : zdo q0d q0t q0h q0x q0j q10 q2o = true ∧ zd2 q0d q0t q0h q0x q0j q10 q2o = r := by
  unfold zdo zd2
  rw [h]
  exact ⟨rfl, rfl⟩
noncomputable def zac {R : Type} (q06 : Nat) (q09 : List Nat) (q08 : Nat) (q0c : List Nat) (q07 : Nat) (q0b : List Nat) (k_ : Nat → Nat → Nat → (List Nat) → (List Nat) → (List Nat) → Option R) : Option R := (grd (z8e q06 (pF q09 0 (muN q06 1))) (grd (z8e q08 (pF q0c 0 (muN q08 1))) (grd (z8e q07 (pF q0b 0 (muN q07 1))) (k_ (z87 q06 (pF q09 0 (muN q06 1))) (z87 q08 (pF q0c 0 (muN q08 1))) (z87 q07 (pF q0b 0 (muN q07 1))) (z89 q06 (pF q09 0 (muN q06 1))) (z89 q08 (pF q0c 0 (muN q08 1))) (z89 q07 (pF q0b 0 (muN q07 1)))))))
noncomputable def z60 (q06 : Nat) (q09 : List Nat) (q08 : Nat) (q0c : List Nat) (q07 : Nat) (q0b : List Nat) : Option (Nat × Nat × Nat × (List Nat) × (List Nat) × (List Nat)) := zac q06 q09 q08 q0c q07 q0b (fun c0_ c1_ c2_ c3_ c4_ c5_ => some (c0_, c1_, c2_, c3_, c4_, c5_))
theorem zlj {R R' : Type} (o : Option R → Option R') (h0 : o none = none) (q06 : Nat) (q09 : List Nat) (q08 : Nat) (q0c : List Nat) (q07 : Nat) (q0b : List Nat) (k_ : Nat → Nat → Nat → (List Nat) → (List Nat) → (List Nat) → Option R) : zac q06 q09 q08 q0c q07 q0b (fun c0_ c1_ c2_ c3_ c4_ c5_ => o (k_ c0_ c1_ c2_ c3_ c4_ c5_)) = o (zac q06 q09 q08 q0c q07 q0b k_) := by
  unfold zac
  repeat (first | refine grd_out h0 ?_ | refine br_out ?_ ?_ | rfl | exact h0.symm)
noncomputable def zfd (q06 : Nat) (q09 : List Nat) (q08 : Nat) (q0c : List Nat) (q07 : Nat) (q0b : List Nat) : Bool := (z60 q06 q09 q08 q0c q07 q0b).isSome
noncomputable def z82 (q06 : Nat) (q09 : List Nat) (q08 : Nat) (q0c : List Nat) (q07 : Nat) (q0b : List Nat) : Nat := ((z60 q06 q09 q08 q0c q07 q0b).getD default).1
noncomputable def z83 (q06 : Nat) (q09 : List Nat) (q08 : Nat) (q0c : List Nat) (q07 : Nat) (q0b : List Nat) : Nat := ((z60 q06 q09 q08 q0c q07 q0b).getD default).2.1
noncomputable def z84 (q06 : Nat) (q09 : List Nat) (q08 : Nat) (q0c : List Nat) (q07 : Nat) (q0b : List Nat) : Nat := ((z60 q06 q09 q08 q0c q07 q0b).getD default).2.2.1
noncomputable def z9n (q06 : Nat) (q09 : List Nat) (q08 : Nat) (q0c : List Nat) (q07 : Nat) (q0b : List Nat) : List Nat := ((z60 q06 q09 q08 q0c q07 q0b).getD default).2.2.2.1
noncomputable def z9h (q06 : Nat) (q09 : List Nat) (q08 : Nat) (q0c : List Nat) (q07 : Nat) (q0b : List Nat) : List Nat := ((z60 q06 q09 q08 q0c q07 q0b).getD default).2.2.2.2.1
noncomputable def z9j (q06 : Nat) (q09 : List Nat) (q08 : Nat) (q0c : List Nat) (q07 : Nat) (q0b : List Nat) : List Nat := ((z60 q06 q09 q08 q0c q07 q0b).getD default).2.2.2.2.2
theorem znq {q06 : Nat} {q09 : List Nat} {q08 : Nat} {q0c : List Nat} {q07 : Nat} {q0b : List Nat} {r : Nat × Nat × Nat × (List Nat) × (List Nat) × (List Nat)} (h : z60 q06 q09 q08 q0c q07 q0b = some r) : zfd q06 q09 q08 q0c q07 q0b = true ∧ z82 q06 q09 q08 q0c q07 q0b = r.1 ∧ z83 q06 q09 q08 q0c q07 q0b = r.2.1 ∧ z84 q06 q09 q08 q0c q07 q0b = r.2.2.1 ∧ z9n q06 q09 q08 q0c q07 q0b = r.2.2.2.1 ∧ z9h q06 q09 q08 q0c q07 q0b = r.2.2.2.2.1 ∧ z9j q06 q09 q08 q0c q07 q0b = r.2.2.2.2.2 := by
  unfold zfd z82 z83 z84 z9n z9h z9j
  rw [h]
  exact ⟨rfl, rfl, rfl, rfl, rfl, rfl, rfl⟩
noncomputable def zcs {R : Type} (x : Nat) (k_ : Bool → Option R) : Option R := (grd (z71 x) (br (z6m x) (k_ (fcmp BinOp.geq FloatKind.f32 x 0)) (k_ Bool.false)))
noncomputable def zct (x : Nat) : Option (Bool) := zcs x (fun c0_ => some c0_)
theorem znc {R R' : Type} (o : Option R → Option R') (h0 : o none = none) (x : Nat) (k_ : Bool → Option R) : zcs x (fun c0_ => o (k_ c0_)) = o (zcs x k_) := by
  unfold zcs
  repeat (first | refine grd_out h0 ?_ | refine br_out ?_ ?_ | rfl | exact h0.symm)
noncomputable def z9e (x : Nat) : Bool := (zct x).isSome
noncomputable def z92 (x : Nat) : Bool := ((zct x).getD default)
theorem zkf {x : Nat} {r : Bool} (h : zct x = some r) : z9e x = true ∧ z92 x = r := by
  unfold z9e z92
  rw [h]
  exact ⟨rfl, rfl⟩
noncomputable def zca {R : Type} (q2r : Nat) (q2w : Nat) (q2v : Nat) (q2s : Nat) (q2u : Nat) (q2y : Nat) (k_ : Bool → Option R) : Option R := (grd (z8h (fcvV FloatKind.f32 FloatKind.f64 q2r) (fcvV FloatKind.f32 FloatKind.f64 q2s)) (br (bnot (z85 (fcvV FloatKind.f32 FloatKind.f64 q2r) (fcvV FloatKind.f32 FloatKind.f64 q2s))) (k_ Bool.false) (grd (z8h (fcvV FloatKind.f32 FloatKind.f64 q2w) (fcvV FloatKind.f32 FloatKind.f64 q2u)) (br (bnot (z85 (fcvV FloatKind.f32 FloatKind.f64 q2w) (fcvV FloatKind.f32 FloatKind.f64 q2u))) (k_ Bool.false) (grd (z8h (fcvV FloatKind.f32 FloatKind.f64 q2v) (fcvV FloatKind.f32 FloatKind.f64 q2y)) (br (bnot (z85 (fcvV FloatKind.f32 FloatKind.f64 q2v) (fcvV FloatKind.f32 FloatKind.f64 q2y))) (k_ Bool.false) (k_ Bool.true)))))))
noncomputable def zch (q2r : Nat) (q2w : Nat) (q2v : Nat) (q2s : Nat) (q2u : Nat) (q2y : Nat) : Option (Bool) := zca q2r q2w q2v q2s q2u q2y (fun c0_ => some c0_)
theorem zmp {R R' : Type} (o : Option R → Option R') (h0 : o none = none) (q2r : Nat) (q2w : Nat) (q2v : Nat) (q2s : Nat) (q2u : Nat) (q2y : Nat) (k_ : Bool → Option R) : zca q2r q2w q2v q2s q2u q2y (fun c0_ => o (k_ c0_)) = o (zca q2r q2w q2v q2s q2u q2y k_) := by
  unfold zca
  repeat (first | refine grd_out h0 ?_ | refine br_out ?_ ?_ | rfl | exact h0.symm)
noncomputable def zi5 (q2r : Nat) (q2w : Nat) (q2v : Nat) (q2s : Nat) (q2u : Nat) (q2y : Nat) : Bool := (zch q2r q2w q2v q2s q2u q2y).isSome
noncomputable def zgk (q2r : Nat) (q2w : Nat) (q2v : Nat) (q2s : Nat) (q2u : Nat) (q2y : Nat) : Bool := ((zch q2r q2w q2v q2s q2u q2y).getD default)
theorem zo8 {q2r : Nat} {q2w : Nat} {q2v : Nat} {q2s : Nat} {q2u : Nat} {q2y : Nat} {r : Bool} (h : zch q2r q2w q2v q2s q2u q2y = some r) : zi5 q2r q2w q2v q2s q2u q2y = true ∧ zgk q2r q2w q2v q2s q2u q2y = r := by
  unfold zi5 zgk
  rw [h]
  exact ⟨rfl, rfl⟩
noncomputable def zdl {R : Type} (x : Nat) (k_ : Bool → Option R) : Option R := (grd (z8t x) (br (z8f x) (k_ (fcmp BinOp.geq FloatKind.f32 x 0)) (k_ Bool.false)))
noncomputable def zdn (x : Nat) : Option (Bool) := zdl x (fun c0_ => some c0_)
theorem znr {R R' : Type} (o : Option R → Option R') (h0 : o none = none) (x : Nat) (k_ : Bool → Option R) : zdl x (fun c0_ => o (k_ c0_)) = o (zdl x k_) := by
  unfold zdl
  repeat (first | refine grd_out h0 ?_ | refine br_out ?_ ?_ | rfl | exact h0.symm)
noncomputable def zh6 (x : Nat) : Bool := (zdn x).isSome
noncomputable def zex (x : Nat) : Bool := ((zdn x).getD default)
theorem zlb {x : Nat} {r : Bool} (h : zdn x = some r) : zh6 x = true ∧ zex x = r := by
  unfold zh6 zex
  rw [h]
  exact ⟨rfl, rfl⟩
noncomputable def zcr {R : Type} (x : Nat) (k_ : Bool → Option R) : Option R := (grd (z71 x) (br (z6m x) (k_ (fcmp BinOp.gtr FloatKind.f32 x 0)) (k_ Bool.false)))
noncomputable def zcv (x : Nat) : Option (Bool) := zcr x (fun c0_ => some c0_)
theorem zn8 {R R' : Type} (o : Option R → Option R') (h0 : o none = none) (x : Nat) (k_ : Bool → Option R) : zcr x (fun c0_ => o (k_ c0_)) = o (zcr x k_) := by
  unfold zcr
  repeat (first | refine grd_out h0 ?_ | refine br_out ?_ ?_ | rfl | exact h0.symm)
noncomputable def ziv (x : Nat) : Bool := (zcv x).isSome
noncomputable def zia (x : Nat) : Bool := ((zcv x).getD default)
theorem zot {x : Nat} {r : Bool} (h : zcv x = some r) : ziv x = true ∧ zia x = r := by
  unfold ziv zia
  rw [h]
  exact ⟨rfl, rfl⟩
noncomputable def zaa {R : Type} (x : Nat) (k_ : Bool → Option R) : Option R := (grd (z8t x) (k_ (bnot (z8f x))))
noncomputable def zab (x : Nat) : Option (Bool) := zaa x (fun c0_ => some c0_)
theorem zlv {R R' : Type} (o : Option R → Option R') (h0 : o none = none) (x : Nat) (k_ : Bool → Option R) : zaa x (fun c0_ => o (k_ c0_)) = o (zaa x k_) := by
  unfold zaa
  repeat (first | refine grd_out h0 ?_ | refine br_out ?_ ?_ | rfl | exact h0.symm)
noncomputable def zf1 (x : Nat) : Bool := (zab x).isSome
noncomputable def zdy (x : Nat) : Bool := ((zab x).getD default)
theorem znk {x : Nat} {r : Bool} (h : zab x = some r) : zf1 x = true ∧ zdy x = r := by
  unfold zf1 zdy
  rw [h]
  exact ⟨rfl, rfl⟩
noncomputable def z98 {R : Type} (x : Nat) (k_ : Bool → Option R) : Option R := (grd (z8t x) (br (bnot (z8f x)) (k_ Bool.true) (k_ (fcmp BinOp.leq FloatKind.f32 x 0))))
noncomputable def z97 (x : Nat) : Option (Bool) := z98 x (fun c0_ => some c0_)
theorem zku {R R' : Type} (o : Option R → Option R') (h0 : o none = none) (x : Nat) (k_ : Bool → Option R) : z98 x (fun c0_ => o (k_ c0_)) = o (z98 x k_) := by
  unfold z98
  repeat (first | refine grd_out h0 ?_ | refine br_out ?_ ?_ | rfl | exact h0.symm)
noncomputable def zdc (x : Nat) : Bool := (z97 x).isSome
noncomputable def zcw (x : Nat) : Bool := ((z97 x).getD default)
theorem zlx {x : Nat} {r : Bool} (h : z97 x = some r) : zdc x = true ∧ zcw x = r := by
  unfold zdc zcw
  rw [h]
  exact ⟨rfl, rfl⟩
noncomputable def z6n {R : Type} (an : Nat) (q30 : Nat) (b0 : List Nat) (i : Int) (b1 : List Nat) (kn_ : Int → (List Nat) → Option R) (k0_ : Int → Bool → (List Nat) → Option R) : Option R := (br (ltI i (Int.ofNat an)) (grd (okIx i an) (grd (okIx i q30) (kn_ (addI IntKind.i64 i 1) (sF b1 (ixO 0 i 1) (gF b0 (ixO 0 i 1)))))) (k0_ i (ltI i (Int.ofNat an)) b1))
theorem zki {R R' : Type} (o : Option R → Option R') (h0 : o none = none) (an : Nat) (q30 : Nat) (b0 : List Nat) (i : Int) (b1 : List Nat) (kn_ : Int → (List Nat) → Option R) (k0_ : Int → Bool → (List Nat) → Option R) : z6n an q30 b0 i b1 (fun i' b1' => o (kn_ i' b1')) (fun c0_ c1_ c2_ => o (k0_ c0_ c1_ c2_)) = o (z6n an q30 b0 i b1 kn_ k0_) := by
  unfold z6n
  repeat (first | refine grd_out h0 ?_ | refine br_out ?_ ?_ | rfl | exact h0.symm)
noncomputable def z5g (an : Nat) (q30 : Nat) (b0 : List Nat) : Nat → Int → (List Nat) → Option ((Int × Bool × (List Nat)))
  | 0, _, _ => none
  | n + 1, i, b1 => z6n an q30 b0  i b1  (fun i' b1' => z5g an q30 b0 n i' b1') (fun c0_ c1_ c2_ => some (c0_, c1_, c2_))
theorem ziw (an : Nat) (q30 : Nat) (b0 : List Nat) (n : Nat) (i : Int) (b1 : List Nat) : z5g an q30 b0 (n + 1) i b1 = z6n an q30 b0  i b1  (fun i' b1' => z5g an q30 b0 n i' b1') (fun c0_ c1_ c2_ => some (c0_, c1_, c2_)) := rfl
noncomputable def zbj (an : Nat) (q30 : Nat) (b0 : List Nat) (i : Int) (b1 : List Nat) : Bool := (z5g an q30 b0 big i b1).isSome
noncomputable def zee (an : Nat) (q30 : Nat) (b0 : List Nat) (i : Int) (b1 : List Nat) : Int := ((z5g an q30 b0 big i b1).getD default).1
noncomputable def zep (an : Nat) (q30 : Nat) (b0 : List Nat) (i : Int) (b1 : List Nat) : Bool := ((z5g an q30 b0 big i b1).getD default).2.1
noncomputable def z9c (an : Nat) (q30 : Nat) (b0 : List Nat) (i : Int) (b1 : List Nat) : List Nat := ((z5g an q30 b0 big i b1).getD default).2.2
theorem zlq {an : Nat} {q30 : Nat} {b0 : List Nat} {i : Int} {b1 : List Nat} {m : Nat} {r : Int × Bool × (List Nat)} (hm : m = big) (h : z5g an q30 b0 m i b1 = some r) : zbj an q30 b0 i b1 = true ∧ zee an q30 b0 i b1 = r.1 ∧ zep an q30 b0 i b1 = r.2.1 ∧ z9c an q30 b0 i b1 = r.2.2 := by
  subst hm
  unfold zbj zee zep z9c
  rw [h]
  exact ⟨rfl, rfl, rfl, rfl⟩
noncomputable def z5y {R : Type} (an : Nat) (b0 : List Nat) (k : Int) (i : Int) (kn_ : Int → Int → Option R) (k0_ : Unit → Option R) (k1_ : Int → Int → Bool → Option R) : Option R := (br (ltI i (Int.ofNat an)) (grd (okIx i an) (br (fcmp BinOp.neq FloatKind.f32 (gF b0 (ixO 0 i 3)) (fOI FloatKind.f32 k)) (k0_ ()) (grd (okIx i an) (br (fcmp BinOp.neq FloatKind.f32 (gF b0 (Nat.succ (ixO 0 i 3))) (fOI FloatKind.f32 (addI IntKind.i64 k 1))) (k0_ ()) (grd (okIx i an) (br (fcmp BinOp.neq FloatKind.f32 (gF b0 (Nat.succ (Nat.succ (ixO 0 i 3)))) (fOI FloatKind.f32 (addI IntKind.i64 (addI IntKind.i64 k 1) 1))) (k0_ ()) (kn_ (addI IntKind.i64 (addI IntKind.i64 (addI IntKind.i64 k 1) 1) 1) (addI IntKind.i64 i 1)))))))) (k1_ k i (ltI i (Int.ofNat an))))
theorem zk2 {R R' : Type} (o : Option R → Option R') (h0 : o none = none) (an : Nat) (b0 : List Nat) (k : Int) (i : Int) (kn_ : Int → Int → Option R) (k0_ : Unit → Option R) (k1_ : Int → Int → Bool → Option R) : z5y an b0 k i (fun k' i' => o (kn_ k' i')) (fun _ => o (k0_ ())) (fun c0_ c1_ c2_ => o (k1_ c0_ c1_ c2_)) = o (z5y an b0 k i kn_ k0_ k1_) := by
  unfold z5y
  repeat (first | refine grd_out h0 ?_ | refine br_out ?_ ?_ | rfl | exact h0.symm)
noncomputable def z45 (an : Nat) (b0 : List Nat) : Nat → Int → Int → Option ((Unit) ⊕ (Int × Int × Bool))
  | 0, _, _ => none
  | n + 1, k, i => z5y an b0  k i  (fun k' i' => z45 an b0 n k' i') (fun _ => some (Sum.inl ())) (fun c0_ c1_ c2_ => some (Sum.inr (c0_, c1_, c2_)))
theorem zi3 (an : Nat) (b0 : List Nat) (n : Nat) (k : Int) (i : Int) : z45 an b0 (n + 1) k i = z5y an b0  k i  (fun k' i' => z45 an b0 n k' i') (fun _ => some (Sum.inl ())) (fun c0_ c1_ c2_ => some (Sum.inr (c0_, c1_, c2_))) := rfl
noncomputable def zcn (an : Nat) (b0 : List Nat) (k : Int) (i : Int) : Bool := (z45 an b0 big k i).isSome
noncomputable def zc3 (an : Nat) (b0 : List Nat) (k : Int) (i : Int) : Bool := oL (z45 an b0 big k i)
noncomputable def zaz (an : Nat) (b0 : List Nat) (k : Int) (i : Int) : Int := ((tR (z45 an b0 big k i)).getD default).1
noncomputable def zdd (an : Nat) (b0 : List Nat) (k : Int) (i : Int) : Int := ((tR (z45 an b0 big k i)).getD default).2.1
noncomputable def zdg (an : Nat) (b0 : List Nat) (k : Int) (i : Int) : Bool := ((tR (z45 an b0 big k i)).getD default).2.2
theorem zkk {an : Nat} {b0 : List Nat} {k : Int} {i : Int} {m : Nat} {r : Int × Int × Bool} (hm : m = big) (h : z45 an b0 m k i = some (Sum.inr r)) : zcn an b0 k i = true ∧ zc3 an b0 k i = false ∧ zaz an b0 k i = r.1 ∧ zdd an b0 k i = r.2.1 ∧ zdg an b0 k i = r.2.2 := by
  subst hm
  unfold zcn zc3 zaz zdd zdg
  rw [h]
  exact ⟨rfl, rfl, rfl, rfl, rfl⟩
noncomputable def z5z {R : Type} (an : Nat) (b0 : List Nat) (k : Int) (i : Int) (kn_ : Int → Int → Option R) (k0_ : Unit → Option R) (k1_ : Int → Int → Bool → Option R) : Option R := (br (ltI i (Int.ofNat an)) (grd (okIx i an) (br (fcmp BinOp.neq FloatKind.f32 (gF b0 (ixO 0 i 1)) (fOI FloatKind.f32 k)) (k0_ ()) (kn_ (addI IntKind.i64 k 1) (addI IntKind.i64 i 1)))) (k1_ k i (ltI i (Int.ofNat an))))
theorem zk1 {R R' : Type} (o : Option R → Option R') (h0 : o none = none) (an : Nat) (b0 : List Nat) (k : Int) (i : Int) (kn_ : Int → Int → Option R) (k0_ : Unit → Option R) (k1_ : Int → Int → Bool → Option R) : z5z an b0 k i (fun k' i' => o (kn_ k' i')) (fun _ => o (k0_ ())) (fun c0_ c1_ c2_ => o (k1_ c0_ c1_ c2_)) = o (z5z an b0 k i kn_ k0_ k1_) := by
  unfold z5z
  repeat (first | refine grd_out h0 ?_ | refine br_out ?_ ?_ | rfl | exact h0.symm)
noncomputable def z46 (an : Nat) (b0 : List Nat) : Nat → Int → Int → Option ((Unit) ⊕ (Int × Int × Bool))
  | 0, _, _ => none
  | n + 1, k, i => z5z an b0  k i  (fun k' i' => z46 an b0 n k' i') (fun _ => some (Sum.inl ())) (fun c0_ c1_ c2_ => some (Sum.inr (c0_, c1_, c2_)))
theorem zi1 (an : Nat) (b0 : List Nat) (n : Nat) (k : Int) (i : Int) : z46 an b0 (n + 1) k i = z5z an b0  k i  (fun k' i' => z46 an b0 n k' i') (fun _ => some (Sum.inl ())) (fun c0_ c1_ c2_ => some (Sum.inr (c0_, c1_, c2_))) := rfl
noncomputable def zcm (an : Nat) (b0 : List Nat) (k : Int) (i : Int) : Bool := (z46 an b0 big k i).isSome
noncomputable def zc2 (an : Nat) (b0 : List Nat) (k : Int) (i : Int) : Bool := oL (z46 an b0 big k i)
noncomputable def zb1 (an : Nat) (b0 : List Nat) (k : Int) (i : Int) : Int := ((tR (z46 an b0 big k i)).getD default).1
noncomputable def zdb (an : Nat) (b0 : List Nat) (k : Int) (i : Int) : Int := ((tR (z46 an b0 big k i)).getD default).2.1
noncomputable def zd7 (an : Nat) (b0 : List Nat) (k : Int) (i : Int) : Bool := ((tR (z46 an b0 big k i)).getD default).2.2
theorem zkn {an : Nat} {b0 : List Nat} {k : Int} {i : Int} {m : Nat} {r : Int × Int × Bool} (hm : m = big) (h : z46 an b0 m k i = some (Sum.inr r)) : zcm an b0 k i = true ∧ zc2 an b0 k i = false ∧ zb1 an b0 k i = r.1 ∧ zdb an b0 k i = r.2.1 ∧ zd7 an b0 k i = r.2.2 := by
  subst hm
  unfold zcm zc2 zb1 zdb zd7
  rw [h]
  exact ⟨rfl, rfl, rfl, rfl, rfl⟩
noncomputable def zbv {R : Type} (a_n : Nat) (a : List Nat) (k_ : Nat → (List Nat) → Option R) : Option R := (grd (okMk (Int.ofNat a_n) (Int.ofNat a_n) 4) (grd (zbj a_n (toN (Int.ofNat a_n)) a 0 (rF (muN (toN (Int.ofNat a_n)) 1))) (k_ (toN (Int.ofNat a_n)) (z9c a_n (toN (Int.ofNat a_n)) a 0 (rF (muN (toN (Int.ofNat a_n)) 1))))))
noncomputable def z9d (a_n : Nat) (a : List Nat) : Option (Nat × (List Nat)) := zbv a_n a (fun c0_ c1_ => some (c0_, c1_))
theorem zm2 {R R' : Type} (o : Option R → Option R') (h0 : o none = none) (a_n : Nat) (a : List Nat) (k_ : Nat → (List Nat) → Option R) : zbv a_n a (fun c0_ c1_ => o (k_ c0_ c1_)) = o (zbv a_n a k_) := by
  unfold zbv
  repeat (first | refine grd_out h0 ?_ | refine br_out ?_ ?_ | rfl | exact h0.symm)
noncomputable def zbx (a_n : Nat) (a : List Nat) : Bool := (z9d a_n a).isSome
noncomputable def zad (a_n : Nat) (a : List Nat) : Nat := ((z9d a_n a).getD default).1
noncomputable def za5 (a_n : Nat) (a : List Nat) : List Nat := ((z9d a_n a).getD default).2
theorem ziz {a_n : Nat} {a : List Nat} {r : Nat × (List Nat)} (h : z9d a_n a = some r) : zbx a_n a = true ∧ zad a_n a = r.1 ∧ za5 a_n a = r.2 := by
  unfold zbx zad za5
  rw [h]
  exact ⟨rfl, rfl, rfl⟩
noncomputable def z9l {R : Type} (a_n : Nat) (a : List Nat) (k : Int) (k_ : Int → Option R) : Option R := (grd (zcn a_n a k 0) (br (zc3 a_n a k 0) (k_ (Int.negSucc 0)) (k_ (zaz a_n a k 0))))
noncomputable def z9p (a_n : Nat) (a : List Nat) (k : Int) : Option (Int) := z9l a_n a k (fun c0_ => some c0_)
theorem zl5 {R R' : Type} (o : Option R → Option R') (h0 : o none = none) (a_n : Nat) (a : List Nat) (k : Int) (k_ : Int → Option R) : z9l a_n a k (fun c0_ => o (k_ c0_)) = o (z9l a_n a k k_) := by
  unfold z9l
  repeat (first | refine grd_out h0 ?_ | refine br_out ?_ ?_ | rfl | exact h0.symm)
noncomputable def ze1 (a_n : Nat) (a : List Nat) (k : Int) : Bool := (z9p a_n a k).isSome
noncomputable def zbi (a_n : Nat) (a : List Nat) (k : Int) : Int := ((z9p a_n a k).getD default)
theorem zmt {a_n : Nat} {a : List Nat} {k : Int} {r : Int} (h : z9p a_n a k = some r) : ze1 a_n a k = true ∧ zbi a_n a k = r := by
  unfold ze1 zbi
  rw [h]
  exact ⟨rfl, rfl⟩
noncomputable def z9o {R : Type} (a_n : Nat) (a : List Nat) (k : Int) (k_ : Int → Option R) : Option R := (grd (zcm a_n a k 0) (br (zc2 a_n a k 0) (k_ (Int.negSucc 0)) (k_ (zb1 a_n a k 0))))
noncomputable def z9i (a_n : Nat) (a : List Nat) (k : Int) : Option (Int) := z9o a_n a k (fun c0_ => some c0_)
theorem zl0 {R R' : Type} (o : Option R → Option R') (h0 : o none = none) (a_n : Nat) (a : List Nat) (k : Int) (k_ : Int → Option R) : z9o a_n a k (fun c0_ => o (k_ c0_)) = o (z9o a_n a k k_) := by
  unfold z9o
  repeat (first | refine grd_out h0 ?_ | refine br_out ?_ ?_ | rfl | exact h0.symm)
noncomputable def z9k (a_n : Nat) (a : List Nat) (k : Int) : Bool := (z9i a_n a k).isSome
noncomputable def z4j (a_n : Nat) (a : List Nat) (k : Int) : Int := ((z9i a_n a k).getD default)
theorem zii {a_n : Nat} {a : List Nat} {k : Int} {r : Int} (h : z9i a_n a k = some r) : z9k a_n a k = true ∧ z4j a_n a k = r := by
  unfold z9k z4j
  rw [h]
  exact ⟨rfl, rfl⟩
noncomputable def zbn {R : Type} (x : Nat) (k_ : Bool → Option R) : Option R := (grd (zh6 x) (k_ (bnot (zex x))))
noncomputable def zbo (x : Nat) : Option (Bool) := zbn x (fun c0_ => some c0_)
theorem zm7 {R R' : Type} (o : Option R → Option R') (h0 : o none = none) (x : Nat) (k_ : Bool → Option R) : zbn x (fun c0_ => o (k_ c0_)) = o (zbn x k_) := by
  unfold zbn
  repeat (first | refine grd_out h0 ?_ | refine br_out ?_ ?_ | rfl | exact h0.symm)
noncomputable def zgi (x : Nat) : Bool := (zbo x).isSome
noncomputable def zf6 (x : Nat) : Bool := ((zbo x).getD default)
theorem znx {x : Nat} {r : Bool} (h : zbo x = some r) : zgi x = true ∧ zf6 x = r := by
  unfold zgi zf6
  rw [h]
  exact ⟨rfl, rfl⟩
noncomputable def z6p {R : Type} (an : Nat) (bn : Nat) (b0 : List Nat) (b1 : List Nat) (i : Int) (kn_ : Int → Option R) (k0_ : Unit → Option R) (k1_ : Int → Bool → Option R) : Option R := (br (ltI i (Int.ofNat an)) (grd (okIx i an) (grd (okIx i bn) (grd (z8h (fcvV FloatKind.f32 FloatKind.f64 (gF b0 (ixO 0 i 1))) (fcvV FloatKind.f32 FloatKind.f64 (gF b1 (ixO 0 i 1)))) (br (bnot (z85 (fcvV FloatKind.f32 FloatKind.f64 (gF b0 (ixO 0 i 1))) (fcvV FloatKind.f32 FloatKind.f64 (gF b1 (ixO 0 i 1))))) (k0_ ()) (kn_ (addI IntKind.i64 i 1)))))) (k1_ i (ltI i (Int.ofNat an))))
theorem zkh {R R' : Type} (o : Option R → Option R') (h0 : o none = none) (an : Nat) (bn : Nat) (b0 : List Nat) (b1 : List Nat) (i : Int) (kn_ : Int → Option R) (k0_ : Unit → Option R) (k1_ : Int → Bool → Option R) : z6p an bn b0 b1 i (fun i' => o (kn_ i')) (fun _ => o (k0_ ())) (fun c0_ c1_ => o (k1_ c0_ c1_)) = o (z6p an bn b0 b1 i kn_ k0_ k1_) := by
  unfold z6p
  repeat (first | refine grd_out h0 ?_ | refine br_out ?_ ?_ | rfl | exact h0.symm)
noncomputable def z5e (an : Nat) (bn : Nat) (b0 : List Nat) (b1 : List Nat) : Nat → Int → Option ((Unit) ⊕ (Int × Bool))
  | 0, _ => none
  | n + 1, i => z6p an bn b0 b1  i  (fun i' => z5e an bn b0 b1 n i') (fun _ => some (Sum.inl ())) (fun c0_ c1_ => some (Sum.inr (c0_, c1_)))
theorem zit (an : Nat) (bn : Nat) (b0 : List Nat) (b1 : List Nat) (n : Nat) (i : Int) : z5e an bn b0 b1 (n + 1) i = z6p an bn b0 b1  i  (fun i' => z5e an bn b0 b1 n i') (fun _ => some (Sum.inl ())) (fun c0_ c1_ => some (Sum.inr (c0_, c1_))) := rfl
noncomputable def zda (an : Nat) (bn : Nat) (b0 : List Nat) (b1 : List Nat) (i : Int) : Bool := (z5e an bn b0 b1 big i).isSome
noncomputable def zcx (an : Nat) (bn : Nat) (b0 : List Nat) (b1 : List Nat) (i : Int) : Bool := oL (z5e an bn b0 b1 big i)
noncomputable def zea (an : Nat) (bn : Nat) (b0 : List Nat) (b1 : List Nat) (i : Int) : Int := ((tR (z5e an bn b0 b1 big i)).getD default).1
noncomputable def zef (an : Nat) (bn : Nat) (b0 : List Nat) (b1 : List Nat) (i : Int) : Bool := ((tR (z5e an bn b0 b1 big i)).getD default).2
theorem zlm {an : Nat} {bn : Nat} {b0 : List Nat} {b1 : List Nat} {i : Int} {m : Nat} {r : Int × Bool} (hm : m = big) (h : z5e an bn b0 b1 m i = some (Sum.inr r)) : zda an bn b0 b1 i = true ∧ zcx an bn b0 b1 i = false ∧ zea an bn b0 b1 i = r.1 ∧ zef an bn b0 b1 i = r.2 := by
  subst hm
  unfold zda zcx zea zef
  rw [h]
  exact ⟨rfl, rfl, rfl, rfl⟩
noncomputable def zck {R : Type} (q0d : Nat) (q0t : List Nat) (q0h : Nat) (q0x : List Nat) (q0j : Nat) (q10 : List Nat) (k_ : Nat → Nat → Nat → (List Nat) → (List Nat) → (List Nat) → Option R) : Option R := (grd (zbx q0d (pF q0t 0 (muN q0d 1))) (grd (zbx q0h (pF q0x 0 (muN q0h 1))) (grd (zbx q0j (pF q10 0 (muN q0j 1))) (k_ (zad q0d (pF q0t 0 (muN q0d 1))) (zad q0h (pF q0x 0 (muN q0h 1))) (zad q0j (pF q10 0 (muN q0j 1))) (za5 q0d (pF q0t 0 (muN q0d 1))) (za5 q0h (pF q0x 0 (muN q0h 1))) (za5 q0j (pF q10 0 (muN q0j 1)))))))
noncomputable def z70 (q0d : Nat) (q0t : List Nat) (q0h : Nat) (q0x : List Nat) (q0j : Nat) (q10 : List Nat) : Option (Nat × Nat × Nat × (List Nat) × (List Nat) × (List Nat)) := zck q0d q0t q0h q0x q0j q10 (fun c0_ c1_ c2_ c3_ c4_ c5_ => some (c0_, c1_, c2_, c3_, c4_, c5_))
theorem zmu {R R' : Type} (o : Option R → Option R') (h0 : o none = none) (q0d : Nat) (q0t : List Nat) (q0h : Nat) (q0x : List Nat) (q0j : Nat) (q10 : List Nat) (k_ : Nat → Nat → Nat → (List Nat) → (List Nat) → (List Nat) → Option R) : zck q0d q0t q0h q0x q0j q10 (fun c0_ c1_ c2_ c3_ c4_ c5_ => o (k_ c0_ c1_ c2_ c3_ c4_ c5_)) = o (zck q0d q0t q0h q0x q0j q10 k_) := by
  unfold zck
  repeat (first | refine grd_out h0 ?_ | refine br_out ?_ ?_ | rfl | exact h0.symm)
noncomputable def zdw (q0d : Nat) (q0t : List Nat) (q0h : Nat) (q0x : List Nat) (q0j : Nat) (q10 : List Nat) : Bool := (z70 q0d q0t q0h q0x q0j q10).isSome
noncomputable def zd6 (q0d : Nat) (q0t : List Nat) (q0h : Nat) (q0x : List Nat) (q0j : Nat) (q10 : List Nat) : Nat := ((z70 q0d q0t q0h q0x q0j q10).getD default).1
noncomputable def zd0 (q0d : Nat) (q0t : List Nat) (q0h : Nat) (q0x : List Nat) (q0j : Nat) (q10 : List Nat) : Nat := ((z70 q0d q0t q0h q0x q0j q10).getD default).2.1
noncomputable def zd5 (q0d : Nat) (q0t : List Nat) (q0h : Nat) (q0x : List Nat) (q0j : Nat) (q10 : List Nat) : Nat := ((z70 q0d q0t q0h q0x q0j q10).getD default).2.2.1
noncomputable def zd4 (q0d : Nat) (q0t : List Nat) (q0h : Nat) (q0x : List Nat) (q0j : Nat) (q10 : List Nat) : List Nat := ((z70 q0d q0t q0h q0x q0j q10).getD default).2.2.2.1
noncomputable def zd1 (q0d : Nat) (q0t : List Nat) (q0h : Nat) (q0x : List Nat) (q0j : Nat) (q10 : List Nat) : List Nat := ((z70 q0d q0t q0h q0x q0j q10).getD default).2.2.2.2.1
noncomputable def zd3 (q0d : Nat) (q0t : List Nat) (q0h : Nat) (q0x : List Nat) (q0j : Nat) (q10 : List Nat) : List Nat := ((z70 q0d q0t q0h q0x q0j q10).getD default).2.2.2.2.2
theorem zof {q0d : Nat} {q0t : List Nat} {q0h : Nat} {q0x : List Nat} {q0j : Nat} {q10 : List Nat} {r : Nat × Nat × Nat × (List Nat) × (List Nat) × (List Nat)} (h : z70 q0d q0t q0h q0x q0j q10 = some r) : zdw q0d q0t q0h q0x q0j q10 = true ∧ zd6 q0d q0t q0h q0x q0j q10 = r.1 ∧ zd0 q0d q0t q0h q0x q0j q10 = r.2.1 ∧ zd5 q0d q0t q0h q0x q0j q10 = r.2.2.1 ∧ zd4 q0d q0t q0h q0x q0j q10 = r.2.2.2.1 ∧ zd1 q0d q0t q0h q0x q0j q10 = r.2.2.2.2.1 ∧ zd3 q0d q0t q0h q0x q0j q10 = r.2.2.2.2.2 := by
  unfold zdw zd6 zd0 zd5 zd4 zd1 zd3
  rw [h]
  exact ⟨rfl, rfl, rfl, rfl, rfl, rfl, rfl⟩
noncomputable def zag {R : Type} (q0d : Nat) (q0t : List Nat) (q0h : Nat) (q0x : List Nat) (q0j : Nat) (q10 : List Nat) (k : Int) (k_ : Int → Option R) : Option R := (grd (z9k q0d (pF q0t 0 (muN q0d 1)) k) (br (ltI (z4j q0d (pF q0t 0 (muN q0d 1)) k) 0) (k_ (Int.negSucc 0)) (grd (z9k q0h (pF q0x 0 (muN q0h 1)) (z4j q0d (pF q0t 0 (muN q0d 1)) k)) (br (ltI (z4j q0h (pF q0x 0 (muN q0h 1)) (z4j q0d (pF q0t 0 (muN q0d 1)) k)) 0) (k_ (Int.negSucc 0)) (grd (z9k q0j (pF q10 0 (muN q0j 1)) (z4j q0h (pF q0x 0 (muN q0h 1)) (z4j q0d (pF q0t 0 (muN q0d 1)) k))) (br (ltI (z4j q0j (pF q10 0 (muN q0j 1)) (z4j q0h (pF q0x 0 (muN q0h 1)) (z4j q0d (pF q0t 0 (muN q0d 1)) k))) 0) (k_ (Int.negSucc 0)) (k_ (z4j q0j (pF q10 0 (muN q0j 1)) (z4j q0h (pF q0x 0 (muN q0h 1)) (z4j q0d (pF q0t 0 (muN q0d 1)) k))))))))))
noncomputable def zai (q0d : Nat) (q0t : List Nat) (q0h : Nat) (q0x : List Nat) (q0j : Nat) (q10 : List Nat) (k : Int) : Option (Int) := zag q0d q0t q0h q0x q0j q10 k (fun c0_ => some c0_)
theorem zlp {R R' : Type} (o : Option R → Option R') (h0 : o none = none) (q0d : Nat) (q0t : List Nat) (q0h : Nat) (q0x : List Nat) (q0j : Nat) (q10 : List Nat) (k : Int) (k_ : Int → Option R) : zag q0d q0t q0h q0x q0j q10 k (fun c0_ => o (k_ c0_)) = o (zag q0d q0t q0h q0x q0j q10 k k_) := by
  unfold zag
  repeat (first | refine grd_out h0 ?_ | refine br_out ?_ ?_ | rfl | exact h0.symm)
noncomputable def zff (q0d : Nat) (q0t : List Nat) (q0h : Nat) (q0x : List Nat) (q0j : Nat) (q10 : List Nat) (k : Int) : Bool := (zai q0d q0t q0h q0x q0j q10 k).isSome
noncomputable def z8l (q0d : Nat) (q0t : List Nat) (q0h : Nat) (q0x : List Nat) (q0j : Nat) (q10 : List Nat) (k : Int) : Int := ((zai q0d q0t q0h q0x q0j q10 k).getD default)
theorem zne {q0d : Nat} {q0t : List Nat} {q0h : Nat} {q0x : List Nat} {q0j : Nat} {q10 : List Nat} {k : Int} {r : Int} (h : zai q0d q0t q0h q0x q0j q10 k = some r) : zff q0d q0t q0h q0x q0j q10 k = true ∧ z8l q0d q0t q0h q0x q0j q10 k = r := by
  unfold zff z8l
  rw [h]
  exact ⟨rfl, rfl⟩
noncomputable def zbz {R : Type} (a_n : Nat) (a : List Nat) (b_n : Nat) (b : List Nat) (k_ : Bool → Option R) : Option R := (br (neI (Int.ofNat a_n) (Int.ofNat b_n)) (k_ Bool.false) (grd (zda a_n b_n a b 0) (br (zcx a_n b_n a b 0) (k_ Bool.false) (k_ Bool.true))))
noncomputable def zby (a_n : Nat) (a : List Nat) (b_n : Nat) (b : List Nat) : Option (Bool) := zbz a_n a b_n b (fun c0_ => some c0_)
theorem zly {R R' : Type} (o : Option R → Option R') (h0 : o none = none) (a_n : Nat) (a : List Nat) (b_n : Nat) (b : List Nat) (k_ : Bool → Option R) : zbz a_n a b_n b (fun c0_ => o (k_ c0_)) = o (zbz a_n a b_n b k_) := by
  unfold zbz
  repeat (first | refine grd_out h0 ?_ | refine br_out ?_ ?_ | rfl | exact h0.symm)
noncomputable def zc0 (a_n : Nat) (a : List Nat) (b_n : Nat) (b : List Nat) : Bool := (zby a_n a b_n b).isSome
noncomputable def za8 (a_n : Nat) (a : List Nat) (b_n : Nat) (b : List Nat) : Bool := ((zby a_n a b_n b).getD default)
theorem zj2 {a_n : Nat} {a : List Nat} {b_n : Nat} {b : List Nat} {r : Bool} (h : zby a_n a b_n b = some r) : zc0 a_n a b_n b = true ∧ za8 a_n a b_n b = r := by
  unfold zc0 za8
  rw [h]
  exact ⟨rfl, rfl⟩
noncomputable def z8m {R : Type} (t3 : Int) (b0 : List Nat) (b1 : List Nat) (b2 : List Nat) (q0i : Nat) (q0r : Nat) (q0q : Nat) (t4 : Int) (kn_ : Int → Option R) (k0_ : Unit → Option R) (k1_ : Int → Bool → Option R) : Option R := (br (ltI t4 t3) (grd (okIx t4 q0i) (br (fcmp BinOp.geq FloatKind.f32 (gF b0 (ixO 0 t4 1)) 3204448256) (grd (okIx t4 q0i) (br (bnot (fcmp BinOp.leq FloatKind.f32 (gF b0 (ixO 0 t4 1)) 1056964608)) (k0_ ()) (br (ltI 0 t4) (grd (okIx t4 q0i) (grd (okIx (subI IntKind.i64 t4 1) q0i) (br (fcmp BinOp.leq FloatKind.f32 (gF b0 (ixO 0 t4 1)) (gF b0 (ixO 0 (subI IntKind.i64 t4 1) 1))) (k0_ ()) (grd (okIx t4 q0r) (grd (z71 (gF b1 (ixO 0 t4 1))) (br (bnot (z6m (gF b1 (ixO 0 t4 1)))) (k0_ ()) (grd (okIx t4 q0q) (grd (z9e (gF b2 (ixO 0 t4 1))) (br (bnot (z92 (gF b2 (ixO 0 t4 1)))) (k0_ ()) (kn_ (addI IntKind.i64 t4 1))))))))))) (grd (okIx t4 q0r) (grd (z71 (gF b1 (ixO 0 t4 1))) (br (bnot (z6m (gF b1 (ixO 0 t4 1)))) (k0_ ()) (grd (okIx t4 q0q) (grd (z9e (gF b2 (ixO 0 t4 1))) (br (bnot (z92 (gF b2 (ixO 0 t4 1)))) (k0_ ()) (kn_ (addI IntKind.i64 t4 1))))))))))) (br (bnot Bool.false) (k0_ ()) (br (ltI 0 t4) (grd (okIx t4 q0i) (grd (okIx (subI IntKind.i64 t4 1) q0i) (br (fcmp BinOp.leq FloatKind.f32 (gF b0 (ixO 0 t4 1)) (gF b0 (ixO 0 (subI IntKind.i64 t4 1) 1))) (k0_ ()) (grd (okIx t4 q0r) (grd (z71 (gF b1 (ixO 0 t4 1))) (br (bnot (z6m (gF b1 (ixO 0 t4 1)))) (k0_ ()) (grd (okIx t4 q0q) (grd (z9e (gF b2 (ixO 0 t4 1))) (br (bnot (z92 (gF b2 (ixO 0 t4 1)))) (k0_ ()) (kn_ (addI IntKind.i64 t4 1))))))))))) (grd (okIx t4 q0r) (grd (z71 (gF b1 (ixO 0 t4 1))) (br (bnot (z6m (gF b1 (ixO 0 t4 1)))) (k0_ ()) (grd (okIx t4 q0q) (grd (z9e (gF b2 (ixO 0 t4 1))) (br (bnot (z92 (gF b2 (ixO 0 t4 1)))) (k0_ ()) (kn_ (addI IntKind.i64 t4 1)))))))))))) (k1_ t4 (ltI t4 t3)))
theorem znh {R R' : Type} (o : Option R → Option R') (h0 : o none = none) (t3 : Int) (b0 : List Nat) (b1 : List Nat) (b2 : List Nat) (q0i : Nat) (q0r : Nat) (q0q : Nat) (t4 : Int) (kn_ : Int → Option R) (k0_ : Unit → Option R) (k1_ : Int → Bool → Option R) : z8m t3 b0 b1 b2 q0i q0r q0q t4 (fun t4' => o (kn_ t4')) (fun _ => o (k0_ ())) (fun c0_ c1_ => o (k1_ c0_ c1_)) = o (z8m t3 b0 b1 b2 q0i q0r q0q t4 kn_ k0_ k1_) := by
  unfold z8m
  repeat (first | refine grd_out h0 ?_ | refine br_out ?_ ?_ | rfl | exact h0.symm)
noncomputable def z6a (t3 : Int) (b0 : List Nat) (b1 : List Nat) (b2 : List Nat) (q0i : Nat) (q0r : Nat) (q0q : Nat) : Nat → Int → Option ((Unit) ⊕ (Int × Bool))
  | 0, _ => none
  | n + 1, t4 => z8m t3 b0 b1 b2 q0i q0r q0q  t4  (fun t4' => z6a t3 b0 b1 b2 q0i q0r q0q n t4') (fun _ => some (Sum.inl ())) (fun c0_ c1_ => some (Sum.inr (c0_, c1_)))
theorem zjp (t3 : Int) (b0 : List Nat) (b1 : List Nat) (b2 : List Nat) (q0i : Nat) (q0r : Nat) (q0q : Nat) (n : Nat) (t4 : Int) : z6a t3 b0 b1 b2 q0i q0r q0q (n + 1) t4 = z8m t3 b0 b1 b2 q0i q0r q0q  t4  (fun t4' => z6a t3 b0 b1 b2 q0i q0r q0q n t4') (fun _ => some (Sum.inl ())) (fun c0_ c1_ => some (Sum.inr (c0_, c1_))) := rfl
noncomputable def z9f (t3 : Int) (b0 : List Nat) (b1 : List Nat) (b2 : List Nat) (q0i : Nat) (q0r : Nat) (q0q : Nat) (t4 : Int) : Bool := (z6a t3 b0 b1 b2 q0i q0r q0q big t4).isSome
noncomputable def z91 (t3 : Int) (b0 : List Nat) (b1 : List Nat) (b2 : List Nat) (q0i : Nat) (q0r : Nat) (q0q : Nat) (t4 : Int) : Bool := oL (z6a t3 b0 b1 b2 q0i q0r q0q big t4)
noncomputable def ziy (t3 : Int) (b0 : List Nat) (b1 : List Nat) (b2 : List Nat) (q0i : Nat) (q0r : Nat) (q0q : Nat) (t4 : Int) : Int := ((tR (z6a t3 b0 b1 b2 q0i q0r q0q big t4)).getD default).1
noncomputable def zj4 (t3 : Int) (b0 : List Nat) (b1 : List Nat) (b2 : List Nat) (q0i : Nat) (q0r : Nat) (q0q : Nat) (t4 : Int) : Bool := ((tR (z6a t3 b0 b1 b2 q0i q0r q0q big t4)).getD default).2
theorem zo5 {t3 : Int} {b0 : List Nat} {b1 : List Nat} {b2 : List Nat} {q0i : Nat} {q0r : Nat} {q0q : Nat} {t4 : Int} {m : Nat} {r : Unit} (hm : m = big) (h : z6a t3 b0 b1 b2 q0i q0r q0q m t4 = some (Sum.inl r)) : z9f t3 b0 b1 b2 q0i q0r q0q t4 = true ∧ z91 t3 b0 b1 b2 q0i q0r q0q t4 = true := by
  subst hm
  unfold z9f z91
  rw [h]
  exact ⟨rfl, rfl⟩
theorem zoa {t3 : Int} {b0 : List Nat} {b1 : List Nat} {b2 : List Nat} {q0i : Nat} {q0r : Nat} {q0q : Nat} {t4 : Int} {m : Nat} {r : Int × Bool} (hm : m = big) (h : z6a t3 b0 b1 b2 q0i q0r q0q m t4 = some (Sum.inr r)) : z9f t3 b0 b1 b2 q0i q0r q0q t4 = true ∧ z91 t3 b0 b1 b2 q0i q0r q0q t4 = false ∧ ziy t3 b0 b1 b2 q0i q0r q0q t4 = r.1 ∧ zj4 t3 b0 b1 b2 q0i q0r q0q t4 = r.2 := by
  subst hm
  unfold z9f z91 ziy zj4
  rw [h]
  exact ⟨rfl, rfl, rfl, rfl⟩
noncomputable def z6r {R : Type} (an : Nat) (bn : Nat) (b0 : List Nat) (b1 : List Nat) (i : Int) (kn_ : Int → Option R) (k0_ : Unit → Option R) (k1_ : Int → Bool → Option R) : Option R := (br (ltI i (Int.ofNat an)) (grd (okIx i an) (grd (okIx i bn) (grd (zi5 (gF b0 (ixO 0 i 3)) (gF b0 (Nat.succ (ixO 0 i 3))) (gF b0 (Nat.succ (Nat.succ (ixO 0 i 3)))) (gF b1 (ixO 0 i 3)) (gF b1 (Nat.succ (ixO 0 i 3))) (gF b1 (Nat.succ (Nat.succ (ixO 0 i 3))))) (br (bnot (zgk (gF b0 (ixO 0 i 3)) (gF b0 (Nat.succ (ixO 0 i 3))) (gF b0 (Nat.succ (Nat.succ (ixO 0 i 3)))) (gF b1 (ixO 0 i 3)) (gF b1 (Nat.succ (ixO 0 i 3))) (gF b1 (Nat.succ (Nat.succ (ixO 0 i 3)))))) (k0_ ()) (kn_ (addI IntKind.i64 i 1)))))) (k1_ i (ltI i (Int.ofNat an))))
theorem zko {R R' : Type} (o : Option R → Option R') (h0 : o none = none) (an : Nat) (bn : Nat) (b0 : List Nat) (b1 : List Nat) (i : Int) (kn_ : Int → Option R) (k0_ : Unit → Option R) (k1_ : Int → Bool → Option R) : z6r an bn b0 b1 i (fun i' => o (kn_ i')) (fun _ => o (k0_ ())) (fun c0_ c1_ => o (k1_ c0_ c1_)) = o (z6r an bn b0 b1 i kn_ k0_ k1_) := by
  unfold z6r
  repeat (first | refine grd_out h0 ?_ | refine br_out ?_ ?_ | rfl | exact h0.symm)
noncomputable def z5f (an : Nat) (bn : Nat) (b0 : List Nat) (b1 : List Nat) : Nat → Int → Option ((Unit) ⊕ (Int × Bool))
  | 0, _ => none
  | n + 1, i => z6r an bn b0 b1  i  (fun i' => z5f an bn b0 b1 n i') (fun _ => some (Sum.inl ())) (fun c0_ c1_ => some (Sum.inr (c0_, c1_)))
theorem ziq (an : Nat) (bn : Nat) (b0 : List Nat) (b1 : List Nat) (n : Nat) (i : Int) : z5f an bn b0 b1 (n + 1) i = z6r an bn b0 b1  i  (fun i' => z5f an bn b0 b1 n i') (fun _ => some (Sum.inl ())) (fun c0_ c1_ => some (Sum.inr (c0_, c1_))) := rfl
noncomputable def zbh (an : Nat) (bn : Nat) (b0 : List Nat) (b1 : List Nat) (i : Int) : Bool := (z5f an bn b0 b1 big i).isSome
noncomputable def za6 (an : Nat) (bn : Nat) (b0 : List Nat) (b1 : List Nat) (i : Int) : Bool := oL (z5f an bn b0 b1 big i)
noncomputable def zem (an : Nat) (bn : Nat) (b0 : List Nat) (b1 : List Nat) (i : Int) : Int := ((tR (z5f an bn b0 b1 big i)).getD default).1
noncomputable def zel (an : Nat) (bn : Nat) (b0 : List Nat) (b1 : List Nat) (i : Int) : Bool := ((tR (z5f an bn b0 b1 big i)).getD default).2
theorem zlo {an : Nat} {bn : Nat} {b0 : List Nat} {b1 : List Nat} {i : Int} {m : Nat} {r : Int × Bool} (hm : m = big) (h : z5f an bn b0 b1 m i = some (Sum.inr r)) : zbh an bn b0 b1 i = true ∧ za6 an bn b0 b1 i = false ∧ zem an bn b0 b1 i = r.1 ∧ zel an bn b0 b1 i = r.2 := by
  subst hm
  unfold zbh za6 zem zel
  rw [h]
  exact ⟨rfl, rfl, rfl, rfl⟩
noncomputable def z3z {R : Type} (sn : Nat) (t7 : Int) (b0 : List Nat) (t8 : Int) (kn_ : Int → Option R) (k0_ : Int → Option R) (k1_ : Int → Bool → Option R) : Option R := (br (ltI t8 t7) (grd (okIx t8 sn) (grd (zf1 (gF b0 (ixO 0 t8 1))) (br (zdy (gF b0 (ixO 0 t8 1))) (k0_ t8) (kn_ (addI IntKind.i64 t8 1))))) (k1_ t8 (ltI t8 t7)))
theorem zed {R R' : Type} (o : Option R → Option R') (h0 : o none = none) (sn : Nat) (t7 : Int) (b0 : List Nat) (t8 : Int) (kn_ : Int → Option R) (k0_ : Int → Option R) (k1_ : Int → Bool → Option R) : z3z sn t7 b0 t8 (fun t8' => o (kn_ t8')) (fun c0_ => o (k0_ c0_)) (fun c0_ c1_ => o (k1_ c0_ c1_)) = o (z3z sn t7 b0 t8 kn_ k0_ k1_) := by
  unfold z3z
  repeat (first | refine grd_out h0 ?_ | refine br_out ?_ ?_ | rfl | exact h0.symm)
noncomputable def z1z (sn : Nat) (t7 : Int) (b0 : List Nat) : Nat → Int → Option ((Int) ⊕ (Int × Bool))
  | 0, _ => none
  | n + 1, t8 => z3z sn t7 b0  t8  (fun t8' => z1z sn t7 b0 n t8') (fun c0_ => some (Sum.inl c0_)) (fun c0_ c1_ => some (Sum.inr (c0_, c1_)))
theorem z96 (sn : Nat) (t7 : Int) (b0 : List Nat) (n : Nat) (t8 : Int) : z1z sn t7 b0 (n + 1) t8 = z3z sn t7 b0  t8  (fun t8' => z1z sn t7 b0 n t8') (fun c0_ => some (Sum.inl c0_)) (fun c0_ c1_ => some (Sum.inr (c0_, c1_))) := rfl
noncomputable def z4s (sn : Nat) (t7 : Int) (b0 : List Nat) (t8 : Int) : Bool := (z1z sn t7 b0 big t8).isSome
noncomputable def z4r (sn : Nat) (t7 : Int) (b0 : List Nat) (t8 : Int) : Bool := oL (z1z sn t7 b0 big t8)
noncomputable def z5o (sn : Nat) (t7 : Int) (b0 : List Nat) (t8 : Int) : Int := ((tL (z1z sn t7 b0 big t8)).getD default)
noncomputable def z7m (sn : Nat) (t7 : Int) (b0 : List Nat) (t8 : Int) : Int := ((tR (z1z sn t7 b0 big t8)).getD default).1
noncomputable def z7i (sn : Nat) (t7 : Int) (b0 : List Nat) (t8 : Int) : Bool := ((tR (z1z sn t7 b0 big t8)).getD default).2
theorem zfv {sn : Nat} {t7 : Int} {b0 : List Nat} {t8 : Int} {m : Nat} {r : Int} (hm : m = big) (h : z1z sn t7 b0 m t8 = some (Sum.inl r)) : z4s sn t7 b0 t8 = true ∧ z4r sn t7 b0 t8 = true ∧ z5o sn t7 b0 t8 = r := by
  subst hm
  unfold z4s z4r z5o
  rw [h]
  exact ⟨rfl, rfl, rfl⟩
theorem zfr {sn : Nat} {t7 : Int} {b0 : List Nat} {t8 : Int} {m : Nat} {r : Int × Bool} (hm : m = big) (h : z1z sn t7 b0 m t8 = some (Sum.inr r)) : z4s sn t7 b0 t8 = true ∧ z4r sn t7 b0 t8 = false ∧ z7m sn t7 b0 t8 = r.1 ∧ z7i sn t7 b0 t8 = r.2 := by
  subst hm
  unfold z4s z4r z7m z7i
  rw [h]
  exact ⟨rfl, rfl, rfl, rfl⟩
noncomputable def z3t {R : Type} (sn : Nat) (t7 : Int) (b0 : List Nat) (t8 : Int) (kn_ : Int → Option R) (k0_ : Int → Option R) (k1_ : Int → Bool → Option R) : Option R := (br (ltI t8 t7) (grd (okIx t8 sn) (grd (zdc (gF b0 (ixO 0 t8 1))) (br (zcw (gF b0 (ixO 0 t8 1))) (k0_ t8) (kn_ (addI IntKind.i64 t8 1))))) (k1_ t8 (ltI t8 t7)))
theorem zdr {R R' : Type} (o : Option R → Option R') (h0 : o none = none) (sn : Nat) (t7 : Int) (b0 : List Nat) (t8 : Int) (kn_ : Int → Option R) (k0_ : Int → Option R) (k1_ : Int → Bool → Option R) : z3t sn t7 b0 t8 (fun t8' => o (kn_ t8')) (fun c0_ => o (k0_ c0_)) (fun c0_ c1_ => o (k1_ c0_ c1_)) = o (z3t sn t7 b0 t8 kn_ k0_ k1_) := by
  unfold z3t
  repeat (first | refine grd_out h0 ?_ | refine br_out ?_ ?_ | rfl | exact h0.symm)
noncomputable def z1u (sn : Nat) (t7 : Int) (b0 : List Nat) : Nat → Int → Option ((Int) ⊕ (Int × Bool))
  | 0, _ => none
  | n + 1, t8 => z3t sn t7 b0  t8  (fun t8' => z1u sn t7 b0 n t8') (fun c0_ => some (Sum.inl c0_)) (fun c0_ c1_ => some (Sum.inr (c0_, c1_)))
theorem z8z (sn : Nat) (t7 : Int) (b0 : List Nat) (n : Nat) (t8 : Int) : z1u sn t7 b0 (n + 1) t8 = z3t sn t7 b0  t8  (fun t8' => z1u sn t7 b0 n t8') (fun c0_ => some (Sum.inl c0_)) (fun c0_ c1_ => some (Sum.inr (c0_, c1_))) := rfl
noncomputable def z4p (sn : Nat) (t7 : Int) (b0 : List Nat) (t8 : Int) : Bool := (z1u sn t7 b0 big t8).isSome
noncomputable def z4l (sn : Nat) (t7 : Int) (b0 : List Nat) (t8 : Int) : Bool := oL (z1u sn t7 b0 big t8)
noncomputable def z5k (sn : Nat) (t7 : Int) (b0 : List Nat) (t8 : Int) : Int := ((tL (z1u sn t7 b0 big t8)).getD default)
noncomputable def z75 (sn : Nat) (t7 : Int) (b0 : List Nat) (t8 : Int) : Int := ((tR (z1u sn t7 b0 big t8)).getD default).1
noncomputable def z76 (sn : Nat) (t7 : Int) (b0 : List Nat) (t8 : Int) : Bool := ((tR (z1u sn t7 b0 big t8)).getD default).2
theorem zec {sn : Nat} {t7 : Int} {b0 : List Nat} {t8 : Int} {m : Nat} {r : Int} (hm : m = big) (h : z1u sn t7 b0 m t8 = some (Sum.inl r)) : z4p sn t7 b0 t8 = true ∧ z4l sn t7 b0 t8 = true ∧ z5k sn t7 b0 t8 = r := by
  subst hm
  unfold z4p z4l z5k
  rw [h]
  exact ⟨rfl, rfl, rfl⟩
theorem zeb {sn : Nat} {t7 : Int} {b0 : List Nat} {t8 : Int} {m : Nat} {r : Int × Bool} (hm : m = big) (h : z1u sn t7 b0 m t8 = some (Sum.inr r)) : z4p sn t7 b0 t8 = true ∧ z4l sn t7 b0 t8 = false ∧ z75 sn t7 b0 t8 = r.1 ∧ z76 sn t7 b0 t8 = r.2 := by
  subst hm
  unfold z4p z4l z75 z76
  rw [h]
  exact ⟨rfl, rfl, rfl, rfl⟩
noncomputable def zcj {R : Type} (q0d : Nat) (q0t : List Nat) (q0h : Nat) (q0x : List Nat) (q0j : Nat) (q10 : List Nat) (q2c : Nat) (q2q : List Nat) (q2j : Nat) (q2x : List Nat) (q2k : Nat) (q2z : List Nat) (k_ : Bool → Option R) : Option R := (grd (zc0 q0d (pF q0t 0 (muN q0d 1)) q2c (pF q2q 0 (muN q2c 1))) (br (bnot (za8 q0d (pF q0t 0 (muN q0d 1)) q2c (pF q2q 0 (muN q2c 1)))) (k_ Bool.false) (grd (zc0 q0h (pF q0x 0 (muN q0h 1)) q2j (pF q2x 0 (muN q2j 1))) (br (bnot (za8 q0h (pF q0x 0 (muN q0h 1)) q2j (pF q2x 0 (muN q2j 1)))) (k_ Bool.false) (grd (zc0 q0j (pF q10 0 (muN q0j 1)) q2k (pF q2z 0 (muN q2k 1))) (br (bnot (za8 q0j (pF q10 0 (muN q0j 1)) q2k (pF q2z 0 (muN q2k 1)))) (k_ Bool.false) (k_ Bool.true)))))))
noncomputable def zc9 (q0d : Nat) (q0t : List Nat) (q0h : Nat) (q0x : List Nat) (q0j : Nat) (q10 : List Nat) (q2c : Nat) (q2q : List Nat) (q2j : Nat) (q2x : List Nat) (q2k : Nat) (q2z : List Nat) : Option (Bool) := zcj q0d q0t q0h q0x q0j q10 q2c q2q q2j q2x q2k q2z (fun c0_ => some c0_)
theorem zmf {R R' : Type} (o : Option R → Option R') (h0 : o none = none) (q0d : Nat) (q0t : List Nat) (q0h : Nat) (q0x : List Nat) (q0j : Nat) (q10 : List Nat) (q2c : Nat) (q2q : List Nat) (q2j : Nat) (q2x : List Nat) (q2k : Nat) (q2z : List Nat) (k_ : Bool → Option R) : zcj q0d q0t q0h q0x q0j q10 q2c q2q q2j q2x q2k q2z (fun c0_ => o (k_ c0_)) = o (zcj q0d q0t q0h q0x q0j q10 q2c q2q q2j q2x q2k q2z k_) := by
  unfold zcj
  repeat (first | refine grd_out h0 ?_ | refine br_out ?_ ?_ | rfl | exact h0.symm)
noncomputable def zc7 (q0d : Nat) (q0t : List Nat) (q0h : Nat) (q0x : List Nat) (q0j : Nat) (q10 : List Nat) (q2c : Nat) (q2q : List Nat) (q2j : Nat) (q2x : List Nat) (q2k : Nat) (q2z : List Nat) : Bool := (zc9 q0d q0t q0h q0x q0j q10 q2c q2q q2j q2x q2k q2z).isSome
noncomputable def zbm (q0d : Nat) (q0t : List Nat) (q0h : Nat) (q0x : List Nat) (q0j : Nat) (q10 : List Nat) (q2c : Nat) (q2q : List Nat) (q2j : Nat) (q2x : List Nat) (q2k : Nat) (q2z : List Nat) : Bool := ((zc9 q0d q0t q0h q0x q0j q10 q2c q2q q2j q2x q2k q2z).getD default)
theorem zk3 {q0d : Nat} {q0t : List Nat} {q0h : Nat} {q0x : List Nat} {q0j : Nat} {q10 : List Nat} {q2c : Nat} {q2q : List Nat} {q2j : Nat} {q2x : List Nat} {q2k : Nat} {q2z : List Nat} {r : Bool} (h : zc9 q0d q0t q0h q0x q0j q10 q2c q2q q2j q2x q2k q2z = some r) : zc7 q0d q0t q0h q0x q0j q10 q2c q2q q2j q2x q2k q2z = true ∧ zbm q0d q0t q0h q0x q0j q10 q2c q2q q2j q2x q2k q2z = r := by
  unfold zc7 zbm
  rw [h]
  exact ⟨rfl, rfl⟩
noncomputable def zce {R : Type} (q0p : Nat) (q0z : List Nat) (q0u : Nat) (q12 : List Nat) (q0v : Nat) (q13 : List Nat) (q17 : Nat) (q1h : List Nat) (q1u : Int) (q2i : Nat) (q2h : Nat) (k : Int) (k_ : Int → Option R) : Option R := (grd (zff q0p (pF q0z 0 (muN q0p 1)) q0u (pF q12 0 (muN q0u 1)) q0v (pF q13 0 (muN q0v 1)) k) (br (ltI (z8l q0p (pF q0z 0 (muN q0p 1)) q0u (pF q12 0 (muN q0u 1)) q0v (pF q13 0 (muN q0v 1)) k) 0) (k_ (Int.negSucc 0)) (grd (ze1 q17 (pF q1h 0 (muN q17 3)) (z8l q0p (pF q0z 0 (muN q0p 1)) q0u (pF q12 0 (muN q0u 1)) q0v (pF q13 0 (muN q0v 1)) k)) (br (ltI (zbi q17 (pF q1h 0 (muN q17 3)) (z8l q0p (pF q0z 0 (muN q0p 1)) q0u (pF q12 0 (muN q0u 1)) q0v (pF q13 0 (muN q0v 1)) k)) 0) (k_ (Int.negSucc 0)) (k_ (zbi q17 (pF q1h 0 (muN q17 3)) (z8l q0p (pF q0z 0 (muN q0p 1)) q0u (pF q12 0 (muN q0u 1)) q0v (pF q13 0 (muN q0v 1)) k)))))))
noncomputable def zc8 (q0p : Nat) (q0z : List Nat) (q0u : Nat) (q12 : List Nat) (q0v : Nat) (q13 : List Nat) (q17 : Nat) (q1h : List Nat) (q1u : Int) (q2i : Nat) (q2h : Nat) (k : Int) : Option (Int) := zce q0p q0z q0u q12 q0v q13 q17 q1h q1u q2i q2h k (fun c0_ => some c0_)
theorem zmj {R R' : Type} (o : Option R → Option R') (h0 : o none = none) (q0p : Nat) (q0z : List Nat) (q0u : Nat) (q12 : List Nat) (q0v : Nat) (q13 : List Nat) (q17 : Nat) (q1h : List Nat) (q1u : Int) (q2i : Nat) (q2h : Nat) (k : Int) (k_ : Int → Option R) : zce q0p q0z q0u q12 q0v q13 q17 q1h q1u q2i q2h k (fun c0_ => o (k_ c0_)) = o (zce q0p q0z q0u q12 q0v q13 q17 q1h q1u q2i q2h k k_) := by
  unfold zce
  repeat (first | refine grd_out h0 ?_ | refine br_out ?_ ?_ | rfl | exact h0.symm)
noncomputable def zij (q0p : Nat) (q0z : List Nat) (q0u : Nat) (q12 : List Nat) (q0v : Nat) (q13 : List Nat) (q17 : Nat) (q1h : List Nat) (q1u : Int) (q2i : Nat) (q2h : Nat) (k : Int) : Bool := (zc8 q0p q0z q0u q12 q0v q13 q17 q1h q1u q2i q2h k).isSome
noncomputable def zgl (q0p : Nat) (q0z : List Nat) (q0u : Nat) (q12 : List Nat) (q0v : Nat) (q13 : List Nat) (q17 : Nat) (q1h : List Nat) (q1u : Int) (q2i : Nat) (q2h : Nat) (k : Int) : Int := ((zc8 q0p q0z q0u q12 q0v q13 q17 q1h q1u q2i q2h k).getD default)
theorem zo4 {q0p : Nat} {q0z : List Nat} {q0u : Nat} {q12 : List Nat} {q0v : Nat} {q13 : List Nat} {q17 : Nat} {q1h : List Nat} {q1u : Int} {q2i : Nat} {q2h : Nat} {k : Int} {r : Int} (h : zc8 q0p q0z q0u q12 q0v q13 q17 q1h q1u q2i q2h k = some r) : zij q0p q0z q0u q12 q0v q13 q17 q1h q1u q2i q2h k = true ∧ zgl q0p q0z q0u q12 q0v q13 q17 q1h q1u q2i q2h k = r := by
  unfold zij zgl
  rw [h]
  exact ⟨rfl, rfl⟩
noncomputable def zhe {R : Type} (q00 : Nat) (q03 : List Nat) (q02 : Nat) (q04 : List Nat) (q01 : Nat) (q05 : List Nat) (k_ : Bool → Option R) : Option R := (br (ltI (Int.ofNat q00) 2) (k_ Bool.false) (br (ltI 24 (Int.ofNat q00)) (k_ Bool.false) (br (neI (Int.ofNat q02) (Int.ofNat q00)) (k_ Bool.false) (br (neI (Int.ofNat q01) (Int.ofNat q00)) (k_ Bool.false) (grd (z9f (Int.ofNat q00) q03 q04 q05 q00 q02 q01 0) (br (z91 (Int.ofNat q00) q03 q04 q05 q00 q02 q01 0) (k_ Bool.false) (k_ Bool.true)))))))
noncomputable def zhm (q00 : Nat) (q03 : List Nat) (q02 : Nat) (q04 : List Nat) (q01 : Nat) (q05 : List Nat) : Option (Bool) := zhe q00 q03 q02 q04 q01 q05 (fun c0_ => some c0_)
theorem zp1 {R R' : Type} (o : Option R → Option R') (h0 : o none = none) (q00 : Nat) (q03 : List Nat) (q02 : Nat) (q04 : List Nat) (q01 : Nat) (q05 : List Nat) (k_ : Bool → Option R) : zhe q00 q03 q02 q04 q01 q05 (fun c0_ => o (k_ c0_)) = o (zhe q00 q03 q02 q04 q01 q05 k_) := by
  unfold zhe
  repeat (first | refine grd_out h0 ?_ | refine br_out ?_ ?_ | rfl | exact h0.symm)
noncomputable def zj0 (q00 : Nat) (q03 : List Nat) (q02 : Nat) (q04 : List Nat) (q01 : Nat) (q05 : List Nat) : Bool := (zhm q00 q03 q02 q04 q01 q05).isSome
noncomputable def zio (q00 : Nat) (q03 : List Nat) (q02 : Nat) (q04 : List Nat) (q01 : Nat) (q05 : List Nat) : Bool := ((zhm q00 q03 q02 q04 q01 q05).getD default)
theorem zn3 {q00 : Nat} {q03 : List Nat} {q02 : Nat} {q04 : List Nat} {q01 : Nat} {q05 : List Nat} {r : Bool} (h : zhm q00 q03 q02 q04 q01 q05 = some r) : zj0 q00 q03 q02 q04 q01 q05 = true ∧ zio q00 q03 q02 q04 q01 q05 = r := by
  unfold zj0 zio
  rw [h]
  exact ⟨rfl, rfl⟩
noncomputable def zbs {R : Type} (a_n : Nat) (a : List Nat) (b_n : Nat) (b : List Nat) (k_ : Bool → Option R) : Option R := (br (neI (Int.ofNat a_n) (Int.ofNat b_n)) (k_ Bool.false) (grd (zbh a_n b_n a b 0) (br (za6 a_n b_n a b 0) (k_ Bool.false) (k_ Bool.true))))
noncomputable def zbl (a_n : Nat) (a : List Nat) (b_n : Nat) (b : List Nat) : Option (Bool) := zbs a_n a b_n b (fun c0_ => some c0_)
theorem zm1 {R R' : Type} (o : Option R → Option R') (h0 : o none = none) (a_n : Nat) (a : List Nat) (b_n : Nat) (b : List Nat) (k_ : Bool → Option R) : zbs a_n a b_n b (fun c0_ => o (k_ c0_)) = o (zbs a_n a b_n b k_) := by
  unfold zbs
  repeat (first | refine grd_out h0 ?_ | refine br_out ?_ ?_ | rfl | exact h0.symm)
noncomputable def zgu (a_n : Nat) (a : List Nat) (b_n : Nat) (b : List Nat) : Bool := (zbl a_n a b_n b).isSome
noncomputable def zf7 (a_n : Nat) (a : List Nat) (b_n : Nat) (b : List Nat) : Bool := ((zbl a_n a b_n b).getD default)
theorem znt {a_n : Nat} {a : List Nat} {b_n : Nat} {b : List Nat} {r : Bool} (h : zbl a_n a b_n b = some r) : zgu a_n a b_n b = true ∧ zf7 a_n a b_n b = r := by
  unfold zgu zf7
  rw [h]
  exact ⟨rfl, rfl⟩
noncomputable def z58 {R : Type} (s_n : Nat) (s : List Nat) (k_ : Int → Option R) : Option R := (grd (z4s s_n (Int.ofNat s_n) s 0) (br (z4r s_n (Int.ofNat s_n) s 0) (k_ (z5o s_n (Int.ofNat s_n) s 0)) (k_ (Int.negSucc 0))))
noncomputable def z59 (s_n : Nat) (s : List Nat) : Option (Int) := z58 s_n s (fun c0_ => some c0_)
theorem zg3 {R R' : Type} (o : Option R → Option R') (h0 : o none = none) (s_n : Nat) (s : List Nat) (k_ : Int → Option R) : z58 s_n s (fun c0_ => o (k_ c0_)) = o (z58 s_n s k_) := by
  unfold z58
  repeat (first | refine grd_out h0 ?_ | refine br_out ?_ ?_ | rfl | exact h0.symm)
noncomputable def z6z (s_n : Nat) (s : List Nat) : Bool := (z59 s_n s).isSome
noncomputable def z6u (s_n : Nat) (s : List Nat) : Int := ((z59 s_n s).getD default)
theorem zi7 {s_n : Nat} {s : List Nat} {r : Int} (h : z59 s_n s = some r) : z6z s_n s = true ∧ z6u s_n s = r := by
  unfold z6z z6u
  rw [h]
  exact ⟨rfl, rfl⟩
noncomputable def z4z {R : Type} (s_n : Nat) (s : List Nat) (k_ : Int → Option R) : Option R := (grd (z4p s_n (Int.ofNat s_n) s 0) (br (z4l s_n (Int.ofNat s_n) s 0) (k_ (z5k s_n (Int.ofNat s_n) s 0)) (k_ (Int.negSucc 0))))
noncomputable def z51 (s_n : Nat) (s : List Nat) : Option (Int) := z4z s_n s (fun c0_ => some c0_)
theorem zez {R R' : Type} (o : Option R → Option R') (h0 : o none = none) (s_n : Nat) (s : List Nat) (k_ : Int → Option R) : z4z s_n s (fun c0_ => o (k_ c0_)) = o (z4z s_n s k_) := by
  unfold z4z
  repeat (first | refine grd_out h0 ?_ | refine br_out ?_ ?_ | rfl | exact h0.symm)
noncomputable def z6l (s_n : Nat) (s : List Nat) : Bool := (z51 s_n s).isSome
noncomputable def z68 (s_n : Nat) (s : List Nat) : Int := ((z51 s_n s).getD default)
theorem zh9 {s_n : Nat} {s : List Nat} {r : Int} (h : z51 s_n s = some r) : z6l s_n s = true ∧ z68 s_n s = r := by
  unfold z6l z68
  rw [h]
  exact ⟨rfl, rfl⟩
noncomputable def z40 {R : Type} (sn : Nat) (t7 : Int) (b0 : List Nat) (t8 : Int) (kn_ : Int → Option R) (k0_ : Int → Option R) (k1_ : Int → Bool → Option R) : Option R := (br (ltI t8 t7) (grd (okIx t8 sn) (grd (zgi (gF b0 (ixO 0 t8 1))) (br (zf6 (gF b0 (ixO 0 t8 1))) (k0_ t8) (kn_ (addI IntKind.i64 t8 1))))) (k1_ t8 (ltI t8 t7)))
theorem zfa {R R' : Type} (o : Option R → Option R') (h0 : o none = none) (sn : Nat) (t7 : Int) (b0 : List Nat) (t8 : Int) (kn_ : Int → Option R) (k0_ : Int → Option R) (k1_ : Int → Bool → Option R) : z40 sn t7 b0 t8 (fun t8' => o (kn_ t8')) (fun c0_ => o (k0_ c0_)) (fun c0_ c1_ => o (k1_ c0_ c1_)) = o (z40 sn t7 b0 t8 kn_ k0_ k1_) := by
  unfold z40
  repeat (first | refine grd_out h0 ?_ | refine br_out ?_ ?_ | rfl | exact h0.symm)
noncomputable def z27 (sn : Nat) (t7 : Int) (b0 : List Nat) : Nat → Int → Option ((Int) ⊕ (Int × Bool))
  | 0, _ => none
  | n + 1, t8 => z40 sn t7 b0  t8  (fun t8' => z27 sn t7 b0 n t8') (fun c0_ => some (Sum.inl c0_)) (fun c0_ c1_ => some (Sum.inr (c0_, c1_)))
theorem z9a (sn : Nat) (t7 : Int) (b0 : List Nat) (n : Nat) (t8 : Int) : z27 sn t7 b0 (n + 1) t8 = z40 sn t7 b0  t8  (fun t8' => z27 sn t7 b0 n t8') (fun c0_ => some (Sum.inl c0_)) (fun c0_ c1_ => some (Sum.inr (c0_, c1_))) := rfl
noncomputable def z53 (sn : Nat) (t7 : Int) (b0 : List Nat) (t8 : Int) : Bool := (z27 sn t7 b0 big t8).isSome
noncomputable def z4u (sn : Nat) (t7 : Int) (b0 : List Nat) (t8 : Int) : Bool := oL (z27 sn t7 b0 big t8)
noncomputable def z5w (sn : Nat) (t7 : Int) (b0 : List Nat) (t8 : Int) : Int := ((tL (z27 sn t7 b0 big t8)).getD default)
noncomputable def z7p (sn : Nat) (t7 : Int) (b0 : List Nat) (t8 : Int) : Int := ((tR (z27 sn t7 b0 big t8)).getD default).1
noncomputable def z7o (sn : Nat) (t7 : Int) (b0 : List Nat) (t8 : Int) : Bool := ((tR (z27 sn t7 b0 big t8)).getD default).2
theorem zfy {sn : Nat} {t7 : Int} {b0 : List Nat} {t8 : Int} {m : Nat} {r : Int} (hm : m = big) (h : z27 sn t7 b0 m t8 = some (Sum.inl r)) : z53 sn t7 b0 t8 = true ∧ z4u sn t7 b0 t8 = true ∧ z5w sn t7 b0 t8 = r := by
  subst hm
  unfold z53 z4u z5w
  rw [h]
  exact ⟨rfl, rfl, rfl⟩
theorem zfx {sn : Nat} {t7 : Int} {b0 : List Nat} {t8 : Int} {m : Nat} {r : Int × Bool} (hm : m = big) (h : z27 sn t7 b0 m t8 = some (Sum.inr r)) : z53 sn t7 b0 t8 = true ∧ z4u sn t7 b0 t8 = false ∧ z7p sn t7 b0 t8 = r.1 ∧ z7o sn t7 b0 t8 = r.2 := by
  subst hm
  unfold z53 z4u z7p z7o
  rw [h]
  exact ⟨rfl, rfl, rfl, rfl⟩
noncomputable def zdj {R : Type} (q0p : Nat) (q0z : List Nat) (q0u : Nat) (q12 : List Nat) (q0v : Nat) (q13 : List Nat) (q17 : Nat) (q1h : List Nat) (q1u : Int) (q2i : Nat) (q2h : Nat) (q1i : Nat) (q1n : List Nat) (q1l : Nat) (q1p : List Nat) (q1m : Nat) (q1o : List Nat) (q1v : Nat) (q2d : List Nat) (q31 : Int) (q37 : Nat) (q36 : Nat) (k_ : Bool → Option R) : Option R := (grd (zc7 q0p (pF q0z 0 (muN q0p 1)) q0u (pF q12 0 (muN q0u 1)) q0v (pF q13 0 (muN q0v 1)) q1i (pF q1n 0 (muN q1i 1)) q1l (pF q1p 0 (muN q1l 1)) q1m (pF q1o 0 (muN q1m 1))) (br (bnot (zbm q0p (pF q0z 0 (muN q0p 1)) q0u (pF q12 0 (muN q0u 1)) q0v (pF q13 0 (muN q0v 1)) q1i (pF q1n 0 (muN q1i 1)) q1l (pF q1p 0 (muN q1l 1)) q1m (pF q1o 0 (muN q1m 1)))) (k_ Bool.false) (grd (zgu q17 (pF q1h 0 (muN q17 3)) q1v (pF q2d 0 (muN q1v 3))) (br (bnot (zf7 q17 (pF q1h 0 (muN q17 3)) q1v (pF q2d 0 (muN q1v 3)))) (k_ Bool.false) (br (neI q1u q31) (k_ Bool.false) (grd (z8h (fcvV FloatKind.f32 FloatKind.f64 q2i) (fcvV FloatKind.f32 FloatKind.f64 q37)) (br (bnot (z85 (fcvV FloatKind.f32 FloatKind.f64 q2i) (fcvV FloatKind.f32 FloatKind.f64 q37))) (k_ Bool.false) (grd (z8h (fcvV FloatKind.f32 FloatKind.f64 q2h) (fcvV FloatKind.f32 FloatKind.f64 q36)) (br (bnot (z85 (fcvV FloatKind.f32 FloatKind.f64 q2h) (fcvV FloatKind.f32 FloatKind.f64 q36))) (k_ Bool.false) (k_ Bool.true))))))))))
noncomputable def zdh (q0p : Nat) (q0z : List Nat) (q0u : Nat) (q12 : List Nat) (q0v : Nat) (q13 : List Nat) (q17 : Nat) (q1h : List Nat) (q1u : Int) (q2i : Nat) (q2h : Nat) (q1i : Nat) (q1n : List Nat) (q1l : Nat) (q1p : List Nat) (q1m : Nat) (q1o : List Nat) (q1v : Nat) (q2d : List Nat) (q31 : Int) (q37 : Nat) (q36 : Nat) : Option (Bool) := zdj q0p q0z q0u q12 q0v q13 q17 q1h q1u q2i q2h q1i q1n q1l q1p q1m q1o q1v q2d q31 q37 q36 (fun c0_ => some c0_)
theorem znv {R R' : Type} (o : Option R → Option R') (h0 : o none = none) (q0p : Nat) (q0z : List Nat) (q0u : Nat) (q12 : List Nat) (q0v : Nat) (q13 : List Nat) (q17 : Nat) (q1h : List Nat) (q1u : Int) (q2i : Nat) (q2h : Nat) (q1i : Nat) (q1n : List Nat) (q1l : Nat) (q1p : List Nat) (q1m : Nat) (q1o : List Nat) (q1v : Nat) (q2d : List Nat) (q31 : Int) (q37 : Nat) (q36 : Nat) (k_ : Bool → Option R) : zdj q0p q0z q0u q12 q0v q13 q17 q1h q1u q2i q2h q1i q1n q1l q1p q1m q1o q1v q2d q31 q37 q36 (fun c0_ => o (k_ c0_)) = o (zdj q0p q0z q0u q12 q0v q13 q17 q1h q1u q2i q2h q1i q1n q1l q1p q1m q1o q1v q2d q31 q37 q36 k_) := by
  unfold zdj
  repeat (first | refine grd_out h0 ?_ | refine br_out ?_ ?_ | rfl | exact h0.symm)
noncomputable def zjd (q0p : Nat) (q0z : List Nat) (q0u : Nat) (q12 : List Nat) (q0v : Nat) (q13 : List Nat) (q17 : Nat) (q1h : List Nat) (q1u : Int) (q2i : Nat) (q2h : Nat) (q1i : Nat) (q1n : List Nat) (q1l : Nat) (q1p : List Nat) (q1m : Nat) (q1o : List Nat) (q1v : Nat) (q2d : List Nat) (q31 : Int) (q37 : Nat) (q36 : Nat) : Bool := (zdh q0p q0z q0u q12 q0v q13 q17 q1h q1u q2i q2h q1i q1n q1l q1p q1m q1o q1v q2d q31 q37 q36).isSome
noncomputable def zis (q0p : Nat) (q0z : List Nat) (q0u : Nat) (q12 : List Nat) (q0v : Nat) (q13 : List Nat) (q17 : Nat) (q1h : List Nat) (q1u : Int) (q2i : Nat) (q2h : Nat) (q1i : Nat) (q1n : List Nat) (q1l : Nat) (q1p : List Nat) (q1m : Nat) (q1o : List Nat) (q1v : Nat) (q2d : List Nat) (q31 : Int) (q37 : Nat) (q36 : Nat) : Bool := ((zdh q0p q0z q0u q12 q0v q13 q17 q1h q1u q2i q2h q1i q1n q1l q1p q1m q1o q1v q2d q31 q37 q36).getD default)
theorem zpe {q0p : Nat} {q0z : List Nat} {q0u : Nat} {q12 : List Nat} {q0v : Nat} {q13 : List Nat} {q17 : Nat} {q1h : List Nat} {q1u : Int} {q2i : Nat} {q2h : Nat} {q1i : Nat} {q1n : List Nat} {q1l : Nat} {q1p : List Nat} {q1m : Nat} {q1o : List Nat} {q1v : Nat} {q2d : List Nat} {q31 : Int} {q37 : Nat} {q36 : Nat} {r : Bool} (h : zdh q0p q0z q0u q12 q0v q13 q17 q1h q1u q2i q2h q1i q1n q1l q1p q1m q1o q1v q2d q31 q37 q36 = some r) : zjd q0p q0z q0u q12 q0v q13 q17 q1h q1u q2i q2h q1i q1n q1l q1p q1m q1o q1v q2d q31 q37 q36 = true ∧ zis q0p q0z q0u q12 q0v q13 q17 q1h q1u q2i q2h q1i q1n q1l q1p q1m q1o q1v q2d q31 q37 q36 = r := by
  unfold zjd zis
  rw [h]
  exact ⟨rfl, rfl⟩
noncomputable def z5c {R : Type} (s_n : Nat) (s : List Nat) (k_ : Int → Option R) : Option R := (grd (z53 s_n (Int.ofNat s_n) s 0) (br (z4u s_n (Int.ofNat s_n) s 0) (k_ (z5w s_n (Int.ofNat s_n) s 0)) (k_ (Int.negSucc 0))))
noncomputable def z5b (s_n : Nat) (s : List Nat) : Option (Int) := z5c s_n s (fun c0_ => some c0_)
theorem zhh {R R' : Type} (o : Option R → Option R') (h0 : o none = none) (s_n : Nat) (s : List Nat) (k_ : Int → Option R) : z5c s_n s (fun c0_ => o (k_ c0_)) = o (z5c s_n s k_) := by
  unfold z5c
  repeat (first | refine grd_out h0 ?_ | refine br_out ?_ ?_ | rfl | exact h0.symm)
noncomputable def z74 (s_n : Nat) (s : List Nat) : Bool := (z5b s_n s).isSome
noncomputable def z6y (s_n : Nat) (s : List Nat) : Int := ((z5b s_n s).getD default)
theorem zil {s_n : Nat} {s : List Nat} {r : Int} (h : z5b s_n s = some r) : z74 s_n s = true ∧ z6y s_n s = r := by
  unfold z74 z6y
  rw [h]
  exact ⟨rfl, rfl⟩
noncomputable def z4v {R : Type} (s_n : Nat) (s : List Nat) (k_ : Bool → Option R) : Option R := (grd (z6z s_n (pF s 0 (muN s_n 1))) (k_ (leI 0 (z6u s_n (pF s 0 (muN s_n 1))))))
noncomputable def z4t (s_n : Nat) (s : List Nat) : Option (Bool) := z4v s_n s (fun c0_ => some c0_)
theorem zej {R R' : Type} (o : Option R → Option R') (h0 : o none = none) (s_n : Nat) (s : List Nat) (k_ : Bool → Option R) : z4v s_n s (fun c0_ => o (k_ c0_)) = o (z4v s_n s k_) := by
  unfold z4v
  repeat (first | refine grd_out h0 ?_ | refine br_out ?_ ?_ | rfl | exact h0.symm)
noncomputable def z6i (s_n : Nat) (s : List Nat) : Bool := (z4t s_n s).isSome
noncomputable def z63 (s_n : Nat) (s : List Nat) : Bool := ((z4t s_n s).getD default)
theorem zg6 {s_n : Nat} {s : List Nat} {r : Bool} (h : z4t s_n s = some r) : z6i s_n s = true ∧ z63 s_n s = r := by
  unfold z6i z63
  rw [h]
  exact ⟨rfl, rfl⟩
noncomputable def z52 {R : Type} (s_n : Nat) (s : List Nat) (k_ : Bool → Option R) : Option R := (grd (z74 s_n (pF s 0 (muN s_n 1))) (k_ (leI 0 (z6y s_n (pF s 0 (muN s_n 1))))))
noncomputable def z50 (s_n : Nat) (s : List Nat) : Option (Bool) := z52 s_n s (fun c0_ => some c0_)
theorem zf2 {R R' : Type} (o : Option R → Option R') (h0 : o none = none) (s_n : Nat) (s : List Nat) (k_ : Bool → Option R) : z52 s_n s (fun c0_ => o (k_ c0_)) = o (z52 s_n s k_) := by
  unfold z52
  repeat (first | refine grd_out h0 ?_ | refine br_out ?_ ?_ | rfl | exact h0.symm)
noncomputable def z6k (s_n : Nat) (s : List Nat) : Bool := (z50 s_n s).isSome
noncomputable def z67 (s_n : Nat) (s : List Nat) : Bool := ((z50 s_n s).getD default)
theorem zhl {s_n : Nat} {s : List Nat} {r : Bool} (h : z50 s_n s = some r) : z6k s_n s = true ∧ z67 s_n s = r := by
  unfold z6k z67
  rw [h]
  exact ⟨rfl, rfl⟩
noncomputable def z4n {R : Type} (s_n : Nat) (s : List Nat) (k_ : Bool → Option R) : Option R := (grd (z6l s_n (pF s 0 (muN s_n 1))) (k_ (leI 0 (z68 s_n (pF s 0 (muN s_n 1))))))
noncomputable def z4o (s_n : Nat) (s : List Nat) : Option (Bool) := z4n s_n s (fun c0_ => some c0_)
theorem zdt {R R' : Type} (o : Option R → Option R') (h0 : o none = none) (s_n : Nat) (s : List Nat) (k_ : Bool → Option R) : z4n s_n s (fun c0_ => o (k_ c0_)) = o (z4n s_n s k_) := by
  unfold z4n
  repeat (first | refine grd_out h0 ?_ | refine br_out ?_ ?_ | rfl | exact h0.symm)
noncomputable def z5x (s_n : Nat) (s : List Nat) : Bool := (z4o s_n s).isSome
noncomputable def z5t (s_n : Nat) (s : List Nat) : Bool := ((z4o s_n s).getD default)
theorem zf5 {s_n : Nat} {s : List Nat} {r : Bool} (h : z4o s_n s = some r) : z5x s_n s = true ∧ z5t s_n s = r := by
  unfold z5x z5t
  rw [h]
  exact ⟨rfl, rfl⟩
noncomputable def z8v {R : Type} (t57 : Int) (b3 : List Nat) (q0w : Nat) (q0y : Nat) (t4 : Nat) (t58 : Int) (kn_ : Nat → Int → Option R) (k0_ : Unit → Option R) (k1_ : Nat → Int → Bool → Option R) : Option R := (br (ltI t58 t57) (grd (okIx t58 q0w) (br (bnot (fcmp BinOp.gtr FloatKind.f32 (gF b3 (ixO 0 t58 3)) t4)) (k0_ ()) (br (bnot (fcmp BinOp.lss FloatKind.f32 (gF b3 (ixO 0 t58 3)) q0y)) (k0_ ()) (grd (ziv (gF b3 (Nat.succ (ixO 0 t58 3)))) (br (bnot (zia (gF b3 (Nat.succ (ixO 0 t58 3))))) (k0_ ()) (grd (z71 (gF b3 (Nat.succ (Nat.succ (ixO 0 t58 3))))) (br (bnot (z6m (gF b3 (Nat.succ (Nat.succ (ixO 0 t58 3)))))) (k0_ ()) (kn_ (gF b3 (ixO 0 t58 3)) (addI IntKind.i64 t58 1))))))))) (k1_ t4 t58 (ltI t58 t57)))
theorem zno {R R' : Type} (o : Option R → Option R') (h0 : o none = none) (t57 : Int) (b3 : List Nat) (q0w : Nat) (q0y : Nat) (t4 : Nat) (t58 : Int) (kn_ : Nat → Int → Option R) (k0_ : Unit → Option R) (k1_ : Nat → Int → Bool → Option R) : z8v t57 b3 q0w q0y t4 t58 (fun t4' t58' => o (kn_ t4' t58')) (fun _ => o (k0_ ())) (fun c0_ c1_ c2_ => o (k1_ c0_ c1_ c2_)) = o (z8v t57 b3 q0w q0y t4 t58 kn_ k0_ k1_) := by
  unfold z8v
  repeat (first | refine grd_out h0 ?_ | refine br_out ?_ ?_ | rfl | exact h0.symm)
noncomputable def z5a (t57 : Int) (b3 : List Nat) (q0w : Nat) (q0y : Nat) : Nat → Nat → Int → Option ((Unit) ⊕ (Nat × Int × Bool))
  | 0, _, _ => none
  | n + 1, t4, t58 => z8v t57 b3 q0w q0y  t4 t58  (fun t4' t58' => z5a t57 b3 q0w q0y n t4' t58') (fun _ => some (Sum.inl ())) (fun c0_ c1_ c2_ => some (Sum.inr (c0_, c1_, c2_)))
theorem zjn (t57 : Int) (b3 : List Nat) (q0w : Nat) (q0y : Nat) (n : Nat) (t4 : Nat) (t58 : Int) : z5a t57 b3 q0w q0y (n + 1) t4 t58 = z8v t57 b3 q0w q0y  t4 t58  (fun t4' t58' => z5a t57 b3 q0w q0y n t4' t58') (fun _ => some (Sum.inl ())) (fun c0_ c1_ c2_ => some (Sum.inr (c0_, c1_, c2_))) := rfl
noncomputable def zbg (t57 : Int) (b3 : List Nat) (q0w : Nat) (q0y : Nat) (t4 : Nat) (t58 : Int) : Bool := (z5a t57 b3 q0w q0y big t4 t58).isSome
noncomputable def za3 (t57 : Int) (b3 : List Nat) (q0w : Nat) (q0y : Nat) (t4 : Nat) (t58 : Int) : Bool := oL (z5a t57 b3 q0w q0y big t4 t58)
noncomputable def zjc (t57 : Int) (b3 : List Nat) (q0w : Nat) (q0y : Nat) (t4 : Nat) (t58 : Int) : Nat := ((tR (z5a t57 b3 q0w q0y big t4 t58)).getD default).1
noncomputable def zj5 (t57 : Int) (b3 : List Nat) (q0w : Nat) (q0y : Nat) (t4 : Nat) (t58 : Int) : Int := ((tR (z5a t57 b3 q0w q0y big t4 t58)).getD default).2.1
noncomputable def zj9 (t57 : Int) (b3 : List Nat) (q0w : Nat) (q0y : Nat) (t4 : Nat) (t58 : Int) : Bool := ((tR (z5a t57 b3 q0w q0y big t4 t58)).getD default).2.2
theorem zod {t57 : Int} {b3 : List Nat} {q0w : Nat} {q0y : Nat} {t4 : Nat} {t58 : Int} {m : Nat} {r : Unit} (hm : m = big) (h : z5a t57 b3 q0w q0y m t4 t58 = some (Sum.inl r)) : zbg t57 b3 q0w q0y t4 t58 = true ∧ za3 t57 b3 q0w q0y t4 t58 = true := by
  subst hm
  unfold zbg za3
  rw [h]
  exact ⟨rfl, rfl⟩
theorem zoi {t57 : Int} {b3 : List Nat} {q0w : Nat} {q0y : Nat} {t4 : Nat} {t58 : Int} {m : Nat} {r : Nat × Int × Bool} (hm : m = big) (h : z5a t57 b3 q0w q0y m t4 t58 = some (Sum.inr r)) : zbg t57 b3 q0w q0y t4 t58 = true ∧ za3 t57 b3 q0w q0y t4 t58 = false ∧ zjc t57 b3 q0w q0y t4 t58 = r.1 ∧ zj5 t57 b3 q0w q0y t4 t58 = r.2.1 ∧ zj9 t57 b3 q0w q0y t4 t58 = r.2.2 := by
  subst hm
  unfold zbg za3 zjc zj5 zj9
  rw [h]
  exact ⟨rfl, rfl, rfl, rfl, rfl⟩
noncomputable def zhs {R : Type} (q0e : Nat) (q0m : List Nat) (q0g : Nat) (q0o : List Nat) (q0f : Nat) (q0n : List Nat) (q0s : Nat) (q11 : List Nat) (q18 : Int) (q1a : Nat) (q1b : Nat) (k_ : Bool → Option R) : Option R := (grd (zj0 q0e (pF q0m 0 (muN q0e 1)) q0g (pF q0o 0 (muN q0g 1)) q0f (pF q0n 0 (muN q0f 1))) (br (bnot (zio q0e (pF q0m 0 (muN q0e 1)) q0g (pF q0o 0 (muN q0g 1)) q0f (pF q0n 0 (muN q0f 1)))) (k_ Bool.false) (br (ltI (Int.ofNat q0s) 2) (k_ Bool.false) (br (ltI 12 (Int.ofNat q0s)) (k_ Bool.false) (grd (zj1 q18 1 6) (br (bnot (zik q18 1 6)) (k_ Bool.false) (grd (z9e q1a) (br (bnot (z92 q1a)) (k_ Bool.false) (grd (z71 q1b) (br (bnot (z6m q1b)) (k_ Bool.false) (grd (zbg (Int.ofNat q0s) q11 q0s q1b q1a 0) (br (za3 (Int.ofNat q0s) q11 q0s q1b q1a 0) (k_ Bool.false) (k_ Bool.true)))))))))))))
noncomputable def zhn (q0e : Nat) (q0m : List Nat) (q0g : Nat) (q0o : List Nat) (q0f : Nat) (q0n : List Nat) (q0s : Nat) (q11 : List Nat) (q18 : Int) (q1a : Nat) (q1b : Nat) : Option (Bool) := zhs q0e q0m q0g q0o q0f q0n q0s q11 q18 q1a q1b (fun c0_ => some c0_)
theorem zoq {R R' : Type} (o : Option R → Option R') (h0 : o none = none) (q0e : Nat) (q0m : List Nat) (q0g : Nat) (q0o : List Nat) (q0f : Nat) (q0n : List Nat) (q0s : Nat) (q11 : List Nat) (q18 : Int) (q1a : Nat) (q1b : Nat) (k_ : Bool → Option R) : zhs q0e q0m q0g q0o q0f q0n q0s q11 q18 q1a q1b (fun c0_ => o (k_ c0_)) = o (zhs q0e q0m q0g q0o q0f q0n q0s q11 q18 q1a q1b k_) := by
  unfold zhs
  repeat (first | refine grd_out h0 ?_ | refine br_out ?_ ?_ | rfl | exact h0.symm)
noncomputable def zjq (q0e : Nat) (q0m : List Nat) (q0g : Nat) (q0o : List Nat) (q0f : Nat) (q0n : List Nat) (q0s : Nat) (q11 : List Nat) (q18 : Int) (q1a : Nat) (q1b : Nat) : Bool := (zhn q0e q0m q0g q0o q0f q0n q0s q11 q18 q1a q1b).isSome
noncomputable def zjk (q0e : Nat) (q0m : List Nat) (q0g : Nat) (q0o : List Nat) (q0f : Nat) (q0n : List Nat) (q0s : Nat) (q11 : List Nat) (q18 : Int) (q1a : Nat) (q1b : Nat) : Bool := ((zhn q0e q0m q0g q0o q0f q0n q0s q11 q18 q1a q1b).getD default)
theorem zpj {q0e : Nat} {q0m : List Nat} {q0g : Nat} {q0o : List Nat} {q0f : Nat} {q0n : List Nat} {q0s : Nat} {q11 : List Nat} {q18 : Int} {q1a : Nat} {q1b : Nat} {r : Bool} (h : zhn q0e q0m q0g q0o q0f q0n q0s q11 q18 q1a q1b = some r) : zjq q0e q0m q0g q0o q0f q0n q0s q11 q18 q1a q1b = true ∧ zjk q0e q0m q0g q0o q0f q0n q0s q11 q18 q1a q1b = r := by
  unfold zjq zjk
  rw [h]
  exact ⟨rfl, rfl⟩
noncomputable def zc6 {R : Type} (q1j : Nat) (q20 : List Nat) (k_ : Bool → Option R) : Option R := (grd (z6i q1j (pF q20 0 (muN q1j 1))) (k_ (bnot (z63 q1j (pF q20 0 (muN q1j 1))))))
noncomputable def zcg (q1j : Nat) (q20 : List Nat) : Option (Bool) := zc6 q1j q20 (fun c0_ => some c0_)
theorem zmw {R R' : Type} (o : Option R → Option R') (h0 : o none = none) (q1j : Nat) (q20 : List Nat) (k_ : Bool → Option R) : zc6 q1j q20 (fun c0_ => o (k_ c0_)) = o (zc6 q1j q20 k_) := by
  unfold zc6
  repeat (first | refine grd_out h0 ?_ | refine br_out ?_ ?_ | rfl | exact h0.symm)
noncomputable def zie (q1j : Nat) (q20 : List Nat) : Bool := (zcg q1j q20).isSome
noncomputable def zgo (q1j : Nat) (q20 : List Nat) : Bool := ((zcg q1j q20).getD default)
theorem zo9 {q1j : Nat} {q20 : List Nat} {r : Bool} (h : zcg q1j q20 = some r) : zie q1j q20 = true ∧ zgo q1j q20 = r := by
  unfold zie zgo
  rw [h]
  exact ⟨rfl, rfl⟩
noncomputable def zcq {R : Type} (q1j : Nat) (q20 : List Nat) (k_ : Bool → Option R) : Option R := (grd (z6k q1j (pF q20 0 (muN q1j 1))) (k_ (bnot (z67 q1j (pF q20 0 (muN q1j 1))))))
noncomputable def zcy (q1j : Nat) (q20 : List Nat) : Option (Bool) := zcq q1j q20 (fun c0_ => some c0_)
theorem znl {R R' : Type} (o : Option R → Option R') (h0 : o none = none) (q1j : Nat) (q20 : List Nat) (k_ : Bool → Option R) : zcq q1j q20 (fun c0_ => o (k_ c0_)) = o (zcq q1j q20 k_) := by
  unfold zcq
  repeat (first | refine grd_out h0 ?_ | refine br_out ?_ ?_ | rfl | exact h0.symm)
noncomputable def ziu (q1j : Nat) (q20 : List Nat) : Bool := (zcy q1j q20).isSome
noncomputable def zih (q1j : Nat) (q20 : List Nat) : Bool := ((zcy q1j q20).getD default)
theorem zp0 {q1j : Nat} {q20 : List Nat} {r : Bool} (h : zcy q1j q20 = some r) : ziu q1j q20 = true ∧ zih q1j q20 = r := by
  unfold ziu zih
  rw [h]
  exact ⟨rfl, rfl⟩
noncomputable def za9 {R : Type} (q1j : Nat) (q20 : List Nat) (k_ : Bool → Option R) : Option R := (grd (z5x q1j (pF q20 0 (muN q1j 1))) (k_ (bnot (z5t q1j (pF q20 0 (muN q1j 1))))))
noncomputable def z94 (q1j : Nat) (q20 : List Nat) : Option (Bool) := za9 q1j q20 (fun c0_ => some c0_)
theorem zle {R R' : Type} (o : Option R → Option R') (h0 : o none = none) (q1j : Nat) (q20 : List Nat) (k_ : Bool → Option R) : za9 q1j q20 (fun c0_ => o (k_ c0_)) = o (za9 q1j q20 k_) := by
  unfold za9
  repeat (first | refine grd_out h0 ?_ | refine br_out ?_ ?_ | rfl | exact h0.symm)
noncomputable def zco (q1j : Nat) (q20 : List Nat) : Bool := (z94 q1j q20).isSome
noncomputable def zc5 (q1j : Nat) (q20 : List Nat) : Bool := ((z94 q1j q20).getD default)
theorem zna {q1j : Nat} {q20 : List Nat} {r : Bool} (h : z94 q1j q20 = some r) : zco q1j q20 = true ∧ zc5 q1j q20 = r := by
  unfold zco zc5
  rw [h]
  exact ⟨rfl, rfl⟩
noncomputable def z5v {R : Type} (q2t : Nat) (t43 : Int) (b0 : List Nat) (q0i : Nat) (t44 : Int) (kn_ : Int → Option R) (k0_ : Unit → Option R) (k1_ : Int → Bool → Option R) : Option R := (br (ltI t44 t43) (grd (okIx t44 q2t) (grd (zir (gF b0 (ixO 0 t44 1)) 3204448256 1056964608) (br (bnot (zid (gF b0 (ixO 0 t44 1)) 3204448256 1056964608)) (k0_ ()) (br (ltI 0 t44) (grd (okIx (subI IntKind.i64 t44 1) q0i) (br (fcmp BinOp.geq FloatKind.f32 (gF b0 (ixO 0 (subI IntKind.i64 t44 1) 1)) (gF b0 (ixO 0 t44 1))) (k0_ ()) (kn_ (addI IntKind.i64 t44 1)))) (kn_ (addI IntKind.i64 t44 1)))))) (k1_ t44 (ltI t44 t43)))
theorem zk0 {R R' : Type} (o : Option R → Option R') (h0 : o none = none) (q2t : Nat) (t43 : Int) (b0 : List Nat) (q0i : Nat) (t44 : Int) (kn_ : Int → Option R) (k0_ : Unit → Option R) (k1_ : Int → Bool → Option R) : z5v q2t t43 b0 q0i t44 (fun t44' => o (kn_ t44')) (fun _ => o (k0_ ())) (fun c0_ c1_ => o (k1_ c0_ c1_)) = o (z5v q2t t43 b0 q0i t44 kn_ k0_ k1_) := by
  unfold z5v
  repeat (first | refine grd_out h0 ?_ | refine br_out ?_ ?_ | rfl | exact h0.symm)
noncomputable def z4q (q2t : Nat) (t43 : Int) (b0 : List Nat) (q0i : Nat) : Nat → Int → Option ((Unit) ⊕ (Int × Bool))
  | 0, _ => none
  | n + 1, t44 => z5v q2t t43 b0 q0i  t44  (fun t44' => z4q q2t t43 b0 q0i n t44') (fun _ => some (Sum.inl ())) (fun c0_ c1_ => some (Sum.inr (c0_, c1_)))
theorem zi2 (q2t : Nat) (t43 : Int) (b0 : List Nat) (q0i : Nat) (n : Nat) (t44 : Int) : z4q q2t t43 b0 q0i (n + 1) t44 = z5v q2t t43 b0 q0i  t44  (fun t44' => z4q q2t t43 b0 q0i n t44') (fun _ => some (Sum.inl ())) (fun c0_ c1_ => some (Sum.inr (c0_, c1_))) := rfl
noncomputable def z7n (q2t : Nat) (t43 : Int) (b0 : List Nat) (q0i : Nat) (t44 : Int) : Bool := (z4q q2t t43 b0 q0i big t44).isSome
noncomputable def z77 (q2t : Nat) (t43 : Int) (b0 : List Nat) (q0i : Nat) (t44 : Int) : Bool := oL (z4q q2t t43 b0 q0i big t44)
noncomputable def zde (q2t : Nat) (t43 : Int) (b0 : List Nat) (q0i : Nat) (t44 : Int) : Int := ((tR (z4q q2t t43 b0 q0i big t44)).getD default).1
noncomputable def zdf (q2t : Nat) (t43 : Int) (b0 : List Nat) (q0i : Nat) (t44 : Int) : Bool := ((tR (z4q q2t t43 b0 q0i big t44)).getD default).2
theorem zkm {q2t : Nat} {t43 : Int} {b0 : List Nat} {q0i : Nat} {t44 : Int} {m : Nat} {r : Unit} (hm : m = big) (h : z4q q2t t43 b0 q0i m t44 = some (Sum.inl r)) : z7n q2t t43 b0 q0i t44 = true ∧ z77 q2t t43 b0 q0i t44 = true := by
  subst hm
  unfold z7n z77
  rw [h]
  exact ⟨rfl, rfl⟩
theorem zkg {q2t : Nat} {t43 : Int} {b0 : List Nat} {q0i : Nat} {t44 : Int} {m : Nat} {r : Int × Bool} (hm : m = big) (h : z4q q2t t43 b0 q0i m t44 = some (Sum.inr r)) : z7n q2t t43 b0 q0i t44 = true ∧ z77 q2t t43 b0 q0i t44 = false ∧ zde q2t t43 b0 q0i t44 = r.1 ∧ zdf q2t t43 b0 q0i t44 = r.2 := by
  subst hm
  unfold z7n z77 zde zdf
  rw [h]
  exact ⟨rfl, rfl, rfl, rfl⟩
noncomputable def z9m {R : Type} (q00 : Nat) (q03 : List Nat) (q02 : Nat) (q04 : List Nat) (q01 : Nat) (q05 : List Nat) (k_ : Bool → Option R) : Option R := (br (ltI (Int.ofNat q00) 2) (k_ Bool.false) (br (ltI 24 (Int.ofNat q00)) (k_ Bool.false) (br (neI (Int.ofNat q02) (Int.ofNat q00)) (k_ Bool.false) (br (neI (Int.ofNat q01) (Int.ofNat q00)) (k_ Bool.false) (grd (zie q02 (pF q04 0 (muN q02 1))) (br (bnot (zgo q02 (pF q04 0 (muN q02 1)))) (k_ Bool.false) (grd (ziu q01 (pF q05 0 (muN q01 1))) (br (bnot (zih q01 (pF q05 0 (muN q01 1)))) (k_ Bool.false) (grd (z7n q00 (Int.ofNat q00) q03 q00 0) (br (z77 q00 (Int.ofNat q00) q03 q00 0) (k_ Bool.false) (k_ Bool.true)))))))))))
noncomputable def z9q (q00 : Nat) (q03 : List Nat) (q02 : Nat) (q04 : List Nat) (q01 : Nat) (q05 : List Nat) : Option (Bool) := z9m q00 q03 q02 q04 q01 q05 (fun c0_ => some c0_)
theorem zl6 {R R' : Type} (o : Option R → Option R') (h0 : o none = none) (q00 : Nat) (q03 : List Nat) (q02 : Nat) (q04 : List Nat) (q01 : Nat) (q05 : List Nat) (k_ : Bool → Option R) : z9m q00 q03 q02 q04 q01 q05 (fun c0_ => o (k_ c0_)) = o (z9m q00 q03 q02 q04 q01 q05 k_) := by
  unfold z9m
  repeat (first | refine grd_out h0 ?_ | refine br_out ?_ ?_ | rfl | exact h0.symm)
noncomputable def ze3 (q00 : Nat) (q03 : List Nat) (q02 : Nat) (q04 : List Nat) (q01 : Nat) (q05 : List Nat) : Bool := (z9q q00 q03 q02 q04 q01 q05).isSome
noncomputable def zd9 (q00 : Nat) (q03 : List Nat) (q02 : Nat) (q04 : List Nat) (q01 : Nat) (q05 : List Nat) : Bool := ((z9q q00 q03 q02 q04 q01 q05).getD default)
theorem zn2 {q00 : Nat} {q03 : List Nat} {q02 : Nat} {q04 : List Nat} {q01 : Nat} {q05 : List Nat} {r : Bool} (h : z9q q00 q03 q02 q04 q01 q05 = some r) : ze3 q00 q03 q02 q04 q01 q05 = true ∧ zd9 q00 q03 q02 q04 q01 q05 = r := by
  unfold ze3 zd9
  rw [h]
  exact ⟨rfl, rfl⟩
noncomputable def z72 {R : Type} (q0a : Int) (hub : Nat) (tip : Nat) (q0k : Nat) (q0l : Nat) (k : Int) (q1k : Nat) (b12 : List Nat) (kn_ : Int → Nat → (List Nat) → Option R) (k0_ : Int → Bool → Nat → (List Nat) → Option R) : Option R := (br (ltI k q0a) (grd (okA2 q1k 1 12 (nF (pF [(fop BinOp.add FloatKind.f32 hub (fop BinOp.mul FloatKind.f32 (fop BinOp.sub FloatKind.f32 tip hub) (fop BinOp.quo FloatKind.f32 (fop BinOp.add FloatKind.f32 (fOI FloatKind.f32 k) 1056964608) (fOI FloatKind.f32 q0a)))), q0k, q0l] 0 (muN 1 3))) (nF b12) 3) (kn_ (addI IntKind.i64 k 1) (adN q1k 1) (aF b12 (pF [(fop BinOp.add FloatKind.f32 hub (fop BinOp.mul FloatKind.f32 (fop BinOp.sub FloatKind.f32 tip hub) (fop BinOp.quo FloatKind.f32 (fop BinOp.add FloatKind.f32 (fOI FloatKind.f32 k) 1056964608) (fOI FloatKind.f32 q0a)))), q0k, q0l] 0 (muN 1 3))))) (k0_ k (ltI k q0a) q1k b12))
theorem zl1 {R R' : Type} (o : Option R → Option R') (h0 : o none = none) (q0a : Int) (hub : Nat) (tip : Nat) (q0k : Nat) (q0l : Nat) (k : Int) (q1k : Nat) (b12 : List Nat) (kn_ : Int → Nat → (List Nat) → Option R) (k0_ : Int → Bool → Nat → (List Nat) → Option R) : z72 q0a hub tip q0k q0l k q1k b12 (fun k' q1k' b12' => o (kn_ k' q1k' b12')) (fun c0_ c1_ c2_ c3_ => o (k0_ c0_ c1_ c2_ c3_)) = o (z72 q0a hub tip q0k q0l k q1k b12 kn_ k0_) := by
  unfold z72
  repeat (first | refine grd_out h0 ?_ | refine br_out ?_ ?_ | rfl | exact h0.symm)
noncomputable def z4b (q0a : Int) (hub : Nat) (tip : Nat) (q0k : Nat) (q0l : Nat) : Nat → Int → Nat → (List Nat) → Option ((Int × Bool × Nat × (List Nat)))
  | 0, _, _, _ => none
  | n + 1, k, q1k, b12 => z72 q0a hub tip q0k q0l  k q1k b12  (fun k' q1k' b12' => z4b q0a hub tip q0k q0l n k' q1k' b12') (fun c0_ c1_ c2_ c3_ => some (c0_, c1_, c2_, c3_))
theorem zj3 (q0a : Int) (hub : Nat) (tip : Nat) (q0k : Nat) (q0l : Nat) (n : Nat) (k : Int) (q1k : Nat) (b12 : List Nat) : z4b q0a hub tip q0k q0l (n + 1) k q1k b12 = z72 q0a hub tip q0k q0l  k q1k b12  (fun k' q1k' b12' => z4b q0a hub tip q0k q0l n k' q1k' b12') (fun c0_ c1_ c2_ c3_ => some (c0_, c1_, c2_, c3_)) := rfl
noncomputable def ze0 (q0a : Int) (hub : Nat) (tip : Nat) (q0k : Nat) (q0l : Nat) (k : Int) (q1k : Nat) (b12 : List Nat) : Bool := (z4b q0a hub tip q0k q0l big k q1k b12).isSome
noncomputable def zfs (q0a : Int) (hub : Nat) (tip : Nat) (q0k : Nat) (q0l : Nat) (k : Int) (q1k : Nat) (b12 : List Nat) : Int := ((z4b q0a hub tip q0k q0l big k q1k b12).getD default).1
noncomputable def zfg (q0a : Int) (hub : Nat) (tip : Nat) (q0k : Nat) (q0l : Nat) (k : Int) (q1k : Nat) (b12 : List Nat) : Bool := ((z4b q0a hub tip q0k q0l big k q1k b12).getD default).2.1
noncomputable def z6w (q0a : Int) (hub : Nat) (tip : Nat) (q0k : Nat) (q0l : Nat) (k : Int) (q1k : Nat) (b12 : List Nat) : Nat := ((z4b q0a hub tip q0k q0l big k q1k b12).getD default).2.2.1
noncomputable def z8j (q0a : Int) (hub : Nat) (tip : Nat) (q0k : Nat) (q0l : Nat) (k : Int) (q1k : Nat) (b12 : List Nat) : List Nat := ((z4b q0a hub tip q0k q0l big k q1k b12).getD default).2.2.2
theorem zm9 {q0a : Int} {hub : Nat} {tip : Nat} {q0k : Nat} {q0l : Nat} {k : Int} {q1k : Nat} {b12 : List Nat} {m : Nat} {r : Int × Bool × Nat × (List Nat)} (hm : m = big) (h : z4b q0a hub tip q0k q0l m k q1k b12 = some r) : ze0 q0a hub tip q0k q0l k q1k b12 = true ∧ zfs q0a hub tip q0k q0l k q1k b12 = r.1 ∧ zfg q0a hub tip q0k q0l k q1k b12 = r.2.1 ∧ z6w q0a hub tip q0k q0l k q1k b12 = r.2.2.1 ∧ z8j q0a hub tip q0k q0l k q1k b12 = r.2.2.2 := by
  subst hm
  unfold ze0 zfs zfg z6w z8j
  rw [h]
  exact ⟨rfl, rfl, rfl, rfl, rfl⟩
noncomputable def zcl {R : Type} (q06 : Nat) (q09 : List Nat) (q08 : Nat) (q0c : List Nat) (q07 : Nat) (q0b : List Nat) (q19 : Int) (q0a : Int) (hub : Nat) (tip : Nat) (q0k : Nat) (q0l : Nat) (k_ : Nat → Nat → Nat → Nat → Int → Nat → Nat → Bool → (List Nat) → (List Nat) → (List Nat) → (List Nat) → Option R) : Option R := (grd (zj0 q06 (pF q09 0 (muN q06 1)) q08 (pF q0c 0 (muN q08 1)) q07 (pF q0b 0 (muN q07 1))) (br (bnot (zio q06 (pF q09 0 (muN q06 1)) q08 (pF q0c 0 (muN q08 1)) q07 (pF q0b 0 (muN q07 1)))) (k_ 0 0 0 0 0 0 0 Bool.false [] [] [] []) (grd (zj1 q0a 2 12) (br (bnot (zik q0a 2 12)) (k_ 0 0 0 0 0 0 0 Bool.false [] [] [] []) (grd (zjj q06 (pF q09 0 (muN q06 1)) q08 (pF q0c 0 (muN q08 1)) q07 (pF q0b 0 (muN q07 1))) (grd (ze0 q0a hub tip q0k q0l 0 0 []) (grd (zjq (zae q06 (pF q09 0 (muN q06 1)) q08 (pF q0c 0 (muN q08 1)) q07 (pF q0b 0 (muN q07 1))) (pF (zdk q06 (pF q09 0 (muN q06 1)) q08 (pF q0c 0 (muN q08 1)) q07 (pF q0b 0 (muN q07 1))) 0 (muN (zae q06 (pF q09 0 (muN q06 1)) q08 (pF q0c 0 (muN q08 1)) q07 (pF q0b 0 (muN q07 1))) 1)) (zah q06 (pF q09 0 (muN q06 1)) q08 (pF q0c 0 (muN q08 1)) q07 (pF q0b 0 (muN q07 1))) (pF (zdi q06 (pF q09 0 (muN q06 1)) q08 (pF q0c 0 (muN q08 1)) q07 (pF q0b 0 (muN q07 1))) 0 (muN (zah q06 (pF q09 0 (muN q06 1)) q08 (pF q0c 0 (muN q08 1)) q07 (pF q0b 0 (muN q07 1))) 1)) (za7 q06 (pF q09 0 (muN q06 1)) q08 (pF q0c 0 (muN q08 1)) q07 (pF q0b 0 (muN q07 1))) (pF (zdm q06 (pF q09 0 (muN q06 1)) q08 (pF q0c 0 (muN q08 1)) q07 (pF q0b 0 (muN q07 1))) 0 (muN (za7 q06 (pF q09 0 (muN q06 1)) q08 (pF q0c 0 (muN q08 1)) q07 (pF q0b 0 (muN q07 1))) 1)) (z6w q0a hub tip q0k q0l 0 0 []) (pF (z8j q0a hub tip q0k q0l 0 0 []) 0 (muN (z6w q0a hub tip q0k q0l 0 0 []) 3)) q19 hub tip) (br (bnot (zjk (zae q06 (pF q09 0 (muN q06 1)) q08 (pF q0c 0 (muN q08 1)) q07 (pF q0b 0 (muN q07 1))) (pF (zdk q06 (pF q09 0 (muN q06 1)) q08 (pF q0c 0 (muN q08 1)) q07 (pF q0b 0 (muN q07 1))) 0 (muN (zae q06 (pF q09 0 (muN q06 1)) q08 (pF q0c 0 (muN q08 1)) q07 (pF q0b 0 (muN q07 1))) 1)) (zah q06 (pF q09 0 (muN q06 1)) q08 (pF q0c 0 (muN q08 1)) q07 (pF q0b 0 (muN q07 1))) (pF (zdi q06 (pF q09 0 (muN q06 1)) q08 (pF q0c 0 (muN q08 1)) q07 (pF q0b 0 (muN q07 1))) 0 (muN (zah q06 (pF q09 0 (muN q06 1)) q08 (pF q0c 0 (muN q08 1)) q07 (pF q0b 0 (muN q07 1))) 1)) (za7 q06 (pF q09 0 (muN q06 1)) q08 (pF q0c 0 (muN q08 1)) q07 (pF q0b 0 (muN q07 1))) (pF (zdm q06 (pF q09 0 (muN q06 1)) q08 (pF q0c 0 (muN q08 1)) q07 (pF q0b 0 (muN q07 1))) 0 (muN (za7 q06 (pF q09 0 (muN q06 1)) q08 (pF q0c 0 (muN q08 1)) q07 (pF q0b 0 (muN q07 1))) 1)) (z6w q0a hub tip q0k q0l 0 0 []) (pF (z8j q0a hub tip q0k q0l 0 0 []) 0 (muN (z6w q0a hub tip q0k q0l 0 0 []) 3)) q19 hub tip)) (k_ 0 0 0 0 0 0 0 Bool.false [] [] [] []) (k_ (zae q06 (pF q09 0 (muN q06 1)) q08 (pF q0c 0 (muN q08 1)) q07 (pF q0b 0 (muN q07 1))) (zah q06 (pF q09 0 (muN q06 1)) q08 (pF q0c 0 (muN q08 1)) q07 (pF q0b 0 (muN q07 1))) (za7 q06 (pF q09 0 (muN q06 1)) q08 (pF q0c 0 (muN q08 1)) q07 (pF q0b 0 (muN q07 1))) (z6w q0a hub tip q0k q0l 0 0 []) q19 hub tip Bool.true (zdk q06 (pF q09 0 (muN q06 1)) q08 (pF q0c 0 (muN q08 1)) q07 (pF q0b 0 (muN q07 1))) (zdi q06 (pF q09 0 (muN q06 1)) q08 (pF q0c 0 (muN q08 1)) q07 (pF q0b 0 (muN q07 1))) (zdm q06 (pF q09 0 (muN q06 1)) q08 (pF q0c 0 (muN q08 1)) q07 (pF q0b 0 (muN q07 1))) (z8j q0a hub tip q0k q0l 0 0 []))))))))))
noncomputable def z4x (q06 : Nat) (q09 : List Nat) (q08 : Nat) (q0c : List Nat) (q07 : Nat) (q0b : List Nat) (q19 : Int) (q0a : Int) (hub : Nat) (tip : Nat) (q0k : Nat) (q0l : Nat) : Option (Nat × Nat × Nat × Nat × Int × Nat × Nat × Bool × (List Nat) × (List Nat) × (List Nat) × (List Nat)) := zcl q06 q09 q08 q0c q07 q0b q19 q0a hub tip q0k q0l (fun c0_ c1_ c2_ c3_ c4_ c5_ c6_ c7_ c8_ c9_ c10_ c11_ => some (c0_, c1_, c2_, c3_, c4_, c5_, c6_, c7_, c8_, c9_, c10_, c11_))
theorem zmm {R R' : Type} (o : Option R → Option R') (h0 : o none = none) (q06 : Nat) (q09 : List Nat) (q08 : Nat) (q0c : List Nat) (q07 : Nat) (q0b : List Nat) (q19 : Int) (q0a : Int) (hub : Nat) (tip : Nat) (q0k : Nat) (q0l : Nat) (k_ : Nat → Nat → Nat → Nat → Int → Nat → Nat → Bool → (List Nat) → (List Nat) → (List Nat) → (List Nat) → Option R) : zcl q06 q09 q08 q0c q07 q0b q19 q0a hub tip q0k q0l (fun c0_ c1_ c2_ c3_ c4_ c5_ c6_ c7_ c8_ c9_ c10_ c11_ => o (k_ c0_ c1_ c2_ c3_ c4_ c5_ c6_ c7_ c8_ c9_ c10_ c11_)) = o (zcl q06 q09 q08 q0c q07 q0b q19 q0a hub tip q0k q0l k_) := by
  unfold zcl
  repeat (first | refine grd_out h0 ?_ | refine br_out ?_ ?_ | rfl | exact h0.symm)
noncomputable def zic (q06 : Nat) (q09 : List Nat) (q08 : Nat) (q0c : List Nat) (q07 : Nat) (q0b : List Nat) (q19 : Int) (q0a : Int) (hub : Nat) (tip : Nat) (q0k : Nat) (q0l : Nat) : Bool := (z4x q06 q09 q08 q0c q07 q0b q19 q0a hub tip q0k q0l).isSome
noncomputable def zgj (q06 : Nat) (q09 : List Nat) (q08 : Nat) (q0c : List Nat) (q07 : Nat) (q0b : List Nat) (q19 : Int) (q0a : Int) (hub : Nat) (tip : Nat) (q0k : Nat) (q0l : Nat) : Nat := ((z4x q06 q09 q08 q0c q07 q0b q19 q0a hub tip q0k q0l).getD default).1
noncomputable def zga (q06 : Nat) (q09 : List Nat) (q08 : Nat) (q0c : List Nat) (q07 : Nat) (q0b : List Nat) (q19 : Int) (q0a : Int) (hub : Nat) (tip : Nat) (q0k : Nat) (q0l : Nat) : Nat := ((z4x q06 q09 q08 q0c q07 q0b q19 q0a hub tip q0k q0l).getD default).2.1
noncomputable def zgg (q06 : Nat) (q09 : List Nat) (q08 : Nat) (q0c : List Nat) (q07 : Nat) (q0b : List Nat) (q19 : Int) (q0a : Int) (hub : Nat) (tip : Nat) (q0k : Nat) (q0l : Nat) : Nat := ((z4x q06 q09 q08 q0c q07 q0b q19 q0a hub tip q0k q0l).getD default).2.2.1
noncomputable def zgn (q06 : Nat) (q09 : List Nat) (q08 : Nat) (q0c : List Nat) (q07 : Nat) (q0b : List Nat) (q19 : Int) (q0a : Int) (hub : Nat) (tip : Nat) (q0k : Nat) (q0l : Nat) : Nat := ((z4x q06 q09 q08 q0c q07 q0b q19 q0a hub tip q0k q0l).getD default).2.2.2.1
noncomputable def zgb (q06 : Nat) (q09 : List Nat) (q08 : Nat) (q0c : List Nat) (q07 : Nat) (q0b : List Nat) (q19 : Int) (q0a : Int) (hub : Nat) (tip : Nat) (q0k : Nat) (q0l : Nat) : Int := ((z4x q06 q09 q08 q0c q07 q0b q19 q0a hub tip q0k q0l).getD default).2.2.2.2.1
noncomputable def zgq (q06 : Nat) (q09 : List Nat) (q08 : Nat) (q0c : List Nat) (q07 : Nat) (q0b : List Nat) (q19 : Int) (q0a : Int) (hub : Nat) (tip : Nat) (q0k : Nat) (q0l : Nat) : Nat := ((z4x q06 q09 q08 q0c q07 q0b q19 q0a hub tip q0k q0l).getD default).2.2.2.2.2.1
noncomputable def zgr (q06 : Nat) (q09 : List Nat) (q08 : Nat) (q0c : List Nat) (q07 : Nat) (q0b : List Nat) (q19 : Int) (q0a : Int) (hub : Nat) (tip : Nat) (q0k : Nat) (q0l : Nat) : Nat := ((z4x q06 q09 q08 q0c q07 q0b q19 q0a hub tip q0k q0l).getD default).2.2.2.2.2.2.1
noncomputable def zgm (q06 : Nat) (q09 : List Nat) (q08 : Nat) (q0c : List Nat) (q07 : Nat) (q0b : List Nat) (q19 : Int) (q0a : Int) (hub : Nat) (tip : Nat) (q0k : Nat) (q0l : Nat) : Bool := ((z4x q06 q09 q08 q0c q07 q0b q19 q0a hub tip q0k q0l).getD default).2.2.2.2.2.2.2.1
noncomputable def zgh (q06 : Nat) (q09 : List Nat) (q08 : Nat) (q0c : List Nat) (q07 : Nat) (q0b : List Nat) (q19 : Int) (q0a : Int) (hub : Nat) (tip : Nat) (q0k : Nat) (q0l : Nat) : List Nat := ((z4x q06 q09 q08 q0c q07 q0b q19 q0a hub tip q0k q0l).getD default).2.2.2.2.2.2.2.2.1
noncomputable def zge (q06 : Nat) (q09 : List Nat) (q08 : Nat) (q0c : List Nat) (q07 : Nat) (q0b : List Nat) (q19 : Int) (q0a : Int) (hub : Nat) (tip : Nat) (q0k : Nat) (q0l : Nat) : List Nat := ((z4x q06 q09 q08 q0c q07 q0b q19 q0a hub tip q0k q0l).getD default).2.2.2.2.2.2.2.2.2.1
noncomputable def zew (q06 : Nat) (q09 : List Nat) (q08 : Nat) (q0c : List Nat) (q07 : Nat) (q0b : List Nat) (q19 : Int) (q0a : Int) (hub : Nat) (tip : Nat) (q0k : Nat) (q0l : Nat) : List Nat := ((z4x q06 q09 q08 q0c q07 q0b q19 q0a hub tip q0k q0l).getD default).2.2.2.2.2.2.2.2.2.2.1
noncomputable def zfe (q06 : Nat) (q09 : List Nat) (q08 : Nat) (q0c : List Nat) (q07 : Nat) (q0b : List Nat) (q19 : Int) (q0a : Int) (hub : Nat) (tip : Nat) (q0k : Nat) (q0l : Nat) : List Nat := ((z4x q06 q09 q08 q0c q07 q0b q19 q0a hub tip q0k q0l).getD default).2.2.2.2.2.2.2.2.2.2.2
theorem zo3 {q06 : Nat} {q09 : List Nat} {q08 : Nat} {q0c : List Nat} {q07 : Nat} {q0b : List Nat} {q19 : Int} {q0a : Int} {hub : Nat} {tip : Nat} {q0k : Nat} {q0l : Nat} {r : Nat × Nat × Nat × Nat × Int × Nat × Nat × Bool × (List Nat) × (List Nat) × (List Nat) × (List Nat)} (h : z4x q06 q09 q08 q0c q07 q0b q19 q0a hub tip q0k q0l = some r) : zic q06 q09 q08 q0c q07 q0b q19 q0a hub tip q0k q0l = true ∧ zgj q06 q09 q08 q0c q07 q0b q19 q0a hub tip q0k q0l = r.1 ∧ zga q06 q09 q08 q0c q07 q0b q19 q0a hub tip q0k q0l = r.2.1 ∧ zgg q06 q09 q08 q0c q07 q0b q19 q0a hub tip q0k q0l = r.2.2.1 ∧ zgn q06 q09 q08 q0c q07 q0b q19 q0a hub tip q0k q0l = r.2.2.2.1 ∧ zgb q06 q09 q08 q0c q07 q0b q19 q0a hub tip q0k q0l = r.2.2.2.2.1 ∧ zgq q06 q09 q08 q0c q07 q0b q19 q0a hub tip q0k q0l = r.2.2.2.2.2.1 ∧ zgr q06 q09 q08 q0c q07 q0b q19 q0a hub tip q0k q0l = r.2.2.2.2.2.2.1 ∧ zgm q06 q09 q08 q0c q07 q0b q19 q0a hub tip q0k q0l = r.2.2.2.2.2.2.2.1 ∧ zgh q06 q09 q08 q0c q07 q0b q19 q0a hub tip q0k q0l = r.2.2.2.2.2.2.2.2.1 ∧ zge q06 q09 q08 q0c q07 q0b q19 q0a hub tip q0k q0l = r.2.2.2.2.2.2.2.2.2.1 ∧ zew q06 q09 q08 q0c q07 q0b q19 q0a hub tip q0k q0l = r.2.2.2.2.2.2.2.2.2.2.1 ∧ zfe q06 q09 q08 q0c q07 q0b q19 q0a hub tip q0k q0l = r.2.2.2.2.2.2.2.2.2.2.2 := by
  unfold zic zgj zga zgg zgn zgb zgq zgr zgm zgh zge zew zfe
  rw [h]
  exact ⟨rfl, rfl, rfl, rfl, rfl, rfl, rfl, rfl, rfl, rfl, rfl, rfl, rfl⟩
noncomputable def z6s {R : Type} (q2p : Nat) (t44 : Int) (b3 : List Nat) (q0y : Nat) (t4 : Nat) (t45 : Int) (kn_ : Nat → Int → Option R) (k0_ : Unit → Option R) (k1_ : Nat → Int → Bool → Option R) : Option R := (br (ltI t45 t44) (grd (okIx t45 q2p) (br (fcmp BinOp.gtr FloatKind.f32 (gF b3 (ixO 0 t45 3)) t4) (br (bnot (fcmp BinOp.lss FloatKind.f32 (gF b3 (ixO 0 t45 3)) q0y)) (k0_ ()) (grd (zco 1 (pF [(gF b3 (Nat.succ (ixO 0 t45 3)))] 0 (muN 1 1))) (br (bnot (zc5 1 (pF [(gF b3 (Nat.succ (ixO 0 t45 3)))] 0 (muN 1 1)))) (k0_ ()) (grd (z8t (gF b3 (Nat.succ (Nat.succ (ixO 0 t45 3))))) (br (bnot (z8f (gF b3 (Nat.succ (Nat.succ (ixO 0 t45 3)))))) (k0_ ()) (kn_ (gF b3 (ixO 0 t45 3)) (addI IntKind.i64 t45 1))))))) (br (bnot Bool.false) (k0_ ()) (grd (zco 1 (pF [(gF b3 (Nat.succ (ixO 0 t45 3)))] 0 (muN 1 1))) (br (bnot (zc5 1 (pF [(gF b3 (Nat.succ (ixO 0 t45 3)))] 0 (muN 1 1)))) (k0_ ()) (grd (z8t (gF b3 (Nat.succ (Nat.succ (ixO 0 t45 3))))) (br (bnot (z8f (gF b3 (Nat.succ (Nat.succ (ixO 0 t45 3)))))) (k0_ ()) (kn_ (gF b3 (ixO 0 t45 3)) (addI IntKind.i64 t45 1))))))))) (k1_ t4 t45 (ltI t45 t44)))
theorem zkx {R R' : Type} (o : Option R → Option R') (h0 : o none = none) (q2p : Nat) (t44 : Int) (b3 : List Nat) (q0y : Nat) (t4 : Nat) (t45 : Int) (kn_ : Nat → Int → Option R) (k0_ : Unit → Option R) (k1_ : Nat → Int → Bool → Option R) : z6s q2p t44 b3 q0y t4 t45 (fun t4' t45' => o (kn_ t4' t45')) (fun _ => o (k0_ ())) (fun c0_ c1_ c2_ => o (k1_ c0_ c1_ c2_)) = o (z6s q2p t44 b3 q0y t4 t45 kn_ k0_ k1_) := by
  unfold z6s
  repeat (first | refine grd_out h0 ?_ | refine br_out ?_ ?_ | rfl | exact h0.symm)
noncomputable def z49 (q2p : Nat) (t44 : Int) (b3 : List Nat) (q0y : Nat) : Nat → Nat → Int → Option ((Unit) ⊕ (Nat × Int × Bool))
  | 0, _, _ => none
  | n + 1, t4, t45 => z6s q2p t44 b3 q0y  t4 t45  (fun t4' t45' => z49 q2p t44 b3 q0y n t4' t45') (fun _ => some (Sum.inl ())) (fun c0_ c1_ c2_ => some (Sum.inr (c0_, c1_, c2_)))
theorem zix (q2p : Nat) (t44 : Int) (b3 : List Nat) (q0y : Nat) (n : Nat) (t4 : Nat) (t45 : Int) : z49 q2p t44 b3 q0y (n + 1) t4 t45 = z6s q2p t44 b3 q0y  t4 t45  (fun t4' t45' => z49 q2p t44 b3 q0y n t4' t45') (fun _ => some (Sum.inl ())) (fun c0_ c1_ c2_ => some (Sum.inr (c0_, c1_, c2_))) := rfl
noncomputable def z8g (q2p : Nat) (t44 : Int) (b3 : List Nat) (q0y : Nat) (t4 : Nat) (t45 : Int) : Bool := (z49 q2p t44 b3 q0y big t4 t45).isSome
noncomputable def z86 (q2p : Nat) (t44 : Int) (b3 : List Nat) (q0y : Nat) (t4 : Nat) (t45 : Int) : Bool := oL (z49 q2p t44 b3 q0y big t4 t45)
noncomputable def zeo (q2p : Nat) (t44 : Int) (b3 : List Nat) (q0y : Nat) (t4 : Nat) (t45 : Int) : Nat := ((tR (z49 q2p t44 b3 q0y big t4 t45)).getD default).1
noncomputable def zeg (q2p : Nat) (t44 : Int) (b3 : List Nat) (q0y : Nat) (t4 : Nat) (t45 : Int) : Int := ((tR (z49 q2p t44 b3 q0y big t4 t45)).getD default).2.1
noncomputable def zeq (q2p : Nat) (t44 : Int) (b3 : List Nat) (q0y : Nat) (t4 : Nat) (t45 : Int) : Bool := ((tR (z49 q2p t44 b3 q0y big t4 t45)).getD default).2.2
theorem zlr {q2p : Nat} {t44 : Int} {b3 : List Nat} {q0y : Nat} {t4 : Nat} {t45 : Int} {m : Nat} {r : Unit} (hm : m = big) (h : z49 q2p t44 b3 q0y m t4 t45 = some (Sum.inl r)) : z8g q2p t44 b3 q0y t4 t45 = true ∧ z86 q2p t44 b3 q0y t4 t45 = true := by
  subst hm
  unfold z8g z86
  rw [h]
  exact ⟨rfl, rfl⟩
theorem zlf {q2p : Nat} {t44 : Int} {b3 : List Nat} {q0y : Nat} {t4 : Nat} {t45 : Int} {m : Nat} {r : Nat × Int × Bool} (hm : m = big) (h : z49 q2p t44 b3 q0y m t4 t45 = some (Sum.inr r)) : z8g q2p t44 b3 q0y t4 t45 = true ∧ z86 q2p t44 b3 q0y t4 t45 = false ∧ zeo q2p t44 b3 q0y t4 t45 = r.1 ∧ zeg q2p t44 b3 q0y t4 t45 = r.2.1 ∧ zeq q2p t44 b3 q0y t4 t45 = r.2.2 := by
  subst hm
  unfold z8g z86 zeo zeg zeq
  rw [h]
  exact ⟨rfl, rfl, rfl, rfl, rfl⟩
noncomputable def zbr {R : Type} (q0e : Nat) (q0m : List Nat) (q0g : Nat) (q0o : List Nat) (q0f : Nat) (q0n : List Nat) (q0s : Nat) (q11 : List Nat) (q18 : Int) (q1a : Nat) (q1b : Nat) (k_ : Bool → Option R) : Option R := (grd (ze3 q0e (pF q0m 0 (muN q0e 1)) q0g (pF q0o 0 (muN q0g 1)) q0f (pF q0n 0 (muN q0f 1))) (br (bnot (zd9 q0e (pF q0m 0 (muN q0e 1)) q0g (pF q0o 0 (muN q0g 1)) q0f (pF q0n 0 (muN q0f 1)))) (k_ Bool.false) (grd (zin q18 1 6) (br (bnot (zhq q18 1 6)) (k_ Bool.false) (br (ltI (Int.ofNat q0s) 2) (k_ Bool.false) (br (ltI 12 (Int.ofNat q0s)) (k_ Bool.false) (grd (zh6 q1a) (br (bnot (zex q1a)) (k_ Bool.false) (grd (z8t q1b) (br (bnot (z8f q1b)) (k_ Bool.false) (grd (z8g q0s (Int.ofNat q0s) q11 q1b q1a 0) (br (z86 q0s (Int.ofNat q0s) q11 q1b q1a 0) (k_ Bool.false) (k_ Bool.true)))))))))))))
noncomputable def zbp (q0e : Nat) (q0m : List Nat) (q0g : Nat) (q0o : List Nat) (q0f : Nat) (q0n : List Nat) (q0s : Nat) (q11 : List Nat) (q18 : Int) (q1a : Nat) (q1b : Nat) : Option (Bool) := zbr q0e q0m q0g q0o q0f q0n q0s q11 q18 q1a q1b (fun c0_ => some c0_)
theorem zm0 {R R' : Type} (o : Option R → Option R') (h0 : o none = none) (q0e : Nat) (q0m : List Nat) (q0g : Nat) (q0o : List Nat) (q0f : Nat) (q0n : List Nat) (q0s : Nat) (q11 : List Nat) (q18 : Int) (q1a : Nat) (q1b : Nat) (k_ : Bool → Option R) : zbr q0e q0m q0g q0o q0f q0n q0s q11 q18 q1a q1b (fun c0_ => o (k_ c0_)) = o (zbr q0e q0m q0g q0o q0f q0n q0s q11 q18 q1a q1b k_) := by
  unfold zbr
  repeat (first | refine grd_out h0 ?_ | refine br_out ?_ ?_ | rfl | exact h0.symm)
noncomputable def zg8 (q0e : Nat) (q0m : List Nat) (q0g : Nat) (q0o : List Nat) (q0f : Nat) (q0n : List Nat) (q0s : Nat) (q11 : List Nat) (q18 : Int) (q1a : Nat) (q1b : Nat) : Bool := (zbp q0e q0m q0g q0o q0f q0n q0s q11 q18 q1a q1b).isSome
noncomputable def zf4 (q0e : Nat) (q0m : List Nat) (q0g : Nat) (q0o : List Nat) (q0f : Nat) (q0n : List Nat) (q0s : Nat) (q11 : List Nat) (q18 : Int) (q1a : Nat) (q1b : Nat) : Bool := ((zbp q0e q0m q0g q0o q0f q0n q0s q11 q18 q1a q1b).getD default)
theorem zns {q0e : Nat} {q0m : List Nat} {q0g : Nat} {q0o : List Nat} {q0f : Nat} {q0n : List Nat} {q0s : Nat} {q11 : List Nat} {q18 : Int} {q1a : Nat} {q1b : Nat} {r : Bool} (h : zbp q0e q0m q0g q0o q0f q0n q0s q11 q18 q1a q1b = some r) : zg8 q0e q0m q0g q0o q0f q0n q0s q11 q18 q1a q1b = true ∧ zf4 q0e q0m q0g q0o q0f q0n q0s q11 q18 q1a q1b = r := by
  unfold zg8 zf4
  rw [h]
  exact ⟨rfl, rfl⟩
noncomputable def z73 {R : Type} (q0a : Int) (hub : Nat) (tip : Nat) (q0k : Nat) (q0l : Nat) (t29 : Int) (t30 : Int) (q1k : Nat) (b12 : List Nat) (kn_ : Int → Nat → (List Nat) → Option R) (k0_ : Int → Bool → Nat → (List Nat) → Option R) : Option R := (br (ltI t30 t29) (grd (okA2 q1k 1 12 (nF (pF [(fop BinOp.add FloatKind.f32 hub (fop BinOp.mul FloatKind.f32 (fop BinOp.sub FloatKind.f32 tip hub) (fop BinOp.quo FloatKind.f32 (fop BinOp.add FloatKind.f32 (fOI FloatKind.f32 t30) 1056964608) (fOI FloatKind.f32 q0a)))), q0k, q0l] 0 (muN 1 3))) (nF b12) 3) (kn_ (addI IntKind.i64 t30 1) (adN q1k 1) (aF b12 (pF [(fop BinOp.add FloatKind.f32 hub (fop BinOp.mul FloatKind.f32 (fop BinOp.sub FloatKind.f32 tip hub) (fop BinOp.quo FloatKind.f32 (fop BinOp.add FloatKind.f32 (fOI FloatKind.f32 t30) 1056964608) (fOI FloatKind.f32 q0a)))), q0k, q0l] 0 (muN 1 3))))) (k0_ t30 (ltI t30 t29) q1k b12))
theorem zl7 {R R' : Type} (o : Option R → Option R') (h0 : o none = none) (q0a : Int) (hub : Nat) (tip : Nat) (q0k : Nat) (q0l : Nat) (t29 : Int) (t30 : Int) (q1k : Nat) (b12 : List Nat) (kn_ : Int → Nat → (List Nat) → Option R) (k0_ : Int → Bool → Nat → (List Nat) → Option R) : z73 q0a hub tip q0k q0l t29 t30 q1k b12 (fun t30' q1k' b12' => o (kn_ t30' q1k' b12')) (fun c0_ c1_ c2_ c3_ => o (k0_ c0_ c1_ c2_ c3_)) = o (z73 q0a hub tip q0k q0l t29 t30 q1k b12 kn_ k0_) := by
  unfold z73
  repeat (first | refine grd_out h0 ?_ | refine br_out ?_ ?_ | rfl | exact h0.symm)
noncomputable def z4a (q0a : Int) (hub : Nat) (tip : Nat) (q0k : Nat) (q0l : Nat) (t29 : Int) : Nat → Int → Nat → (List Nat) → Option ((Int × Bool × Nat × (List Nat)))
  | 0, _, _, _ => none
  | n + 1, t30, q1k, b12 => z73 q0a hub tip q0k q0l t29  t30 q1k b12  (fun t30' q1k' b12' => z4a q0a hub tip q0k q0l t29 n t30' q1k' b12') (fun c0_ c1_ c2_ c3_ => some (c0_, c1_, c2_, c3_))
theorem zja (q0a : Int) (hub : Nat) (tip : Nat) (q0k : Nat) (q0l : Nat) (t29 : Int) (n : Nat) (t30 : Int) (q1k : Nat) (b12 : List Nat) : z4a q0a hub tip q0k q0l t29 (n + 1) t30 q1k b12 = z73 q0a hub tip q0k q0l t29  t30 q1k b12  (fun t30' q1k' b12' => z4a q0a hub tip q0k q0l t29 n t30' q1k' b12') (fun c0_ c1_ c2_ c3_ => some (c0_, c1_, c2_, c3_)) := rfl
noncomputable def zdx (q0a : Int) (hub : Nat) (tip : Nat) (q0k : Nat) (q0l : Nat) (t29 : Int) (t30 : Int) (q1k : Nat) (b12 : List Nat) : Bool := (z4a q0a hub tip q0k q0l t29 big t30 q1k b12).isSome
noncomputable def zfp (q0a : Int) (hub : Nat) (tip : Nat) (q0k : Nat) (q0l : Nat) (t29 : Int) (t30 : Int) (q1k : Nat) (b12 : List Nat) : Int := ((z4a q0a hub tip q0k q0l t29 big t30 q1k b12).getD default).1
noncomputable def zfu (q0a : Int) (hub : Nat) (tip : Nat) (q0k : Nat) (q0l : Nat) (t29 : Int) (t30 : Int) (q1k : Nat) (b12 : List Nat) : Bool := ((z4a q0a hub tip q0k q0l t29 big t30 q1k b12).getD default).2.1
noncomputable def z6x (q0a : Int) (hub : Nat) (tip : Nat) (q0k : Nat) (q0l : Nat) (t29 : Int) (t30 : Int) (q1k : Nat) (b12 : List Nat) : Nat := ((z4a q0a hub tip q0k q0l t29 big t30 q1k b12).getD default).2.2.1
noncomputable def z8k (q0a : Int) (hub : Nat) (tip : Nat) (q0k : Nat) (q0l : Nat) (t29 : Int) (t30 : Int) (q1k : Nat) (b12 : List Nat) : List Nat := ((z4a q0a hub tip q0k q0l t29 big t30 q1k b12).getD default).2.2.2
theorem zma {q0a : Int} {hub : Nat} {tip : Nat} {q0k : Nat} {q0l : Nat} {t29 : Int} {t30 : Int} {q1k : Nat} {b12 : List Nat} {m : Nat} {r : Int × Bool × Nat × (List Nat)} (hm : m = big) (h : z4a q0a hub tip q0k q0l t29 m t30 q1k b12 = some r) : zdx q0a hub tip q0k q0l t29 t30 q1k b12 = true ∧ zfp q0a hub tip q0k q0l t29 t30 q1k b12 = r.1 ∧ zfu q0a hub tip q0k q0l t29 t30 q1k b12 = r.2.1 ∧ z6x q0a hub tip q0k q0l t29 t30 q1k b12 = r.2.2.1 ∧ z8k q0a hub tip q0k q0l t29 t30 q1k b12 = r.2.2.2 := by
  subst hm
  unfold zdx zfp zfu z6x z8k
  rw [h]
  exact ⟨rfl, rfl, rfl, rfl, rfl⟩
noncomputable def zcb {R : Type} (q06 : Nat) (q09 : List Nat) (q08 : Nat) (q0c : List Nat) (q07 : Nat) (q0b : List Nat) (q19 : Int) (q0a : Int) (hub : Nat) (tip : Nat) (q0k : Nat) (q0l : Nat) (k_ : Nat → Nat → Nat → Nat → Int → Nat → Nat → Bool → (List Nat) → (List Nat) → (List Nat) → (List Nat) → Option R) : Option R := (grd (zin q0a 2 12) (br (bnot (zhq q0a 2 12)) (k_ 0 0 0 0 0 0 0 Bool.false [] [] [] []) (grd (zfd q06 (pF q09 0 (muN q06 1)) q08 (pF q0c 0 (muN q08 1)) q07 (pF q0b 0 (muN q07 1))) (grd (zdx q0a hub tip q0k q0l q0a 0 0 []) (grd (zg8 (z82 q06 (pF q09 0 (muN q06 1)) q08 (pF q0c 0 (muN q08 1)) q07 (pF q0b 0 (muN q07 1))) (pF (z9n q06 (pF q09 0 (muN q06 1)) q08 (pF q0c 0 (muN q08 1)) q07 (pF q0b 0 (muN q07 1))) 0 (muN (z82 q06 (pF q09 0 (muN q06 1)) q08 (pF q0c 0 (muN q08 1)) q07 (pF q0b 0 (muN q07 1))) 1)) (z83 q06 (pF q09 0 (muN q06 1)) q08 (pF q0c 0 (muN q08 1)) q07 (pF q0b 0 (muN q07 1))) (pF (z9h q06 (pF q09 0 (muN q06 1)) q08 (pF q0c 0 (muN q08 1)) q07 (pF q0b 0 (muN q07 1))) 0 (muN (z83 q06 (pF q09 0 (muN q06 1)) q08 (pF q0c 0 (muN q08 1)) q07 (pF q0b 0 (muN q07 1))) 1)) (z84 q06 (pF q09 0 (muN q06 1)) q08 (pF q0c 0 (muN q08 1)) q07 (pF q0b 0 (muN q07 1))) (pF (z9j q06 (pF q09 0 (muN q06 1)) q08 (pF q0c 0 (muN q08 1)) q07 (pF q0b 0 (muN q07 1))) 0 (muN (z84 q06 (pF q09 0 (muN q06 1)) q08 (pF q0c 0 (muN q08 1)) q07 (pF q0b 0 (muN q07 1))) 1)) (z6x q0a hub tip q0k q0l q0a 0 0 []) (pF (z8k q0a hub tip q0k q0l q0a 0 0 []) 0 (muN (z6x q0a hub tip q0k q0l q0a 0 0 []) 3)) q19 hub tip) (br (bnot (zf4 (z82 q06 (pF q09 0 (muN q06 1)) q08 (pF q0c 0 (muN q08 1)) q07 (pF q0b 0 (muN q07 1))) (pF (z9n q06 (pF q09 0 (muN q06 1)) q08 (pF q0c 0 (muN q08 1)) q07 (pF q0b 0 (muN q07 1))) 0 (muN (z82 q06 (pF q09 0 (muN q06 1)) q08 (pF q0c 0 (muN q08 1)) q07 (pF q0b 0 (muN q07 1))) 1)) (z83 q06 (pF q09 0 (muN q06 1)) q08 (pF q0c 0 (muN q08 1)) q07 (pF q0b 0 (muN q07 1))) (pF (z9h q06 (pF q09 0 (muN q06 1)) q08 (pF q0c 0 (muN q08 1)) q07 (pF q0b 0 (muN q07 1))) 0 (muN (z83 q06 (pF q09 0 (muN q06 1)) q08 (pF q0c 0 (muN q08 1)) q07 (pF q0b 0 (muN q07 1))) 1)) (z84 q06 (pF q09 0 (muN q06 1)) q08 (pF q0c 0 (muN q08 1)) q07 (pF q0b 0 (muN q07 1))) (pF (z9j q06 (pF q09 0 (muN q06 1)) q08 (pF q0c 0 (muN q08 1)) q07 (pF q0b 0 (muN q07 1))) 0 (muN (z84 q06 (pF q09 0 (muN q06 1)) q08 (pF q0c 0 (muN q08 1)) q07 (pF q0b 0 (muN q07 1))) 1)) (z6x q0a hub tip q0k q0l q0a 0 0 []) (pF (z8k q0a hub tip q0k q0l q0a 0 0 []) 0 (muN (z6x q0a hub tip q0k q0l q0a 0 0 []) 3)) q19 hub tip)) (k_ 0 0 0 0 0 0 0 Bool.false [] [] [] []) (k_ (z82 q06 (pF q09 0 (muN q06 1)) q08 (pF q0c 0 (muN q08 1)) q07 (pF q0b 0 (muN q07 1))) (z83 q06 (pF q09 0 (muN q06 1)) q08 (pF q0c 0 (muN q08 1)) q07 (pF q0b 0 (muN q07 1))) (z84 q06 (pF q09 0 (muN q06 1)) q08 (pF q0c 0 (muN q08 1)) q07 (pF q0b 0 (muN q07 1))) (z6x q0a hub tip q0k q0l q0a 0 0 []) q19 hub tip Bool.true (z9n q06 (pF q09 0 (muN q06 1)) q08 (pF q0c 0 (muN q08 1)) q07 (pF q0b 0 (muN q07 1))) (z9h q06 (pF q09 0 (muN q06 1)) q08 (pF q0c 0 (muN q08 1)) q07 (pF q0b 0 (muN q07 1))) (z9j q06 (pF q09 0 (muN q06 1)) q08 (pF q0c 0 (muN q08 1)) q07 (pF q0b 0 (muN q07 1))) (z8k q0a hub tip q0k q0l q0a 0 0 []))))))))
noncomputable def z4y (q06 : Nat) (q09 : List Nat) (q08 : Nat) (q0c : List Nat) (q07 : Nat) (q0b : List Nat) (q19 : Int) (q0a : Int) (hub : Nat) (tip : Nat) (q0k : Nat) (q0l : Nat) : Option (Nat × Nat × Nat × Nat × Int × Nat × Nat × Bool × (List Nat) × (List Nat) × (List Nat) × (List Nat)) := zcb q06 q09 q08 q0c q07 q0b q19 q0a hub tip q0k q0l (fun c0_ c1_ c2_ c3_ c4_ c5_ c6_ c7_ c8_ c9_ c10_ c11_ => some (c0_, c1_, c2_, c3_, c4_, c5_, c6_, c7_, c8_, c9_, c10_, c11_))
theorem zmc {R R' : Type} (o : Option R → Option R') (h0 : o none = none) (q06 : Nat) (q09 : List Nat) (q08 : Nat) (q0c : List Nat) (q07 : Nat) (q0b : List Nat) (q19 : Int) (q0a : Int) (hub : Nat) (tip : Nat) (q0k : Nat) (q0l : Nat) (k_ : Nat → Nat → Nat → Nat → Int → Nat → Nat → Bool → (List Nat) → (List Nat) → (List Nat) → (List Nat) → Option R) : zcb q06 q09 q08 q0c q07 q0b q19 q0a hub tip q0k q0l (fun c0_ c1_ c2_ c3_ c4_ c5_ c6_ c7_ c8_ c9_ c10_ c11_ => o (k_ c0_ c1_ c2_ c3_ c4_ c5_ c6_ c7_ c8_ c9_ c10_ c11_)) = o (zcb q06 q09 q08 q0c q07 q0b q19 q0a hub tip q0k q0l k_) := by
  unfold zcb
  repeat (first | refine grd_out h0 ?_ | refine br_out ?_ ?_ | rfl | exact h0.symm)
noncomputable def zi6 (q06 : Nat) (q09 : List Nat) (q08 : Nat) (q0c : List Nat) (q07 : Nat) (q0b : List Nat) (q19 : Int) (q0a : Int) (hub : Nat) (tip : Nat) (q0k : Nat) (q0l : Nat) : Bool := (z4y q06 q09 q08 q0c q07 q0b q19 q0a hub tip q0k q0l).isSome
noncomputable def zgs (q06 : Nat) (q09 : List Nat) (q08 : Nat) (q0c : List Nat) (q07 : Nat) (q0b : List Nat) (q19 : Int) (q0a : Int) (hub : Nat) (tip : Nat) (q0k : Nat) (q0l : Nat) : Nat := ((z4y q06 q09 q08 q0c q07 q0b q19 q0a hub tip q0k q0l).getD default).1
noncomputable def zg7 (q06 : Nat) (q09 : List Nat) (q08 : Nat) (q0c : List Nat) (q07 : Nat) (q0b : List Nat) (q19 : Int) (q0a : Int) (hub : Nat) (tip : Nat) (q0k : Nat) (q0l : Nat) : Nat := ((z4y q06 q09 q08 q0c q07 q0b q19 q0a hub tip q0k q0l).getD default).2.1
noncomputable def zg9 (q06 : Nat) (q09 : List Nat) (q08 : Nat) (q0c : List Nat) (q07 : Nat) (q0b : List Nat) (q19 : Int) (q0a : Int) (hub : Nat) (tip : Nat) (q0k : Nat) (q0l : Nat) : Nat := ((z4y q06 q09 q08 q0c q07 q0b q19 q0a hub tip q0k q0l).getD default).2.2.1
noncomputable def zgv (q06 : Nat) (q09 : List Nat) (q08 : Nat) (q0c : List Nat) (q07 : Nat) (q0b : List Nat) (q19 : Int) (q0a : Int) (hub : Nat) (tip : Nat) (q0k : Nat) (q0l : Nat) : Nat := ((z4y q06 q09 q08 q0c q07 q0b q19 q0a hub tip q0k q0l).getD default).2.2.2.1
noncomputable def zgw (q06 : Nat) (q09 : List Nat) (q08 : Nat) (q0c : List Nat) (q07 : Nat) (q0b : List Nat) (q19 : Int) (q0a : Int) (hub : Nat) (tip : Nat) (q0k : Nat) (q0l : Nat) : Int := ((z4y q06 q09 q08 q0c q07 q0b q19 q0a hub tip q0k q0l).getD default).2.2.2.2.1
noncomputable def zgc (q06 : Nat) (q09 : List Nat) (q08 : Nat) (q0c : List Nat) (q07 : Nat) (q0b : List Nat) (q19 : Int) (q0a : Int) (hub : Nat) (tip : Nat) (q0k : Nat) (q0l : Nat) : Nat := ((z4y q06 q09 q08 q0c q07 q0b q19 q0a hub tip q0k q0l).getD default).2.2.2.2.2.1
noncomputable def zgd (q06 : Nat) (q09 : List Nat) (q08 : Nat) (q0c : List Nat) (q07 : Nat) (q0b : List Nat) (q19 : Int) (q0a : Int) (hub : Nat) (tip : Nat) (q0k : Nat) (q0l : Nat) : Nat := ((z4y q06 q09 q08 q0c q07 q0b q19 q0a hub tip q0k q0l).getD default).2.2.2.2.2.2.1
noncomputable def zgf (q06 : Nat) (q09 : List Nat) (q08 : Nat) (q0c : List Nat) (q07 : Nat) (q0b : List Nat) (q19 : Int) (q0a : Int) (hub : Nat) (tip : Nat) (q0k : Nat) (q0l : Nat) : Bool := ((z4y q06 q09 q08 q0c q07 q0b q19 q0a hub tip q0k q0l).getD default).2.2.2.2.2.2.2.1
noncomputable def zgp (q06 : Nat) (q09 : List Nat) (q08 : Nat) (q0c : List Nat) (q07 : Nat) (q0b : List Nat) (q19 : Int) (q0a : Int) (hub : Nat) (tip : Nat) (q0k : Nat) (q0l : Nat) : List Nat := ((z4y q06 q09 q08 q0c q07 q0b q19 q0a hub tip q0k q0l).getD default).2.2.2.2.2.2.2.2.1
noncomputable def zgt (q06 : Nat) (q09 : List Nat) (q08 : Nat) (q0c : List Nat) (q07 : Nat) (q0b : List Nat) (q19 : Int) (q0a : Int) (hub : Nat) (tip : Nat) (q0k : Nat) (q0l : Nat) : List Nat := ((z4y q06 q09 q08 q0c q07 q0b q19 q0a hub tip q0k q0l).getD default).2.2.2.2.2.2.2.2.2.1
noncomputable def zf8 (q06 : Nat) (q09 : List Nat) (q08 : Nat) (q0c : List Nat) (q07 : Nat) (q0b : List Nat) (q19 : Int) (q0a : Int) (hub : Nat) (tip : Nat) (q0k : Nat) (q0l : Nat) : List Nat := ((z4y q06 q09 q08 q0c q07 q0b q19 q0a hub tip q0k q0l).getD default).2.2.2.2.2.2.2.2.2.2.1
noncomputable def zey (q06 : Nat) (q09 : List Nat) (q08 : Nat) (q0c : List Nat) (q07 : Nat) (q0b : List Nat) (q19 : Int) (q0a : Int) (hub : Nat) (tip : Nat) (q0k : Nat) (q0l : Nat) : List Nat := ((z4y q06 q09 q08 q0c q07 q0b q19 q0a hub tip q0k q0l).getD default).2.2.2.2.2.2.2.2.2.2.2
theorem zog {q06 : Nat} {q09 : List Nat} {q08 : Nat} {q0c : List Nat} {q07 : Nat} {q0b : List Nat} {q19 : Int} {q0a : Int} {hub : Nat} {tip : Nat} {q0k : Nat} {q0l : Nat} {r : Nat × Nat × Nat × Nat × Int × Nat × Nat × Bool × (List Nat) × (List Nat) × (List Nat) × (List Nat)} (h : z4y q06 q09 q08 q0c q07 q0b q19 q0a hub tip q0k q0l = some r) : zi6 q06 q09 q08 q0c q07 q0b q19 q0a hub tip q0k q0l = true ∧ zgs q06 q09 q08 q0c q07 q0b q19 q0a hub tip q0k q0l = r.1 ∧ zg7 q06 q09 q08 q0c q07 q0b q19 q0a hub tip q0k q0l = r.2.1 ∧ zg9 q06 q09 q08 q0c q07 q0b q19 q0a hub tip q0k q0l = r.2.2.1 ∧ zgv q06 q09 q08 q0c q07 q0b q19 q0a hub tip q0k q0l = r.2.2.2.1 ∧ zgw q06 q09 q08 q0c q07 q0b q19 q0a hub tip q0k q0l = r.2.2.2.2.1 ∧ zgc q06 q09 q08 q0c q07 q0b q19 q0a hub tip q0k q0l = r.2.2.2.2.2.1 ∧ zgd q06 q09 q08 q0c q07 q0b q19 q0a hub tip q0k q0l = r.2.2.2.2.2.2.1 ∧ zgf q06 q09 q08 q0c q07 q0b q19 q0a hub tip q0k q0l = r.2.2.2.2.2.2.2.1 ∧ zgp q06 q09 q08 q0c q07 q0b q19 q0a hub tip q0k q0l = r.2.2.2.2.2.2.2.2.1 ∧ zgt q06 q09 q08 q0c q07 q0b q19 q0a hub tip q0k q0l = r.2.2.2.2.2.2.2.2.2.1 ∧ zf8 q06 q09 q08 q0c q07 q0b q19 q0a hub tip q0k q0l = r.2.2.2.2.2.2.2.2.2.2.1 ∧ zey q06 q09 q08 q0c q07 q0b q19 q0a hub tip q0k q0l = r.2.2.2.2.2.2.2.2.2.2.2 := by
  unfold zi6 zgs zg7 zg9 zgv zgw zgc zgd zgf zgp zgt zf8 zey
  rw [h]
  exact ⟨rfl, rfl, rfl, rfl, rfl, rfl, rfl, rfl, rfl, rfl, rfl, rfl, rfl⟩
noncomputable def z4k {R : Type} (an : Nat) (k : Int) (i : Int) (b10 : List Nat) (kn_ : Int → Int → (List Nat) → Option R) (k0_ : Int → Int → Bool → (List Nat) → Option R) : Option R := (br (ltI i (Int.ofNat an)) (grd (okIx i an) (kn_ (addI IntKind.i64 k 1) (addI IntKind.i64 i 1) (sF b10 (ixO 0 i 1) (fOI FloatKind.f32 k)))) (k0_ k i (ltI i (Int.ofNat an)) b10))
theorem zfj {R R' : Type} (o : Option R → Option R') (h0 : o none = none) (an : Nat) (k : Int) (i : Int) (b10 : List Nat) (kn_ : Int → Int → (List Nat) → Option R) (k0_ : Int → Int → Bool → (List Nat) → Option R) : z4k an k i b10 (fun k' i' b10' => o (kn_ k' i' b10')) (fun c0_ c1_ c2_ c3_ => o (k0_ c0_ c1_ c2_ c3_)) = o (z4k an k i b10 kn_ k0_) := by
  unfold z4k
  repeat (first | refine grd_out h0 ?_ | refine br_out ?_ ?_ | rfl | exact h0.symm)
noncomputable def z2z (an : Nat) : Nat → Int → Int → (List Nat) → Option ((Int × Int × Bool × (List Nat)))
  | 0, _, _, _ => none
  | n + 1, k, i, b10 => z4k an  k i b10  (fun k' i' b10' => z2z an n k' i' b10') (fun c0_ c1_ c2_ c3_ => some (c0_, c1_, c2_, c3_))
theorem zev (an : Nat) (n : Nat) (k : Int) (i : Int) (b10 : List Nat) : z2z an (n + 1) k i b10 = z4k an  k i b10  (fun k' i' b10' => z2z an n k' i' b10') (fun c0_ c1_ c2_ c3_ => some (c0_, c1_, c2_, c3_)) := rfl
noncomputable def z6v (an : Nat) (k : Int) (i : Int) (b10 : List Nat) : Bool := (z2z an big k i b10).isSome
noncomputable def z64 (an : Nat) (k : Int) (i : Int) (b10 : List Nat) : Int := ((z2z an big k i b10).getD default).1
noncomputable def z81 (an : Nat) (k : Int) (i : Int) (b10 : List Nat) : Int := ((z2z an big k i b10).getD default).2.1
noncomputable def z7z (an : Nat) (k : Int) (i : Int) (b10 : List Nat) : Bool := ((z2z an big k i b10).getD default).2.2.1
noncomputable def z7y (an : Nat) (k : Int) (i : Int) (b10 : List Nat) : List Nat := ((z2z an big k i b10).getD default).2.2.2
theorem zhk {an : Nat} {k : Int} {i : Int} {b10 : List Nat} {m : Nat} {r : Int × Int × Bool × (List Nat)} (hm : m = big) (h : z2z an m k i b10 = some r) : z6v an k i b10 = true ∧ z64 an k i b10 = r.1 ∧ z81 an k i b10 = r.2.1 ∧ z7z an k i b10 = r.2.2.1 ∧ z7y an k i b10 = r.2.2.2 := by
  subst hm
  unfold z6v z64 z81 z7z z7y
  rw [h]
  exact ⟨rfl, rfl, rfl, rfl, rfl⟩
noncomputable def z4g {R : Type} (an : Nat) (k : Int) (i : Int) (b11 : List Nat) (kn_ : Int → Int → (List Nat) → Option R) (k0_ : Int → Int → Bool → (List Nat) → Option R) : Option R := (br (ltI i (Int.ofNat an)) (grd (okIx i an) (kn_ (addI IntKind.i64 k 1) (addI IntKind.i64 i 1) (sF b11 (ixO 0 i 1) (fOI FloatKind.f32 k)))) (k0_ k i (ltI i (Int.ofNat an)) b11))
theorem zei {R R' : Type} (o : Option R → Option R') (h0 : o none = none) (an : Nat) (k : Int) (i : Int) (b11 : List Nat) (kn_ : Int → Int → (List Nat) → Option R) (k0_ : Int → Int → Bool → (List Nat) → Option R) : z4g an k i b11 (fun k' i' b11' => o (kn_ k' i' b11')) (fun c0_ c1_ c2_ c3_ => o (k0_ c0_ c1_ c2_ c3_)) = o (z4g an k i b11 kn_ k0_) := by
  unfold z4g
  repeat (first | refine grd_out h0 ?_ | refine br_out ?_ ?_ | rfl | exact h0.symm)
noncomputable def z2o (an : Nat) : Nat → Int → Int → (List Nat) → Option ((Int × Int × Bool × (List Nat)))
  | 0, _, _, _ => none
  | n + 1, k, i, b11 => z4g an  k i b11  (fun k' i' b11' => z2o an n k' i' b11') (fun c0_ c1_ c2_ c3_ => some (c0_, c1_, c2_, c3_))
theorem ze5 (an : Nat) (n : Nat) (k : Int) (i : Int) (b11 : List Nat) : z2o an (n + 1) k i b11 = z4g an  k i b11  (fun k' i' b11' => z2o an n k' i' b11') (fun c0_ c1_ c2_ c3_ => some (c0_, c1_, c2_, c3_)) := rfl
noncomputable def z6g (an : Nat) (k : Int) (i : Int) (b11 : List Nat) : Bool := (z2o an big k i b11).isSome
noncomputable def z5l (an : Nat) (k : Int) (i : Int) (b11 : List Nat) : Int := ((z2o an big k i b11).getD default).1
noncomputable def z7l (an : Nat) (k : Int) (i : Int) (b11 : List Nat) : Int := ((z2o an big k i b11).getD default).2.1
noncomputable def z7b (an : Nat) (k : Int) (i : Int) (b11 : List Nat) : Bool := ((z2o an big k i b11).getD default).2.2.1
noncomputable def z7h (an : Nat) (k : Int) (i : Int) (b11 : List Nat) : List Nat := ((z2o an big k i b11).getD default).2.2.2
theorem zfq {an : Nat} {k : Int} {i : Int} {b11 : List Nat} {m : Nat} {r : Int × Int × Bool × (List Nat)} (hm : m = big) (h : z2o an m k i b11 = some r) : z6g an k i b11 = true ∧ z5l an k i b11 = r.1 ∧ z7l an k i b11 = r.2.1 ∧ z7b an k i b11 = r.2.2.1 ∧ z7h an k i b11 = r.2.2.2 := by
  subst hm
  unfold z6g z5l z7l z7b z7h
  rw [h]
  exact ⟨rfl, rfl, rfl, rfl, rfl⟩
noncomputable def z4h {R : Type} (an : Nat) (k : Int) (i : Int) (b12 : List Nat) (kn_ : Int → Int → (List Nat) → Option R) (k0_ : Int → Int → Bool → (List Nat) → Option R) : Option R := (br (ltI i (Int.ofNat an)) (grd (okIx i an) (kn_ (addI IntKind.i64 k 1) (addI IntKind.i64 i 1) (sF b12 (ixO 0 i 1) (fOI FloatKind.f32 k)))) (k0_ k i (ltI i (Int.ofNat an)) b12))
theorem zek {R R' : Type} (o : Option R → Option R') (h0 : o none = none) (an : Nat) (k : Int) (i : Int) (b12 : List Nat) (kn_ : Int → Int → (List Nat) → Option R) (k0_ : Int → Int → Bool → (List Nat) → Option R) : z4h an k i b12 (fun k' i' b12' => o (kn_ k' i' b12')) (fun c0_ c1_ c2_ c3_ => o (k0_ c0_ c1_ c2_ c3_)) = o (z4h an k i b12 kn_ k0_) := by
  unfold z4h
  repeat (first | refine grd_out h0 ?_ | refine br_out ?_ ?_ | rfl | exact h0.symm)
noncomputable def z2p (an : Nat) : Nat → Int → Int → (List Nat) → Option ((Int × Int × Bool × (List Nat)))
  | 0, _, _, _ => none
  | n + 1, k, i, b12 => z4h an  k i b12  (fun k' i' b12' => z2p an n k' i' b12') (fun c0_ c1_ c2_ c3_ => some (c0_, c1_, c2_, c3_))
theorem ze6 (an : Nat) (n : Nat) (k : Int) (i : Int) (b12 : List Nat) : z2p an (n + 1) k i b12 = z4h an  k i b12  (fun k' i' b12' => z2p an n k' i' b12') (fun c0_ c1_ c2_ c3_ => some (c0_, c1_, c2_, c3_)) := rfl
noncomputable def z6j (an : Nat) (k : Int) (i : Int) (b12 : List Nat) : Bool := (z2p an big k i b12).isSome
noncomputable def z5n (an : Nat) (k : Int) (i : Int) (b12 : List Nat) : Int := ((z2p an big k i b12).getD default).1
noncomputable def z7d (an : Nat) (k : Int) (i : Int) (b12 : List Nat) : Int := ((z2p an big k i b12).getD default).2.1
noncomputable def z7k (an : Nat) (k : Int) (i : Int) (b12 : List Nat) : Bool := ((z2p an big k i b12).getD default).2.2.1
noncomputable def z7c (an : Nat) (k : Int) (i : Int) (b12 : List Nat) : List Nat := ((z2p an big k i b12).getD default).2.2.2
theorem zfl {an : Nat} {k : Int} {i : Int} {b12 : List Nat} {m : Nat} {r : Int × Int × Bool × (List Nat)} (hm : m = big) (h : z2p an m k i b12 = some r) : z6j an k i b12 = true ∧ z5n an k i b12 = r.1 ∧ z7d an k i b12 = r.2.1 ∧ z7k an k i b12 = r.2.2.1 ∧ z7c an k i b12 = r.2.2.2 := by
  subst hm
  unfold z6j z5n z7d z7k z7c
  rw [h]
  exact ⟨rfl, rfl, rfl, rfl, rfl⟩
noncomputable def z4i {R : Type} (an : Nat) (k : Int) (i : Int) (b10 : List Nat) (kn_ : Int → Int → (List Nat) → Option R) (k0_ : Int → Int → Bool → (List Nat) → Option R) : Option R := (br (ltI i (Int.ofNat an)) (grd (okIx i an) (kn_ (addI IntKind.i64 k 1) (addI IntKind.i64 i 1) (sF b10 (ixO 0 i 1) (fOI FloatKind.f32 k)))) (k0_ k i (ltI i (Int.ofNat an)) b10))
theorem zeh {R R' : Type} (o : Option R → Option R') (h0 : o none = none) (an : Nat) (k : Int) (i : Int) (b10 : List Nat) (kn_ : Int → Int → (List Nat) → Option R) (k0_ : Int → Int → Bool → (List Nat) → Option R) : z4i an k i b10 (fun k' i' b10' => o (kn_ k' i' b10')) (fun c0_ c1_ c2_ c3_ => o (k0_ c0_ c1_ c2_ c3_)) = o (z4i an k i b10 kn_ k0_) := by
  unfold z4i
  repeat (first | refine grd_out h0 ?_ | refine br_out ?_ ?_ | rfl | exact h0.symm)
noncomputable def z2n (an : Nat) : Nat → Int → Int → (List Nat) → Option ((Int × Int × Bool × (List Nat)))
  | 0, _, _, _ => none
  | n + 1, k, i, b10 => z4i an  k i b10  (fun k' i' b10' => z2n an n k' i' b10') (fun c0_ c1_ c2_ c3_ => some (c0_, c1_, c2_, c3_))
theorem ze8 (an : Nat) (n : Nat) (k : Int) (i : Int) (b10 : List Nat) : z2n an (n + 1) k i b10 = z4i an  k i b10  (fun k' i' b10' => z2n an n k' i' b10') (fun c0_ c1_ c2_ c3_ => some (c0_, c1_, c2_, c3_)) := rfl
noncomputable def z69 (an : Nat) (k : Int) (i : Int) (b10 : List Nat) : Bool := (z2n an big k i b10).isSome
noncomputable def z5p (an : Nat) (k : Int) (i : Int) (b10 : List Nat) : Int := ((z2n an big k i b10).getD default).1
noncomputable def z7j (an : Nat) (k : Int) (i : Int) (b10 : List Nat) : Int := ((z2n an big k i b10).getD default).2.1
noncomputable def z79 (an : Nat) (k : Int) (i : Int) (b10 : List Nat) : Bool := ((z2n an big k i b10).getD default).2.2.1
noncomputable def z5q (an : Nat) (k : Int) (i : Int) (b10 : List Nat) : List Nat := ((z2n an big k i b10).getD default).2.2.2
theorem zfk {an : Nat} {k : Int} {i : Int} {b10 : List Nat} {m : Nat} {r : Int × Int × Bool × (List Nat)} (hm : m = big) (h : z2n an m k i b10 = some r) : z69 an k i b10 = true ∧ z5p an k i b10 = r.1 ∧ z7j an k i b10 = r.2.1 ∧ z79 an k i b10 = r.2.2.1 ∧ z5q an k i b10 = r.2.2.2 := by
  subst hm
  unfold z69 z5p z7j z79 z5q
  rw [h]
  exact ⟨rfl, rfl, rfl, rfl, rfl⟩
noncomputable def z4c {R : Type} (an : Nat) (k : Int) (i : Int) (b11 : List Nat) (kn_ : Int → Int → (List Nat) → Option R) (k0_ : Int → Int → Bool → (List Nat) → Option R) : Option R := (br (ltI i (Int.ofNat an)) (grd (okIx i an) (kn_ (addI IntKind.i64 k 1) (addI IntKind.i64 i 1) (sF b11 (ixO 0 i 1) (fOI FloatKind.f32 k)))) (k0_ k i (ltI i (Int.ofNat an)) b11))
theorem zer {R R' : Type} (o : Option R → Option R') (h0 : o none = none) (an : Nat) (k : Int) (i : Int) (b11 : List Nat) (kn_ : Int → Int → (List Nat) → Option R) (k0_ : Int → Int → Bool → (List Nat) → Option R) : z4c an k i b11 (fun k' i' b11' => o (kn_ k' i' b11')) (fun c0_ c1_ c2_ c3_ => o (k0_ c0_ c1_ c2_ c3_)) = o (z4c an k i b11 kn_ k0_) := by
  unfold z4c
  repeat (first | refine grd_out h0 ?_ | refine br_out ?_ ?_ | rfl | exact h0.symm)
noncomputable def z2m (an : Nat) : Nat → Int → Int → (List Nat) → Option ((Int × Int × Bool × (List Nat)))
  | 0, _, _, _ => none
  | n + 1, k, i, b11 => z4c an  k i b11  (fun k' i' b11' => z2m an n k' i' b11') (fun c0_ c1_ c2_ c3_ => some (c0_, c1_, c2_, c3_))
theorem ze7 (an : Nat) (n : Nat) (k : Int) (i : Int) (b11 : List Nat) : z2m an (n + 1) k i b11 = z4c an  k i b11  (fun k' i' b11' => z2m an n k' i' b11') (fun c0_ c1_ c2_ c3_ => some (c0_, c1_, c2_, c3_)) := rfl
noncomputable def z6e (an : Nat) (k : Int) (i : Int) (b11 : List Nat) : Bool := (z2m an big k i b11).isSome
noncomputable def z5r (an : Nat) (k : Int) (i : Int) (b11 : List Nat) : Int := ((z2m an big k i b11).getD default).1
noncomputable def z7e (an : Nat) (k : Int) (i : Int) (b11 : List Nat) : Int := ((z2m an big k i b11).getD default).2.1
noncomputable def z7g (an : Nat) (k : Int) (i : Int) (b11 : List Nat) : Bool := ((z2m an big k i b11).getD default).2.2.1
noncomputable def z5m (an : Nat) (k : Int) (i : Int) (b11 : List Nat) : List Nat := ((z2m an big k i b11).getD default).2.2.2
theorem zfi {an : Nat} {k : Int} {i : Int} {b11 : List Nat} {m : Nat} {r : Int × Int × Bool × (List Nat)} (hm : m = big) (h : z2m an m k i b11 = some r) : z6e an k i b11 = true ∧ z5r an k i b11 = r.1 ∧ z7e an k i b11 = r.2.1 ∧ z7g an k i b11 = r.2.2.1 ∧ z5m an k i b11 = r.2.2.2 := by
  subst hm
  unfold z6e z5r z7e z7g z5m
  rw [h]
  exact ⟨rfl, rfl, rfl, rfl, rfl⟩
noncomputable def z4f {R : Type} (an : Nat) (k : Int) (i : Int) (b12 : List Nat) (kn_ : Int → Int → (List Nat) → Option R) (k0_ : Int → Int → Bool → (List Nat) → Option R) : Option R := (br (ltI i (Int.ofNat an)) (grd (okIx i an) (kn_ (addI IntKind.i64 k 1) (addI IntKind.i64 i 1) (sF b12 (ixO 0 i 1) (fOI FloatKind.f32 k)))) (k0_ k i (ltI i (Int.ofNat an)) b12))
theorem ze9 {R R' : Type} (o : Option R → Option R') (h0 : o none = none) (an : Nat) (k : Int) (i : Int) (b12 : List Nat) (kn_ : Int → Int → (List Nat) → Option R) (k0_ : Int → Int → Bool → (List Nat) → Option R) : z4f an k i b12 (fun k' i' b12' => o (kn_ k' i' b12')) (fun c0_ c1_ c2_ c3_ => o (k0_ c0_ c1_ c2_ c3_)) = o (z4f an k i b12 kn_ k0_) := by
  unfold z4f
  repeat (first | refine grd_out h0 ?_ | refine br_out ?_ ?_ | rfl | exact h0.symm)
noncomputable def z2l (an : Nat) : Nat → Int → Int → (List Nat) → Option ((Int × Int × Bool × (List Nat)))
  | 0, _, _, _ => none
  | n + 1, k, i, b12 => z4f an  k i b12  (fun k' i' b12' => z2l an n k' i' b12') (fun c0_ c1_ c2_ c3_ => some (c0_, c1_, c2_, c3_))
theorem ze4 (an : Nat) (n : Nat) (k : Int) (i : Int) (b12 : List Nat) : z2l an (n + 1) k i b12 = z4f an  k i b12  (fun k' i' b12' => z2l an n k' i' b12') (fun c0_ c1_ c2_ c3_ => some (c0_, c1_, c2_, c3_)) := rfl
noncomputable def z6h (an : Nat) (k : Int) (i : Int) (b12 : List Nat) : Bool := (z2l an big k i b12).isSome
noncomputable def z5s (an : Nat) (k : Int) (i : Int) (b12 : List Nat) : Int := ((z2l an big k i b12).getD default).1
noncomputable def z7a (an : Nat) (k : Int) (i : Int) (b12 : List Nat) : Int := ((z2l an big k i b12).getD default).2.1
noncomputable def z7f (an : Nat) (k : Int) (i : Int) (b12 : List Nat) : Bool := ((z2l an big k i b12).getD default).2.2.1
noncomputable def z5u (an : Nat) (k : Int) (i : Int) (b12 : List Nat) : List Nat := ((z2l an big k i b12).getD default).2.2.2
theorem zfh {an : Nat} {k : Int} {i : Int} {b12 : List Nat} {m : Nat} {r : Int × Int × Bool × (List Nat)} (hm : m = big) (h : z2l an m k i b12 = some r) : z6h an k i b12 = true ∧ z5s an k i b12 = r.1 ∧ z7a an k i b12 = r.2.1 ∧ z7f an k i b12 = r.2.2.1 ∧ z5u an k i b12 = r.2.2.2 := by
  subst hm
  unfold z6h z5s z7a z7f z5u
  rw [h]
  exact ⟨rfl, rfl, rfl, rfl, rfl⟩
noncomputable def z43 {R : Type} (an : Nat) (k : Int) (i : Int) (b13 : List Nat) (kn_ : Int → Int → (List Nat) → Option R) (k0_ : Int → Int → Bool → (List Nat) → Option R) : Option R := (br (ltI i (Int.ofNat an)) (grd (okIx i an) (grd (okIx i an) (grd (okIx i an) (kn_ (addI IntKind.i64 (addI IntKind.i64 (addI IntKind.i64 k 1) 1) 1) (addI IntKind.i64 i 1) (sF (sF (sF b13 (ixO 0 i 3) (fOI FloatKind.f32 k)) (Nat.succ (ixO 0 i 3)) (fOI FloatKind.f32 (addI IntKind.i64 k 1))) (Nat.succ (Nat.succ (ixO 0 i 3))) (fOI FloatKind.f32 (addI IntKind.i64 (addI IntKind.i64 k 1) 1))))))) (k0_ k i (ltI i (Int.ofNat an)) b13))
theorem zfo {R R' : Type} (o : Option R → Option R') (h0 : o none = none) (an : Nat) (k : Int) (i : Int) (b13 : List Nat) (kn_ : Int → Int → (List Nat) → Option R) (k0_ : Int → Int → Bool → (List Nat) → Option R) : z43 an k i b13 (fun k' i' b13' => o (kn_ k' i' b13')) (fun c0_ c1_ c2_ c3_ => o (k0_ c0_ c1_ c2_ c3_)) = o (z43 an k i b13 kn_ k0_) := by
  unfold z43
  repeat (first | refine grd_out h0 ?_ | refine br_out ?_ ?_ | rfl | exact h0.symm)
noncomputable def z2y (an : Nat) : Nat → Int → Int → (List Nat) → Option ((Int × Int × Bool × (List Nat)))
  | 0, _, _, _ => none
  | n + 1, k, i, b13 => z43 an  k i b13  (fun k' i' b13' => z2y an n k' i' b13') (fun c0_ c1_ c2_ c3_ => some (c0_, c1_, c2_, c3_))
theorem z9g (an : Nat) (n : Nat) (k : Int) (i : Int) (b13 : List Nat) : z2y an (n + 1) k i b13 = z43 an  k i b13  (fun k' i' b13' => z2y an n k' i' b13') (fun c0_ c1_ c2_ c3_ => some (c0_, c1_, c2_, c3_)) := rfl
noncomputable def z6o (an : Nat) (k : Int) (i : Int) (b13 : List Nat) : Bool := (z2y an big k i b13).isSome
noncomputable def z61 (an : Nat) (k : Int) (i : Int) (b13 : List Nat) : Int := ((z2y an big k i b13).getD default).1
noncomputable def z7x (an : Nat) (k : Int) (i : Int) (b13 : List Nat) : Int := ((z2y an big k i b13).getD default).2.1
noncomputable def z80 (an : Nat) (k : Int) (i : Int) (b13 : List Nat) : Bool := ((z2y an big k i b13).getD default).2.2.1
noncomputable def z65 (an : Nat) (k : Int) (i : Int) (b13 : List Nat) : List Nat := ((z2y an big k i b13).getD default).2.2.2
theorem zhi {an : Nat} {k : Int} {i : Int} {b13 : List Nat} {m : Nat} {r : Int × Int × Bool × (List Nat)} (hm : m = big) (h : z2y an m k i b13 = some r) : z6o an k i b13 = true ∧ z61 an k i b13 = r.1 ∧ z7x an k i b13 = r.2.1 ∧ z80 an k i b13 = r.2.2.1 ∧ z65 an k i b13 = r.2.2.2 := by
  subst hm
  unfold z6o z61 z7x z80 z65
  rw [h]
  exact ⟨rfl, rfl, rfl, rfl, rfl⟩
noncomputable def z0p (q00 : Nat) (q03 : List Nat) (q02 : Nat) (q04 : List Nat) (q01 : Nat) (q05 : List Nat) (x1 : Int) (x2 : Int) (x3 : Nat) (x4 : Nat) (x5 : Nat) (x6 : Nat) := (zd6 q00 (pF q03 0 (muN q00 1)) q02 (pF q04 0 (muN q02 1)) q01 (pF q05 0 (muN q01 1)))
noncomputable def z90 (q00 : Nat) (q03 : List Nat) (q02 : Nat) (q04 : List Nat) (q01 : Nat) (q05 : List Nat) (x1 : Int) (x2 : Int) (x3 : Nat) (x4 : Nat) (x5 : Nat) (x6 : Nat) := (zd3 q00 (pF q03 0 (muN q00 1)) q02 (pF q04 0 (muN q02 1)) q01 (pF q05 0 (muN q01 1)))
noncomputable def z0o (q00 : Nat) (q03 : List Nat) (q02 : Nat) (q04 : List Nat) (q01 : Nat) (q05 : List Nat) (x1 : Int) (x2 : Int) (x3 : Nat) (x4 : Nat) (x5 : Nat) (x6 : Nat) := (zd5 q00 (pF q03 0 (muN q00 1)) q02 (pF q04 0 (muN q02 1)) q01 (pF q05 0 (muN q01 1)))
noncomputable def z93 (q00 : Nat) (q03 : List Nat) (q02 : Nat) (q04 : List Nat) (q01 : Nat) (q05 : List Nat) (x1 : Int) (x2 : Int) (x3 : Nat) (x4 : Nat) (x5 : Nat) (x6 : Nat) := (zd1 q00 (pF q03 0 (muN q00 1)) q02 (pF q04 0 (muN q02 1)) q01 (pF q05 0 (muN q01 1)))
noncomputable def z0n (q00 : Nat) (q03 : List Nat) (q02 : Nat) (q04 : List Nat) (q01 : Nat) (q05 : List Nat) (x1 : Int) (x2 : Int) (x3 : Nat) (x4 : Nat) (x5 : Nat) (x6 : Nat) := (zd0 q00 (pF q03 0 (muN q00 1)) q02 (pF q04 0 (muN q02 1)) q01 (pF q05 0 (muN q01 1)))
noncomputable def z95 (q00 : Nat) (q03 : List Nat) (q02 : Nat) (q04 : List Nat) (q01 : Nat) (q05 : List Nat) (x1 : Int) (x2 : Int) (x3 : Nat) (x4 : Nat) (x5 : Nat) (x6 : Nat) := (zd4 q00 (pF q03 0 (muN q00 1)) q02 (pF q04 0 (muN q02 1)) q01 (pF q05 0 (muN q01 1)))
noncomputable def z88 (q00 : Nat) (q03 : List Nat) (q02 : Nat) (q04 : List Nat) (q01 : Nat) (q05 : List Nat) (x1 : Int) (x2 : Int) (x3 : Nat) (x4 : Nat) (x5 : Nat) (x6 : Nat) := (zdw q00 (pF q03 0 (muN q00 1)) q02 (pF q04 0 (muN q02 1)) q01 (pF q05 0 (muN q01 1)))
noncomputable def zbd (q00 : Nat) (q03 : List Nat) (q02 : Nat) (q04 : List Nat) (q01 : Nat) (q05 : List Nat) (x1 : Int) (x2 : Int) (x3 : Nat) (x4 : Nat) (x5 : Nat) (x6 : Nat) := (z64 (z0p q00 q03 q02 q04 q01 q05 x1 x2 x3 x4 x5 x6) 1 0 (z95 q00 q03 q02 q04 q01 q05 x1 x2 x3 x4 x5 x6))
noncomputable def z0w (q00 : Nat) (q03 : List Nat) (q02 : Nat) (q04 : List Nat) (q01 : Nat) (q05 : List Nat) (x1 : Int) (x2 : Int) (x3 : Nat) (x4 : Nat) (x5 : Nat) (x6 : Nat) := (pF (z90 q00 q03 q02 q04 q01 q05 x1 x2 x3 x4 x5 x6) 0 (muN (z0o q00 q03 q02 q04 q01 q05 x1 x2 x3 x4 x5 x6) 1))
noncomputable def z0u (q00 : Nat) (q03 : List Nat) (q02 : Nat) (q04 : List Nat) (q01 : Nat) (q05 : List Nat) (x1 : Int) (x2 : Int) (x3 : Nat) (x4 : Nat) (x5 : Nat) (x6 : Nat) := (pF (z93 q00 q03 q02 q04 q01 q05 x1 x2 x3 x4 x5 x6) 0 (muN (z0n q00 q03 q02 q04 q01 q05 x1 x2 x3 x4 x5 x6) 1))
noncomputable def z0r (q00 : Nat) (q03 : List Nat) (q02 : Nat) (q04 : List Nat) (q01 : Nat) (q05 : List Nat) (x1 : Int) (x2 : Int) (x3 : Nat) (x4 : Nat) (x5 : Nat) (x6 : Nat) := (pF (z95 q00 q03 q02 q04 q01 q05 x1 x2 x3 x4 x5 x6) 0 (muN (z0p q00 q03 q02 q04 q01 q05 x1 x2 x3 x4 x5 x6) 1))
noncomputable def zb9 (q00 : Nat) (q03 : List Nat) (q02 : Nat) (q04 : List Nat) (q01 : Nat) (q05 : List Nat) (x1 : Int) (x2 : Int) (x3 : Nat) (x4 : Nat) (x5 : Nat) (x6 : Nat) := (z5l (z0n q00 q03 q02 q04 q01 q05 x1 x2 x3 x4 x5 x6) (zbd q00 q03 q02 q04 q01 q05 x1 x2 x3 x4 x5 x6) 0 (z93 q00 q03 q02 q04 q01 q05 x1 x2 x3 x4 x5 x6))
noncomputable def z57 (q00 : Nat) (q03 : List Nat) (q02 : Nat) (q04 : List Nat) (q01 : Nat) (q05 : List Nat) (x1 : Int) (x2 : Int) (x3 : Nat) (x4 : Nat) (x5 : Nat) (x6 : Nat) := (zgv (z0p q00 q03 q02 q04 q01 q05 x1 x2 x3 x4 x5 x6) (z0r q00 q03 q02 q04 q01 q05 x1 x2 x3 x4 x5 x6) (z0n q00 q03 q02 q04 q01 q05 x1 x2 x3 x4 x5 x6) (z0u q00 q03 q02 q04 q01 q05 x1 x2 x3 x4 x5 x6) (z0o q00 q03 q02 q04 q01 q05 x1 x2 x3 x4 x5 x6) (z0w q00 q03 q02 q04 q01 q05 x1 x2 x3 x4 x5 x6) x1 x2 x3 x4 x5 x6)
noncomputable def z8p (q00 : Nat) (q03 : List Nat) (q02 : Nat) (q04 : List Nat) (q01 : Nat) (q05 : List Nat) (x1 : Int) (x2 : Int) (x3 : Nat) (x4 : Nat) (x5 : Nat) (x6 : Nat) := (zgg (z0p q00 q03 q02 q04 q01 q05 x1 x2 x3 x4 x5 x6) (z0r q00 q03 q02 q04 q01 q05 x1 x2 x3 x4 x5 x6) (z0n q00 q03 q02 q04 q01 q05 x1 x2 x3 x4 x5 x6) (z0u q00 q03 q02 q04 q01 q05 x1 x2 x3 x4 x5 x6) (z0o q00 q03 q02 q04 q01 q05 x1 x2 x3 x4 x5 x6) (z0w q00 q03 q02 q04 q01 q05 x1 x2 x3 x4 x5 x6) x1 x2 x3 x4 x5 x6)
noncomputable def zb4 (q00 : Nat) (q03 : List Nat) (q02 : Nat) (q04 : List Nat) (q01 : Nat) (q05 : List Nat) (x1 : Int) (x2 : Int) (x3 : Nat) (x4 : Nat) (x5 : Nat) (x6 : Nat) := (zi6 (z0p q00 q03 q02 q04 q01 q05 x1 x2 x3 x4 x5 x6) (z0r q00 q03 q02 q04 q01 q05 x1 x2 x3 x4 x5 x6) (z0n q00 q03 q02 q04 q01 q05 x1 x2 x3 x4 x5 x6) (z0u q00 q03 q02 q04 q01 q05 x1 x2 x3 x4 x5 x6) (z0o q00 q03 q02 q04 q01 q05 x1 x2 x3 x4 x5 x6) (z0w q00 q03 q02 q04 q01 q05 x1 x2 x3 x4 x5 x6) x1 x2 x3 x4 x5 x6)
noncomputable def z7t (q00 : Nat) (q03 : List Nat) (q02 : Nat) (q04 : List Nat) (q01 : Nat) (q05 : List Nat) (x1 : Int) (x2 : Int) (x3 : Nat) (x4 : Nat) (x5 : Nat) (x6 : Nat) := (zgw (z0p q00 q03 q02 q04 q01 q05 x1 x2 x3 x4 x5 x6) (z0r q00 q03 q02 q04 q01 q05 x1 x2 x3 x4 x5 x6) (z0n q00 q03 q02 q04 q01 q05 x1 x2 x3 x4 x5 x6) (z0u q00 q03 q02 q04 q01 q05 x1 x2 x3 x4 x5 x6) (z0o q00 q03 q02 q04 q01 q05 x1 x2 x3 x4 x5 x6) (z0w q00 q03 q02 q04 q01 q05 x1 x2 x3 x4 x5 x6) x1 x2 x3 x4 x5 x6)
noncomputable def z8u (q00 : Nat) (q03 : List Nat) (q02 : Nat) (q04 : List Nat) (q01 : Nat) (q05 : List Nat) (x1 : Int) (x2 : Int) (x3 : Nat) (x4 : Nat) (x5 : Nat) (x6 : Nat) := (zgn (z0p q00 q03 q02 q04 q01 q05 x1 x2 x3 x4 x5 x6) (z0r q00 q03 q02 q04 q01 q05 x1 x2 x3 x4 x5 x6) (z0n q00 q03 q02 q04 q01 q05 x1 x2 x3 x4 x5 x6) (z0u q00 q03 q02 q04 q01 q05 x1 x2 x3 x4 x5 x6) (z0o q00 q03 q02 q04 q01 q05 x1 x2 x3 x4 x5 x6) (z0w q00 q03 q02 q04 q01 q05 x1 x2 x3 x4 x5 x6) x1 x2 x3 x4 x5 x6)
noncomputable def z7u (q00 : Nat) (q03 : List Nat) (q02 : Nat) (q04 : List Nat) (q01 : Nat) (q05 : List Nat) (x1 : Int) (x2 : Int) (x3 : Nat) (x4 : Nat) (x5 : Nat) (x6 : Nat) := (zgd (z0p q00 q03 q02 q04 q01 q05 x1 x2 x3 x4 x5 x6) (z0r q00 q03 q02 q04 q01 q05 x1 x2 x3 x4 x5 x6) (z0n q00 q03 q02 q04 q01 q05 x1 x2 x3 x4 x5 x6) (z0u q00 q03 q02 q04 q01 q05 x1 x2 x3 x4 x5 x6) (z0o q00 q03 q02 q04 q01 q05 x1 x2 x3 x4 x5 x6) (z0w q00 q03 q02 q04 q01 q05 x1 x2 x3 x4 x5 x6) x1 x2 x3 x4 x5 x6)
noncomputable def z7v (q00 : Nat) (q03 : List Nat) (q02 : Nat) (q04 : List Nat) (q01 : Nat) (q05 : List Nat) (x1 : Int) (x2 : Int) (x3 : Nat) (x4 : Nat) (x5 : Nat) (x6 : Nat) := (zgt (z0p q00 q03 q02 q04 q01 q05 x1 x2 x3 x4 x5 x6) (z0r q00 q03 q02 q04 q01 q05 x1 x2 x3 x4 x5 x6) (z0n q00 q03 q02 q04 q01 q05 x1 x2 x3 x4 x5 x6) (z0u q00 q03 q02 q04 q01 q05 x1 x2 x3 x4 x5 x6) (z0o q00 q03 q02 q04 q01 q05 x1 x2 x3 x4 x5 x6) (z0w q00 q03 q02 q04 q01 q05 x1 x2 x3 x4 x5 x6) x1 x2 x3 x4 x5 x6)
noncomputable def zan (q00 : Nat) (q03 : List Nat) (q02 : Nat) (q04 : List Nat) (q01 : Nat) (q05 : List Nat) (x1 : Int) (x2 : Int) (x3 : Nat) (x4 : Nat) (x5 : Nat) (x6 : Nat) := (zgb (z0p q00 q03 q02 q04 q01 q05 x1 x2 x3 x4 x5 x6) (z0r q00 q03 q02 q04 q01 q05 x1 x2 x3 x4 x5 x6) (z0n q00 q03 q02 q04 q01 q05 x1 x2 x3 x4 x5 x6) (z0u q00 q03 q02 q04 q01 q05 x1 x2 x3 x4 x5 x6) (z0o q00 q03 q02 q04 q01 q05 x1 x2 x3 x4 x5 x6) (z0w q00 q03 q02 q04 q01 q05 x1 x2 x3 x4 x5 x6) x1 x2 x3 x4 x5 x6)
noncomputable def z7r (q00 : Nat) (q03 : List Nat) (q02 : Nat) (q04 : List Nat) (q01 : Nat) (q05 : List Nat) (x1 : Int) (x2 : Int) (x3 : Nat) (x4 : Nat) (x5 : Nat) (x6 : Nat) := (zf8 (z0p q00 q03 q02 q04 q01 q05 x1 x2 x3 x4 x5 x6) (z0r q00 q03 q02 q04 q01 q05 x1 x2 x3 x4 x5 x6) (z0n q00 q03 q02 q04 q01 q05 x1 x2 x3 x4 x5 x6) (z0u q00 q03 q02 q04 q01 q05 x1 x2 x3 x4 x5 x6) (z0o q00 q03 q02 q04 q01 q05 x1 x2 x3 x4 x5 x6) (z0w q00 q03 q02 q04 q01 q05 x1 x2 x3 x4 x5 x6) x1 x2 x3 x4 x5 x6)
noncomputable def zb2 (q00 : Nat) (q03 : List Nat) (q02 : Nat) (q04 : List Nat) (q01 : Nat) (q05 : List Nat) (x1 : Int) (x2 : Int) (x3 : Nat) (x4 : Nat) (x5 : Nat) (x6 : Nat) := (zgr (z0p q00 q03 q02 q04 q01 q05 x1 x2 x3 x4 x5 x6) (z0r q00 q03 q02 q04 q01 q05 x1 x2 x3 x4 x5 x6) (z0n q00 q03 q02 q04 q01 q05 x1 x2 x3 x4 x5 x6) (z0u q00 q03 q02 q04 q01 q05 x1 x2 x3 x4 x5 x6) (z0o q00 q03 q02 q04 q01 q05 x1 x2 x3 x4 x5 x6) (z0w q00 q03 q02 q04 q01 q05 x1 x2 x3 x4 x5 x6) x1 x2 x3 x4 x5 x6)
noncomputable def z7w (q00 : Nat) (q03 : List Nat) (q02 : Nat) (q04 : List Nat) (q01 : Nat) (q05 : List Nat) (x1 : Int) (x2 : Int) (x3 : Nat) (x4 : Nat) (x5 : Nat) (x6 : Nat) := (zgp (z0p q00 q03 q02 q04 q01 q05 x1 x2 x3 x4 x5 x6) (z0r q00 q03 q02 q04 q01 q05 x1 x2 x3 x4 x5 x6) (z0n q00 q03 q02 q04 q01 q05 x1 x2 x3 x4 x5 x6) (z0u q00 q03 q02 q04 q01 q05 x1 x2 x3 x4 x5 x6) (z0o q00 q03 q02 q04 q01 q05 x1 x2 x3 x4 x5 x6) (z0w q00 q03 q02 q04 q01 q05 x1 x2 x3 x4 x5 x6) x1 x2 x3 x4 x5 x6)
noncomputable def z7s (q00 : Nat) (q03 : List Nat) (q02 : Nat) (q04 : List Nat) (q01 : Nat) (q05 : List Nat) (x1 : Int) (x2 : Int) (x3 : Nat) (x4 : Nat) (x5 : Nat) (x6 : Nat) := (zey (z0p q00 q03 q02 q04 q01 q05 x1 x2 x3 x4 x5 x6) (z0r q00 q03 q02 q04 q01 q05 x1 x2 x3 x4 x5 x6) (z0n q00 q03 q02 q04 q01 q05 x1 x2 x3 x4 x5 x6) (z0u q00 q03 q02 q04 q01 q05 x1 x2 x3 x4 x5 x6) (z0o q00 q03 q02 q04 q01 q05 x1 x2 x3 x4 x5 x6) (z0w q00 q03 q02 q04 q01 q05 x1 x2 x3 x4 x5 x6) x1 x2 x3 x4 x5 x6)
noncomputable def z7q (q00 : Nat) (q03 : List Nat) (q02 : Nat) (q04 : List Nat) (q01 : Nat) (q05 : List Nat) (x1 : Int) (x2 : Int) (x3 : Nat) (x4 : Nat) (x5 : Nat) (x6 : Nat) := (zgc (z0p q00 q03 q02 q04 q01 q05 x1 x2 x3 x4 x5 x6) (z0r q00 q03 q02 q04 q01 q05 x1 x2 x3 x4 x5 x6) (z0n q00 q03 q02 q04 q01 q05 x1 x2 x3 x4 x5 x6) (z0u q00 q03 q02 q04 q01 q05 x1 x2 x3 x4 x5 x6) (z0o q00 q03 q02 q04 q01 q05 x1 x2 x3 x4 x5 x6) (z0w q00 q03 q02 q04 q01 q05 x1 x2 x3 x4 x5 x6) x1 x2 x3 x4 x5 x6)
noncomputable def z54 (q00 : Nat) (q03 : List Nat) (q02 : Nat) (q04 : List Nat) (q01 : Nat) (q05 : List Nat) (x1 : Int) (x2 : Int) (x3 : Nat) (x4 : Nat) (x5 : Nat) (x6 : Nat) := (zgs (z0p q00 q03 q02 q04 q01 q05 x1 x2 x3 x4 x5 x6) (z0r q00 q03 q02 q04 q01 q05 x1 x2 x3 x4 x5 x6) (z0n q00 q03 q02 q04 q01 q05 x1 x2 x3 x4 x5 x6) (z0u q00 q03 q02 q04 q01 q05 x1 x2 x3 x4 x5 x6) (z0o q00 q03 q02 q04 q01 q05 x1 x2 x3 x4 x5 x6) (z0w q00 q03 q02 q04 q01 q05 x1 x2 x3 x4 x5 x6) x1 x2 x3 x4 x5 x6)
noncomputable def z8n (q00 : Nat) (q03 : List Nat) (q02 : Nat) (q04 : List Nat) (q01 : Nat) (q05 : List Nat) (x1 : Int) (x2 : Int) (x3 : Nat) (x4 : Nat) (x5 : Nat) (x6 : Nat) := (zgj (z0p q00 q03 q02 q04 q01 q05 x1 x2 x3 x4 x5 x6) (z0r q00 q03 q02 q04 q01 q05 x1 x2 x3 x4 x5 x6) (z0n q00 q03 q02 q04 q01 q05 x1 x2 x3 x4 x5 x6) (z0u q00 q03 q02 q04 q01 q05 x1 x2 x3 x4 x5 x6) (z0o q00 q03 q02 q04 q01 q05 x1 x2 x3 x4 x5 x6) (z0w q00 q03 q02 q04 q01 q05 x1 x2 x3 x4 x5 x6) x1 x2 x3 x4 x5 x6)
noncomputable def z56 (q00 : Nat) (q03 : List Nat) (q02 : Nat) (q04 : List Nat) (q01 : Nat) (q05 : List Nat) (x1 : Int) (x2 : Int) (x3 : Nat) (x4 : Nat) (x5 : Nat) (x6 : Nat) := (zg9 (z0p q00 q03 q02 q04 q01 q05 x1 x2 x3 x4 x5 x6) (z0r q00 q03 q02 q04 q01 q05 x1 x2 x3 x4 x5 x6) (z0n q00 q03 q02 q04 q01 q05 x1 x2 x3 x4 x5 x6) (z0u q00 q03 q02 q04 q01 q05 x1 x2 x3 x4 x5 x6) (z0o q00 q03 q02 q04 q01 q05 x1 x2 x3 x4 x5 x6) (z0w q00 q03 q02 q04 q01 q05 x1 x2 x3 x4 x5 x6) x1 x2 x3 x4 x5 x6)
noncomputable def zb5 (q00 : Nat) (q03 : List Nat) (q02 : Nat) (q04 : List Nat) (q01 : Nat) (q05 : List Nat) (x1 : Int) (x2 : Int) (x3 : Nat) (x4 : Nat) (x5 : Nat) (x6 : Nat) := (zgq (z0p q00 q03 q02 q04 q01 q05 x1 x2 x3 x4 x5 x6) (z0r q00 q03 q02 q04 q01 q05 x1 x2 x3 x4 x5 x6) (z0n q00 q03 q02 q04 q01 q05 x1 x2 x3 x4 x5 x6) (z0u q00 q03 q02 q04 q01 q05 x1 x2 x3 x4 x5 x6) (z0o q00 q03 q02 q04 q01 q05 x1 x2 x3 x4 x5 x6) (z0w q00 q03 q02 q04 q01 q05 x1 x2 x3 x4 x5 x6) x1 x2 x3 x4 x5 x6)
noncomputable def z55 (q00 : Nat) (q03 : List Nat) (q02 : Nat) (q04 : List Nat) (q01 : Nat) (q05 : List Nat) (x1 : Int) (x2 : Int) (x3 : Nat) (x4 : Nat) (x5 : Nat) (x6 : Nat) := (zg7 (z0p q00 q03 q02 q04 q01 q05 x1 x2 x3 x4 x5 x6) (z0r q00 q03 q02 q04 q01 q05 x1 x2 x3 x4 x5 x6) (z0n q00 q03 q02 q04 q01 q05 x1 x2 x3 x4 x5 x6) (z0u q00 q03 q02 q04 q01 q05 x1 x2 x3 x4 x5 x6) (z0o q00 q03 q02 q04 q01 q05 x1 x2 x3 x4 x5 x6) (z0w q00 q03 q02 q04 q01 q05 x1 x2 x3 x4 x5 x6) x1 x2 x3 x4 x5 x6)
noncomputable def z8q (q00 : Nat) (q03 : List Nat) (q02 : Nat) (q04 : List Nat) (q01 : Nat) (q05 : List Nat) (x1 : Int) (x2 : Int) (x3 : Nat) (x4 : Nat) (x5 : Nat) (x6 : Nat) := (zga (z0p q00 q03 q02 q04 q01 q05 x1 x2 x3 x4 x5 x6) (z0r q00 q03 q02 q04 q01 q05 x1 x2 x3 x4 x5 x6) (z0n q00 q03 q02 q04 q01 q05 x1 x2 x3 x4 x5 x6) (z0u q00 q03 q02 q04 q01 q05 x1 x2 x3 x4 x5 x6) (z0o q00 q03 q02 q04 q01 q05 x1 x2 x3 x4 x5 x6) (z0w q00 q03 q02 q04 q01 q05 x1 x2 x3 x4 x5 x6) x1 x2 x3 x4 x5 x6)
noncomputable def zau (q00 : Nat) (q03 : List Nat) (q02 : Nat) (q04 : List Nat) (q01 : Nat) (q05 : List Nat) (x1 : Int) (x2 : Int) (x3 : Nat) (x4 : Nat) (x5 : Nat) (x6 : Nat) := (muN (z55 q00 q03 q02 q04 q01 q05 x1 x2 x3 x4 x5 x6) 1)
noncomputable def zb8 (q00 : Nat) (q03 : List Nat) (q02 : Nat) (q04 : List Nat) (q01 : Nat) (q05 : List Nat) (x1 : Int) (x2 : Int) (x3 : Nat) (x4 : Nat) (x5 : Nat) (x6 : Nat) := (muN (z54 q00 q03 q02 q04 q01 q05 x1 x2 x3 x4 x5 x6) 1)
noncomputable def zb3 (q00 : Nat) (q03 : List Nat) (q02 : Nat) (q04 : List Nat) (q01 : Nat) (q05 : List Nat) (x1 : Int) (x2 : Int) (x3 : Nat) (x4 : Nat) (x5 : Nat) (x6 : Nat) := (muN (z57 q00 q03 q02 q04 q01 q05 x1 x2 x3 x4 x5 x6) 3)
noncomputable def zap (q00 : Nat) (q03 : List Nat) (q02 : Nat) (q04 : List Nat) (q01 : Nat) (q05 : List Nat) (x1 : Int) (x2 : Int) (x3 : Nat) (x4 : Nat) (x5 : Nat) (x6 : Nat) := (muN (z56 q00 q03 q02 q04 q01 q05 x1 x2 x3 x4 x5 x6) 1)
noncomputable def z8x (q00 : Nat) (q03 : List Nat) (q02 : Nat) (q04 : List Nat) (q01 : Nat) (q05 : List Nat) (x1 : Int) (x2 : Int) (x3 : Nat) (x4 : Nat) (x5 : Nat) (x6 : Nat) := (z5p (z54 q00 q03 q02 q04 q01 q05 x1 x2 x3 x4 x5 x6) 1 0 (z7w q00 q03 q02 q04 q01 q05 x1 x2 x3 x4 x5 x6))
noncomputable def z8r (q00 : Nat) (q03 : List Nat) (q02 : Nat) (q04 : List Nat) (q01 : Nat) (q05 : List Nat) (x1 : Int) (x2 : Int) (x3 : Nat) (x4 : Nat) (x5 : Nat) (x6 : Nat) := (bnot (beqB (zgf (z0p q00 q03 q02 q04 q01 q05 x1 x2 x3 x4 x5 x6) (z0r q00 q03 q02 q04 q01 q05 x1 x2 x3 x4 x5 x6) (z0n q00 q03 q02 q04 q01 q05 x1 x2 x3 x4 x5 x6) (z0u q00 q03 q02 q04 q01 q05 x1 x2 x3 x4 x5 x6) (z0o q00 q03 q02 q04 q01 q05 x1 x2 x3 x4 x5 x6) (z0w q00 q03 q02 q04 q01 q05 x1 x2 x3 x4 x5 x6) x1 x2 x3 x4 x5 x6) (zgm (z0p q00 q03 q02 q04 q01 q05 x1 x2 x3 x4 x5 x6) (z0r q00 q03 q02 q04 q01 q05 x1 x2 x3 x4 x5 x6) (z0n q00 q03 q02 q04 q01 q05 x1 x2 x3 x4 x5 x6) (z0u q00 q03 q02 q04 q01 q05 x1 x2 x3 x4 x5 x6) (z0o q00 q03 q02 q04 q01 q05 x1 x2 x3 x4 x5 x6) (z0w q00 q03 q02 q04 q01 q05 x1 x2 x3 x4 x5 x6) x1 x2 x3 x4 x5 x6)))
noncomputable def zar (q00 : Nat) (q03 : List Nat) (q02 : Nat) (q04 : List Nat) (q01 : Nat) (q05 : List Nat) (x1 : Int) (x2 : Int) (x3 : Nat) (x4 : Nat) (x5 : Nat) (x6 : Nat) := (pF (z7s q00 q03 q02 q04 q01 q05 x1 x2 x3 x4 x5 x6) 0 (zb3 q00 q03 q02 q04 q01 q05 x1 x2 x3 x4 x5 x6))
noncomputable def zb7 (q00 : Nat) (q03 : List Nat) (q02 : Nat) (q04 : List Nat) (q01 : Nat) (q05 : List Nat) (x1 : Int) (x2 : Int) (x3 : Nat) (x4 : Nat) (x5 : Nat) (x6 : Nat) := (pF (zew (z0p q00 q03 q02 q04 q01 q05 x1 x2 x3 x4 x5 x6) (z0r q00 q03 q02 q04 q01 q05 x1 x2 x3 x4 x5 x6) (z0n q00 q03 q02 q04 q01 q05 x1 x2 x3 x4 x5 x6) (z0u q00 q03 q02 q04 q01 q05 x1 x2 x3 x4 x5 x6) (z0o q00 q03 q02 q04 q01 q05 x1 x2 x3 x4 x5 x6) (z0w q00 q03 q02 q04 q01 q05 x1 x2 x3 x4 x5 x6) x1 x2 x3 x4 x5 x6) 0 (muN (z8p q00 q03 q02 q04 q01 q05 x1 x2 x3 x4 x5 x6) 1))
noncomputable def zax (q00 : Nat) (q03 : List Nat) (q02 : Nat) (q04 : List Nat) (q01 : Nat) (q05 : List Nat) (x1 : Int) (x2 : Int) (x3 : Nat) (x4 : Nat) (x5 : Nat) (x6 : Nat) := (pF (zfe (z0p q00 q03 q02 q04 q01 q05 x1 x2 x3 x4 x5 x6) (z0r q00 q03 q02 q04 q01 q05 x1 x2 x3 x4 x5 x6) (z0n q00 q03 q02 q04 q01 q05 x1 x2 x3 x4 x5 x6) (z0u q00 q03 q02 q04 q01 q05 x1 x2 x3 x4 x5 x6) (z0o q00 q03 q02 q04 q01 q05 x1 x2 x3 x4 x5 x6) (z0w q00 q03 q02 q04 q01 q05 x1 x2 x3 x4 x5 x6) x1 x2 x3 x4 x5 x6) 0 (muN (z8u q00 q03 q02 q04 q01 q05 x1 x2 x3 x4 x5 x6) 3))
noncomputable def zas (q00 : Nat) (q03 : List Nat) (q02 : Nat) (q04 : List Nat) (q01 : Nat) (q05 : List Nat) (x1 : Int) (x2 : Int) (x3 : Nat) (x4 : Nat) (x5 : Nat) (x6 : Nat) := (pF (z7v q00 q03 q02 q04 q01 q05 x1 x2 x3 x4 x5 x6) 0 (zau q00 q03 q02 q04 q01 q05 x1 x2 x3 x4 x5 x6))
noncomputable def zam (q00 : Nat) (q03 : List Nat) (q02 : Nat) (q04 : List Nat) (q01 : Nat) (q05 : List Nat) (x1 : Int) (x2 : Int) (x3 : Nat) (x4 : Nat) (x5 : Nat) (x6 : Nat) := (pF (z7w q00 q03 q02 q04 q01 q05 x1 x2 x3 x4 x5 x6) 0 (zb8 q00 q03 q02 q04 q01 q05 x1 x2 x3 x4 x5 x6))
noncomputable def zav (q00 : Nat) (q03 : List Nat) (q02 : Nat) (q04 : List Nat) (q01 : Nat) (q05 : List Nat) (x1 : Int) (x2 : Int) (x3 : Nat) (x4 : Nat) (x5 : Nat) (x6 : Nat) := (pF (zge (z0p q00 q03 q02 q04 q01 q05 x1 x2 x3 x4 x5 x6) (z0r q00 q03 q02 q04 q01 q05 x1 x2 x3 x4 x5 x6) (z0n q00 q03 q02 q04 q01 q05 x1 x2 x3 x4 x5 x6) (z0u q00 q03 q02 q04 q01 q05 x1 x2 x3 x4 x5 x6) (z0o q00 q03 q02 q04 q01 q05 x1 x2 x3 x4 x5 x6) (z0w q00 q03 q02 q04 q01 q05 x1 x2 x3 x4 x5 x6) x1 x2 x3 x4 x5 x6) 0 (muN (z8q q00 q03 q02 q04 q01 q05 x1 x2 x3 x4 x5 x6) 1))
noncomputable def zaw (q00 : Nat) (q03 : List Nat) (q02 : Nat) (q04 : List Nat) (q01 : Nat) (q05 : List Nat) (x1 : Int) (x2 : Int) (x3 : Nat) (x4 : Nat) (x5 : Nat) (x6 : Nat) := (pF (zgh (z0p q00 q03 q02 q04 q01 q05 x1 x2 x3 x4 x5 x6) (z0r q00 q03 q02 q04 q01 q05 x1 x2 x3 x4 x5 x6) (z0n q00 q03 q02 q04 q01 q05 x1 x2 x3 x4 x5 x6) (z0u q00 q03 q02 q04 q01 q05 x1 x2 x3 x4 x5 x6) (z0o q00 q03 q02 q04 q01 q05 x1 x2 x3 x4 x5 x6) (z0w q00 q03 q02 q04 q01 q05 x1 x2 x3 x4 x5 x6) x1 x2 x3 x4 x5 x6) 0 (muN (z8n q00 q03 q02 q04 q01 q05 x1 x2 x3 x4 x5 x6) 1))
noncomputable def zay (q00 : Nat) (q03 : List Nat) (q02 : Nat) (q04 : List Nat) (q01 : Nat) (q05 : List Nat) (x1 : Int) (x2 : Int) (x3 : Nat) (x4 : Nat) (x5 : Nat) (x6 : Nat) := (pF (z7r q00 q03 q02 q04 q01 q05 x1 x2 x3 x4 x5 x6) 0 (zap q00 q03 q02 q04 q01 q05 x1 x2 x3 x4 x5 x6))
noncomputable def zba (q00 : Nat) (q03 : List Nat) (q02 : Nat) (q04 : List Nat) (q01 : Nat) (q05 : List Nat) (x1 : Int) (x2 : Int) (x3 : Nat) (x4 : Nat) (x5 : Nat) (x6 : Nat) := (pF (z5q (z54 q00 q03 q02 q04 q01 q05 x1 x2 x3 x4 x5 x6) 1 0 (z7w q00 q03 q02 q04 q01 q05 x1 x2 x3 x4 x5 x6)) 0 (zb8 q00 q03 q02 q04 q01 q05 x1 x2 x3 x4 x5 x6))
noncomputable def z8y (q00 : Nat) (q03 : List Nat) (q02 : Nat) (q04 : List Nat) (q01 : Nat) (q05 : List Nat) (x1 : Int) (x2 : Int) (x3 : Nat) (x4 : Nat) (x5 : Nat) (x6 : Nat) := (z5r (z55 q00 q03 q02 q04 q01 q05 x1 x2 x3 x4 x5 x6) (z8x q00 q03 q02 q04 q01 q05 x1 x2 x3 x4 x5 x6) 0 (z7v q00 q03 q02 q04 q01 q05 x1 x2 x3 x4 x5 x6))
noncomputable def zb6 (q00 : Nat) (q03 : List Nat) (q02 : Nat) (q04 : List Nat) (q01 : Nat) (q05 : List Nat) (x1 : Int) (x2 : Int) (x3 : Nat) (x4 : Nat) (x5 : Nat) (x6 : Nat) := (pF (z5m (z55 q00 q03 q02 q04 q01 q05 x1 x2 x3 x4 x5 x6) (z8x q00 q03 q02 q04 q01 q05 x1 x2 x3 x4 x5 x6) 0 (z7v q00 q03 q02 q04 q01 q05 x1 x2 x3 x4 x5 x6)) 0 (zau q00 q03 q02 q04 q01 q05 x1 x2 x3 x4 x5 x6))
noncomputable def z8o (q00 : Nat) (q03 : List Nat) (q02 : Nat) (q04 : List Nat) (q01 : Nat) (q05 : List Nat) (x1 : Int) (x2 : Int) (x3 : Nat) (x4 : Nat) (x5 : Nat) (x6 : Nat) := (z5s (z56 q00 q03 q02 q04 q01 q05 x1 x2 x3 x4 x5 x6) (z8y q00 q03 q02 q04 q01 q05 x1 x2 x3 x4 x5 x6) 0 (z7r q00 q03 q02 q04 q01 q05 x1 x2 x3 x4 x5 x6))
noncomputable def zat (q00 : Nat) (q03 : List Nat) (q02 : Nat) (q04 : List Nat) (q01 : Nat) (q05 : List Nat) (x1 : Int) (x2 : Int) (x3 : Nat) (x4 : Nat) (x5 : Nat) (x6 : Nat) := (pF (z5u (z56 q00 q03 q02 q04 q01 q05 x1 x2 x3 x4 x5 x6) (z8y q00 q03 q02 q04 q01 q05 x1 x2 x3 x4 x5 x6) 0 (z7r q00 q03 q02 q04 q01 q05 x1 x2 x3 x4 x5 x6)) 0 (zap q00 q03 q02 q04 q01 q05 x1 x2 x3 x4 x5 x6))
noncomputable def zao (q00 : Nat) (q03 : List Nat) (q02 : Nat) (q04 : List Nat) (q01 : Nat) (q05 : List Nat) (x1 : Int) (x2 : Int) (x3 : Nat) (x4 : Nat) (x5 : Nat) (x6 : Nat) := (pF (z65 (z57 q00 q03 q02 q04 q01 q05 x1 x2 x3 x4 x5 x6) (z8o q00 q03 q02 q04 q01 q05 x1 x2 x3 x4 x5 x6) 0 (z7s q00 q03 q02 q04 q01 q05 x1 x2 x3 x4 x5 x6)) 0 (zb3 q00 q03 q02 q04 q01 q05 x1 x2 x3 x4 x5 x6))
noncomputable def z8w (q00 : Nat) (q03 : List Nat) (q02 : Nat) (q04 : List Nat) (q01 : Nat) (q05 : List Nat) (x1 : Int) (x2 : Int) (x3 : Nat) (x4 : Nat) (x5 : Nat) (x6 : Nat) := (zjd (z54 q00 q03 q02 q04 q01 q05 x1 x2 x3 x4 x5 x6) (zam q00 q03 q02 q04 q01 q05 x1 x2 x3 x4 x5 x6) (z55 q00 q03 q02 q04 q01 q05 x1 x2 x3 x4 x5 x6) (zas q00 q03 q02 q04 q01 q05 x1 x2 x3 x4 x5 x6) (z56 q00 q03 q02 q04 q01 q05 x1 x2 x3 x4 x5 x6) (zay q00 q03 q02 q04 q01 q05 x1 x2 x3 x4 x5 x6) (z57 q00 q03 q02 q04 q01 q05 x1 x2 x3 x4 x5 x6) (zar q00 q03 q02 q04 q01 q05 x1 x2 x3 x4 x5 x6) (z7t q00 q03 q02 q04 q01 q05 x1 x2 x3 x4 x5 x6) (z7q q00 q03 q02 q04 q01 q05 x1 x2 x3 x4 x5 x6) (z7u q00 q03 q02 q04 q01 q05 x1 x2 x3 x4 x5 x6) (z8n q00 q03 q02 q04 q01 q05 x1 x2 x3 x4 x5 x6) (zaw q00 q03 q02 q04 q01 q05 x1 x2 x3 x4 x5 x6) (z8q q00 q03 q02 q04 q01 q05 x1 x2 x3 x4 x5 x6) (zav q00 q03 q02 q04 q01 q05 x1 x2 x3 x4 x5 x6) (z8p q00 q03 q02 q04 q01 q05 x1 x2 x3 x4 x5 x6) (zb7 q00 q03 q02 q04 q01 q05 x1 x2 x3 x4 x5 x6) (z8u q00 q03 q02 q04 q01 q05 x1 x2 x3 x4 x5 x6) (zax q00 q03 q02 q04 q01 q05 x1 x2 x3 x4 x5 x6) (zan q00 q03 q02 q04 q01 q05 x1 x2 x3 x4 x5 x6) (zb5 q00 q03 q02 q04 q01 q05 x1 x2 x3 x4 x5 x6) (zb2 q00 q03 q02 q04 q01 q05 x1 x2 x3 x4 x5 x6))
noncomputable def z8s (q00 : Nat) (q03 : List Nat) (q02 : Nat) (q04 : List Nat) (q01 : Nat) (q05 : List Nat) (x1 : Int) (x2 : Int) (x3 : Nat) (x4 : Nat) (x5 : Nat) (x6 : Nat) := (bnot (zis (z54 q00 q03 q02 q04 q01 q05 x1 x2 x3 x4 x5 x6) (zam q00 q03 q02 q04 q01 q05 x1 x2 x3 x4 x5 x6) (z55 q00 q03 q02 q04 q01 q05 x1 x2 x3 x4 x5 x6) (zas q00 q03 q02 q04 q01 q05 x1 x2 x3 x4 x5 x6) (z56 q00 q03 q02 q04 q01 q05 x1 x2 x3 x4 x5 x6) (zay q00 q03 q02 q04 q01 q05 x1 x2 x3 x4 x5 x6) (z57 q00 q03 q02 q04 q01 q05 x1 x2 x3 x4 x5 x6) (zar q00 q03 q02 q04 q01 q05 x1 x2 x3 x4 x5 x6) (z7t q00 q03 q02 q04 q01 q05 x1 x2 x3 x4 x5 x6) (z7q q00 q03 q02 q04 q01 q05 x1 x2 x3 x4 x5 x6) (z7u q00 q03 q02 q04 q01 q05 x1 x2 x3 x4 x5 x6) (z8n q00 q03 q02 q04 q01 q05 x1 x2 x3 x4 x5 x6) (zaw q00 q03 q02 q04 q01 q05 x1 x2 x3 x4 x5 x6) (z8q q00 q03 q02 q04 q01 q05 x1 x2 x3 x4 x5 x6) (zav q00 q03 q02 q04 q01 q05 x1 x2 x3 x4 x5 x6) (z8p q00 q03 q02 q04 q01 q05 x1 x2 x3 x4 x5 x6) (zb7 q00 q03 q02 q04 q01 q05 x1 x2 x3 x4 x5 x6) (z8u q00 q03 q02 q04 q01 q05 x1 x2 x3 x4 x5 x6) (zax q00 q03 q02 q04 q01 q05 x1 x2 x3 x4 x5 x6) (zan q00 q03 q02 q04 q01 q05 x1 x2 x3 x4 x5 x6) (zb5 q00 q03 q02 q04 q01 q05 x1 x2 x3 x4 x5 x6) (zb2 q00 q03 q02 q04 q01 q05 x1 x2 x3 x4 x5 x6)))
noncomputable def zal (q00 : Nat) (q03 : List Nat) (q02 : Nat) (q04 : List Nat) (q01 : Nat) (q05 : List Nat) (x1 : Int) (x2 : Int) (x3 : Nat) (x4 : Nat) (x5 : Nat) (x6 : Nat) := (zij (z54 q00 q03 q02 q04 q01 q05 x1 x2 x3 x4 x5 x6) (zba q00 q03 q02 q04 q01 q05 x1 x2 x3 x4 x5 x6) (z55 q00 q03 q02 q04 q01 q05 x1 x2 x3 x4 x5 x6) (zb6 q00 q03 q02 q04 q01 q05 x1 x2 x3 x4 x5 x6) (z56 q00 q03 q02 q04 q01 q05 x1 x2 x3 x4 x5 x6) (zat q00 q03 q02 q04 q01 q05 x1 x2 x3 x4 x5 x6) (z57 q00 q03 q02 q04 q01 q05 x1 x2 x3 x4 x5 x6) (zao q00 q03 q02 q04 q01 q05 x1 x2 x3 x4 x5 x6) (z7t q00 q03 q02 q04 q01 q05 x1 x2 x3 x4 x5 x6) (z7q q00 q03 q02 q04 q01 q05 x1 x2 x3 x4 x5 x6) (z7u q00 q03 q02 q04 q01 q05 x1 x2 x3 x4 x5 x6) 1)
noncomputable def zaq (q00 : Nat) (q03 : List Nat) (q02 : Nat) (q04 : List Nat) (q01 : Nat) (q05 : List Nat) (x1 : Int) (x2 : Int) (x3 : Nat) (x4 : Nat) (x5 : Nat) (x6 : Nat) := (zgl (z54 q00 q03 q02 q04 q01 q05 x1 x2 x3 x4 x5 x6) (zba q00 q03 q02 q04 q01 q05 x1 x2 x3 x4 x5 x6) (z55 q00 q03 q02 q04 q01 q05 x1 x2 x3 x4 x5 x6) (zb6 q00 q03 q02 q04 q01 q05 x1 x2 x3 x4 x5 x6) (z56 q00 q03 q02 q04 q01 q05 x1 x2 x3 x4 x5 x6) (zat q00 q03 q02 q04 q01 q05 x1 x2 x3 x4 x5 x6) (z57 q00 q03 q02 q04 q01 q05 x1 x2 x3 x4 x5 x6) (zao q00 q03 q02 q04 q01 q05 x1 x2 x3 x4 x5 x6) (z7t q00 q03 q02 q04 q01 q05 x1 x2 x3 x4 x5 x6) (z7q q00 q03 q02 q04 q01 q05 x1 x2 x3 x4 x5 x6) (z7u q00 q03 q02 q04 q01 q05 x1 x2 x3 x4 x5 x6) 1)
noncomputable def zak (q00 : Nat) (q03 : List Nat) (q02 : Nat) (q04 : List Nat) (q01 : Nat) (q05 : List Nat) (x1 : Int) (x2 : Int) (x3 : Nat) (x4 : Nat) (x5 : Nat) (x6 : Nat) := (ltI (zaq q00 q03 q02 q04 q01 q05 x1 x2 x3 x4 x5 x6) 0)
noncomputable def zb0 (q00 : Nat) (q03 : List Nat) (q02 : Nat) (q04 : List Nat) (q01 : Nat) (q05 : List Nat) (x1 : Int) (x2 : Int) (x3 : Nat) (x4 : Nat) (x5 : Nat) (x6 : Nat) := (neI (zaq q00 q03 q02 q04 q01 q05 x1 x2 x3 x4 x5 x6) (z61 (z57 q00 q03 q02 q04 q01 q05 x1 x2 x3 x4 x5 x6) (z8o q00 q03 q02 q04 q01 q05 x1 x2 x3 x4 x5 x6) 0 (z7s q00 q03 q02 q04 q01 q05 x1 x2 x3 x4 x5 x6)))
noncomputable def z8c {R : Type} (q00 : Nat) (q03 : List Nat) (q02 : Nat) (q04 : List Nat) (q01 : Nat) (q05 : List Nat) (x1 : Int) (x2 : Int) (x3 : Nat) (x4 : Nat) (x5 : Nat) (x6 : Nat) (k_ : Bool → Option R) : Option R := (grd (zdo q00 (pF q03 0 (muN q00 1)) q02 (pF q04 0 (muN q02 1)) q01 (pF q05 0 (muN q01 1)) 1048576) (br (ltI (zd2 q00 (pF q03 0 (muN q00 1)) q02 (pF q04 0 (muN q02 1)) q01 (pF q05 0 (muN q01 1)) 1048576) 0) (k_ Bool.true) (grd (z88 q00 q03 q02 q04 q01 q05 x1 x2 x3 x4 x5 x6) (grd (zic (z0p q00 q03 q02 q04 q01 q05 x1 x2 x3 x4 x5 x6) (z0r q00 q03 q02 q04 q01 q05 x1 x2 x3 x4 x5 x6) (z0n q00 q03 q02 q04 q01 q05 x1 x2 x3 x4 x5 x6) (z0u q00 q03 q02 q04 q01 q05 x1 x2 x3 x4 x5 x6) (z0o q00 q03 q02 q04 q01 q05 x1 x2 x3 x4 x5 x6) (z0w q00 q03 q02 q04 q01 q05 x1 x2 x3 x4 x5 x6) x1 x2 x3 x4 x5 x6) (grd (z88 q00 q03 q02 q04 q01 q05 x1 x2 x3 x4 x5 x6) (grd (zb4 q00 q03 q02 q04 q01 q05 x1 x2 x3 x4 x5 x6) (grd (z8w q00 q03 q02 q04 q01 q05 x1 x2 x3 x4 x5 x6) (br (z8s q00 q03 q02 q04 q01 q05 x1 x2 x3 x4 x5 x6) (k_ Bool.false) (br (z8r q00 q03 q02 q04 q01 q05 x1 x2 x3 x4 x5 x6) (k_ Bool.false) (grd (z88 q00 q03 q02 q04 q01 q05 x1 x2 x3 x4 x5 x6) (grd (zc7 (z0p q00 q03 q02 q04 q01 q05 x1 x2 x3 x4 x5 x6) (z0r q00 q03 q02 q04 q01 q05 x1 x2 x3 x4 x5 x6) (z0n q00 q03 q02 q04 q01 q05 x1 x2 x3 x4 x5 x6) (z0u q00 q03 q02 q04 q01 q05 x1 x2 x3 x4 x5 x6) (z0o q00 q03 q02 q04 q01 q05 x1 x2 x3 x4 x5 x6) (z0w q00 q03 q02 q04 q01 q05 x1 x2 x3 x4 x5 x6) (z0p q00 q03 q02 q04 q01 q05 x1 x2 x3 x4 x5 x6) (z0r q00 q03 q02 q04 q01 q05 x1 x2 x3 x4 x5 x6) (z0n q00 q03 q02 q04 q01 q05 x1 x2 x3 x4 x5 x6) (z0u q00 q03 q02 q04 q01 q05 x1 x2 x3 x4 x5 x6) (z0o q00 q03 q02 q04 q01 q05 x1 x2 x3 x4 x5 x6) (z0w q00 q03 q02 q04 q01 q05 x1 x2 x3 x4 x5 x6)) (br (bnot (zbm (z0p q00 q03 q02 q04 q01 q05 x1 x2 x3 x4 x5 x6) (z0r q00 q03 q02 q04 q01 q05 x1 x2 x3 x4 x5 x6) (z0n q00 q03 q02 q04 q01 q05 x1 x2 x3 x4 x5 x6) (z0u q00 q03 q02 q04 q01 q05 x1 x2 x3 x4 x5 x6) (z0o q00 q03 q02 q04 q01 q05 x1 x2 x3 x4 x5 x6) (z0w q00 q03 q02 q04 q01 q05 x1 x2 x3 x4 x5 x6) (z0p q00 q03 q02 q04 q01 q05 x1 x2 x3 x4 x5 x6) (z0r q00 q03 q02 q04 q01 q05 x1 x2 x3 x4 x5 x6) (z0n q00 q03 q02 q04 q01 q05 x1 x2 x3 x4 x5 x6) (z0u q00 q03 q02 q04 q01 q05 x1 x2 x3 x4 x5 x6) (z0o q00 q03 q02 q04 q01 q05 x1 x2 x3 x4 x5 x6) (z0w q00 q03 q02 q04 q01 q05 x1 x2 x3 x4 x5 x6))) (k_ Bool.false) (grd (z6v (z0p q00 q03 q02 q04 q01 q05 x1 x2 x3 x4 x5 x6) 1 0 (z95 q00 q03 q02 q04 q01 q05 x1 x2 x3 x4 x5 x6)) (grd (z6g (z0n q00 q03 q02 q04 q01 q05 x1 x2 x3 x4 x5 x6) (zbd q00 q03 q02 q04 q01 q05 x1 x2 x3 x4 x5 x6) 0 (z93 q00 q03 q02 q04 q01 q05 x1 x2 x3 x4 x5 x6)) (grd (z6j (z0o q00 q03 q02 q04 q01 q05 x1 x2 x3 x4 x5 x6) (zb9 q00 q03 q02 q04 q01 q05 x1 x2 x3 x4 x5 x6) 0 (z90 q00 q03 q02 q04 q01 q05 x1 x2 x3 x4 x5 x6)) (br (ltI (z5n (z0o q00 q03 q02 q04 q01 q05 x1 x2 x3 x4 x5 x6) (zb9 q00 q03 q02 q04 q01 q05 x1 x2 x3 x4 x5 x6) 0 (z90 q00 q03 q02 q04 q01 q05 x1 x2 x3 x4 x5 x6)) 0) (k_ Bool.false) (grd (z8w q00 q03 q02 q04 q01 q05 x1 x2 x3 x4 x5 x6) (br (z8s q00 q03 q02 q04 q01 q05 x1 x2 x3 x4 x5 x6) (k_ Bool.false) (br (z8r q00 q03 q02 q04 q01 q05 x1 x2 x3 x4 x5 x6) (k_ Bool.false) (grd (z69 (z54 q00 q03 q02 q04 q01 q05 x1 x2 x3 x4 x5 x6) 1 0 (z7w q00 q03 q02 q04 q01 q05 x1 x2 x3 x4 x5 x6)) (grd (z6e (z55 q00 q03 q02 q04 q01 q05 x1 x2 x3 x4 x5 x6) (z8x q00 q03 q02 q04 q01 q05 x1 x2 x3 x4 x5 x6) 0 (z7v q00 q03 q02 q04 q01 q05 x1 x2 x3 x4 x5 x6)) (grd (z6h (z56 q00 q03 q02 q04 q01 q05 x1 x2 x3 x4 x5 x6) (z8y q00 q03 q02 q04 q01 q05 x1 x2 x3 x4 x5 x6) 0 (z7r q00 q03 q02 q04 q01 q05 x1 x2 x3 x4 x5 x6)) (grd (z6o (z57 q00 q03 q02 q04 q01 q05 x1 x2 x3 x4 x5 x6) (z8o q00 q03 q02 q04 q01 q05 x1 x2 x3 x4 x5 x6) 0 (z7s q00 q03 q02 q04 q01 q05 x1 x2 x3 x4 x5 x6)) (grd (zal q00 q03 q02 q04 q01 q05 x1 x2 x3 x4 x5 x6) (br (zak q00 q03 q02 q04 q01 q05 x1 x2 x3 x4 x5 x6) (k_ Bool.false) (br (zb0 q00 q03 q02 q04 q01 q05 x1 x2 x3 x4 x5 x6) (k_ Bool.false) (grd (z88 q00 q03 q02 q04 q01 q05 x1 x2 x3 x4 x5 x6) (grd (zb4 q00 q03 q02 q04 q01 q05 x1 x2 x3 x4 x5 x6) (grd (z8w q00 q03 q02 q04 q01 q05 x1 x2 x3 x4 x5 x6) (br (z8s q00 q03 q02 q04 q01 q05 x1 x2 x3 x4 x5 x6) (k_ Bool.false) (br (z8r q00 q03 q02 q04 q01 q05 x1 x2 x3 x4 x5 x6) (k_ Bool.false) (grd (zal q00 q03 q02 q04 q01 q05 x1 x2 x3 x4 x5 x6) (br (zak q00 q03 q02 q04 q01 q05 x1 x2 x3 x4 x5 x6) (k_ Bool.false) (br (zb0 q00 q03 q02 q04 q01 q05 x1 x2 x3 x4 x5 x6) (k_ Bool.false) (k_ Bool.true)))))))))))))))))))))))))))))))))))
noncomputable def z8b (q00 : Nat) (q03 : List Nat) (q02 : Nat) (q04 : List Nat) (q01 : Nat) (q05 : List Nat) (x1 : Int) (x2 : Int) (x3 : Nat) (x4 : Nat) (x5 : Nat) (x6 : Nat) : Option (Bool) := z8c q00 q03 q02 q04 q01 q05 x1 x2 x3 x4 x5 x6 (fun c0_ => some c0_)
theorem zjz {R R' : Type} (o : Option R → Option R') (h0 : o none = none) (q00 : Nat) (q03 : List Nat) (q02 : Nat) (q04 : List Nat) (q01 : Nat) (q05 : List Nat) (x1 : Int) (x2 : Int) (x3 : Nat) (x4 : Nat) (x5 : Nat) (x6 : Nat) (k_ : Bool → Option R) : z8c q00 q03 q02 q04 q01 q05 x1 x2 x3 x4 x5 x6 (fun c0_ => o (k_ c0_)) = o (z8c q00 q03 q02 q04 q01 q05 x1 x2 x3 x4 x5 x6 k_) := by
  unfold z8c
  repeat (first | refine grd_out h0 ?_ | refine br_out ?_ ?_ | rfl | exact h0.symm)
noncomputable def zen (q00 : Nat) (q03 : List Nat) (q02 : Nat) (q04 : List Nat) (q01 : Nat) (q05 : List Nat) (x1 : Int) (x2 : Int) (x3 : Nat) (x4 : Nat) (x5 : Nat) (x6 : Nat) : Bool := (z8b q00 q03 q02 q04 q01 q05 x1 x2 x3 x4 x5 x6).isSome
noncomputable def zdp (q00 : Nat) (q03 : List Nat) (q02 : Nat) (q04 : List Nat) (q01 : Nat) (q05 : List Nat) (x1 : Int) (x2 : Int) (x3 : Nat) (x4 : Nat) (x5 : Nat) (x6 : Nat) : Bool := ((z8b q00 q03 q02 q04 q01 q05 x1 x2 x3 x4 x5 x6).getD default)
theorem zkv {q00 : Nat} {q03 : List Nat} {q02 : Nat} {q04 : List Nat} {q01 : Nat} {q05 : List Nat} {x1 : Int} {x2 : Int} {x3 : Nat} {x4 : Nat} {x5 : Nat} {x6 : Nat} {r : Bool} (h : z8b q00 q03 q02 q04 q01 q05 x1 x2 x3 x4 x5 x6 = some r) : zen q00 q03 q02 q04 q01 q05 x1 x2 x3 x4 x5 x6 = true ∧ zdp q00 q03 q02 q04 q01 q05 x1 x2 x3 x4 x5 x6 = r := by
  unfold zen zdp
  rw [h]
  exact ⟨rfl, rfl⟩
end Go.Rf
